/- The pure statement of the law MergeSees: over the Lean functions that the Go code was shown to compute, the law answers true for every input within the statement's own bounds. No further conditions. -/
import Derived.Test.YtoomipmndapgnaaPMergeSeesx7
namespace Go.Proofs.Ytoomipmndapgnaa.Pure
open Go.RowKit Go.Proofs.Ytoomipmndapgnaa.PMergeSees Go.Proofs.YtoomipmndapgnaaW.PrintWords Go.Proofs.YtoomipmndapgnaaW.PrintLast Go.Proofs.YtoomipmndapgnaaW.PrintMore
set_option linter.unusedVariables false
set_option linter.unusedSimpArgs false

theorem w64 {x : Int} (h0 : -9223372036854775808 ≤ x) (h1 : x < 9223372036854775808) : wrap64 x = x := by
  unfold wrap64; omega
theorem bits_xor_nat (k : IntKind) (j : Nat) (hj : j ≤ k.bits) (hk : ∀ n : Int, 0 ≤ n → n < 2 ^ j → k.wrap n = n) (a b : Nat) (ha : a < 2 ^ j) (hb : b < 2 ^ j) :
    Go.bits .xor k a b = ((a ^^^ b : Nat) : Int) := by
  have hp : 2 ^ j ≤ 2 ^ k.bits := Nat.pow_le_pow_right (by decide) hj
  have ha' : a % 2 ^ k.bits = a := Nat.mod_eq_of_lt (Nat.lt_of_lt_of_le ha hp)
  have hb' : b % 2 ^ k.bits = b := Nat.mod_eq_of_lt (Nat.lt_of_lt_of_le hb hp)
  simp only [Go.bits, BitVec.ofInt_natCast, BitVec.toNat_xor, BitVec.toNat_ofNat, ha', hb']
  exact hk _ (Int.natCast_nonneg _) (by exact_mod_cast Nat.xor_lt_two_pow ha hb)
theorem wr_u32 (n : Int) (h₀ : 0 ≤ n) (h₁ : n < 2 ^ 32) : IntKind.u32.wrap n = n := by rw [IntKind.wrap_u32]; omega
theorem wr_u8 (n : Int) (h₀ : 0 ≤ n) (h₁ : n < 2 ^ 8) : IntKind.u8.wrap n = n := by rw [IntKind.wrap_u8]; omega
theorem wr_i64 (n : Int) (h₀ : 0 ≤ n) (h₁ : n < 2 ^ 63) : IntKind.i64.wrap n = n := by rw [IntKind.wrap_i64]; omega
theorem wr_u64 (n : Int) : IntKind.u64.wrap n = n % 18446744073709551616 := by simp [IntKind.wrap, IntKind.bits, IntKind.signed]
theorem bx_u32 (a b : Nat) (ha : a < 2 ^ 32) (hb : b < 2 ^ 32) : Go.bits .xor .u32 a b = ((a ^^^ b : Nat) : Int) := bits_xor_nat .u32 32 (by decide) wr_u32 a b ha hb
theorem bx_u8 (a b : Nat) (ha : a < 2 ^ 8) (hb : b < 2 ^ 8) : Go.bits .xor .u8 a b = ((a ^^^ b : Nat) : Int) := bits_xor_nat .u8 8 (by decide) wr_u8 a b ha hb
theorem bx_i64 (a b : Nat) (ha : a < 2 ^ 63) (hb : b < 2 ^ 63) : Go.bits .xor .i64 a b = ((a ^^^ b : Nat) : Int) := bits_xor_nat .i64 63 (by decide) wr_i64 a b ha hb
theorem bo_i64 (a b : Nat) (ha : a < 2 ^ 63) (hb : b < 2 ^ 63) : Go.bits .or .i64 a b = ((a ||| b : Nat) : Int) := (bits_nat .i64 63 (by decide) wr_i64 a b ha hb).2
theorem bo_u8 (a b : Nat) (ha : a < 2 ^ 8) (hb : b < 2 ^ 8) : Go.bits .or .u8 a b = ((a ||| b : Nat) : Int) := (bits_nat .u8 8 (by decide) wr_u8 a b ha hb).2
theorem ba_u8 (a b : Nat) (ha : a < 2 ^ 8) (hb : b < 2 ^ 8) : Go.bits .and .u8 a b = ((a &&& b : Nat) : Int) := (bits_nat .u8 8 (by decide) wr_u8 a b ha hb).1
theorem ba_u32 (a b : Nat) (ha : a < 2 ^ 32) (hb : b < 2 ^ 32) : Go.bits .and .u32 a b = ((a &&& b : Nat) : Int) := (bits_nat .u32 32 (by decide) wr_u32 a b ha hb).1
theorem max_u32 : IntKind.u32.max = ((4294967295 : Nat) : Int) := by decide
theorem wf_u8 {x : Int} (h : (Lit.int .u8 x).wf = true) : 0 ≤ x ∧ x < 256 := by
  simp [Lit.wf, IntKind.min, IntKind.max, IntKind.signed, IntKind.bits] at h; omega
theorem wf_u16 {x : Int} (h : (Lit.int .u16 x).wf = true) : 0 ≤ x ∧ x < 65536 := by
  simp [Lit.wf, IntKind.min, IntKind.max, IntKind.signed, IntKind.bits] at h; omega
theorem wf_u32 {x : Int} (h : (Lit.int .u32 x).wf = true) : 0 ≤ x ∧ x < 4294967296 := by
  simp [Lit.wf, IntKind.min, IntKind.max, IntKind.signed, IntKind.bits] at h; omega
theorem wf_u64 {x : Int} (h : (Lit.int .u64 x).wf = true) : 0 ≤ x ∧ x < 18446744073709551616 := by
  simp [Lit.wf, IntKind.min, IntKind.max, IntKind.signed, IntKind.bits] at h; omega
theorem wf_i64 {x : Int} (h : (Lit.int .i64 x).wf = true) : -9223372036854775808 ≤ x ∧ x < 9223372036854775808 := by
  simp [Lit.wf, IntKind.min, IntKind.max, IntKind.signed, IntKind.bits] at h; omega

theorem bless_irrefl : ∀ x : List UInt8, Op.bytesLess x x = false
  | [] => rfl
  | a :: x => by simp [Op.bytesLess, bless_irrefl x]
theorem bless_trans : ∀ x y z : List UInt8, Op.bytesLess x y = true → Op.bytesLess y z = true → Op.bytesLess x z = true
  | _, [], _, h, _ => by simp [Op.bytesLess] at h
  | _, _ :: _, [], _, h => by simp [Op.bytesLess] at h
  | [], _ :: _, _ :: _, _, _ => rfl
  | a :: x, b :: y, c :: z, h1, h2 => by
    simp only [Op.bytesLess, Bool.or_eq_true, decide_eq_true_eq, Bool.and_eq_true, beq_iff_eq] at h1 h2 ⊢
    rcases h1 with h1 | ⟨rfl, h1⟩
    · rcases h2 with h2 | ⟨rfl, h2⟩
      · exact Or.inl (UInt8.lt_trans h1 h2)
      · exact Or.inl h1
    · rcases h2 with h2 | ⟨rfl, h2⟩
      · exact Or.inl h2
      · exact Or.inr ⟨rfl, bless_trans x y z h1 h2⟩
theorem bless_total : ∀ x y : List UInt8, Op.bytesLess x y = true ∨ x = y ∨ Op.bytesLess y x = true
  | [], [] => Or.inr (Or.inl rfl)
  | [], _ :: _ => Or.inl rfl
  | _ :: _, [] => Or.inr (Or.inr rfl)
  | a :: x, b :: y => by
    simp only [Op.bytesLess, Bool.or_eq_true, decide_eq_true_eq, Bool.and_eq_true, beq_iff_eq, List.cons.injEq]
    rcases UInt8.lt_or_lt_of_ne (a := a) (b := b) |> fun h => (Classical.em (a = b)) with h | h
    · subst h
      rcases bless_total x y with h | h | h
      · exact Or.inl (Or.inr ⟨rfl, h⟩)
      · exact Or.inr (Or.inl ⟨rfl, h⟩)
      · exact Or.inr (Or.inr (Or.inr ⟨rfl, h⟩))
    · rcases UInt8.lt_or_lt_of_ne h with h | h
      · exact Or.inl (Or.inl h)
      · exact Or.inr (Or.inr (Or.inl h))

/-! ### Lists of entries -/
theorem S31_eta (v : S31) : (⟨(⟨v.f0.f0, v.f0.f1, v.f0.f2⟩ : S29), v.f1⟩ : S31) = v := rfl
theorem rd31_at (u w : List S31) (x : S31) (i : Int) (h : i = u.length) : rd_T31 (u ++ x :: w) i = x := by
  unfold rd_T31
  rw [h, Int.toNat_natCast, List.getD_eq_getElem?_getD, List.getElem?_append_right (Nat.le_refl _), Nat.sub_self]; rfl
theorem set31_at (u w : List S31) (x y : S31) (i : Int) (h : i = u.length) : (u ++ x :: w).set i.toNat y = u ++ y :: w := by
  rw [h, Int.toNat_natCast, List.set_append_right _ _ (Nat.le_refl _), Nat.sub_self]; rfl
theorem cut_mid (B : List S31) (n : Nat) (h : n < B.length) : ∃ C y D, B = C ++ y :: D ∧ C.length = n := ⟨B.take n, B[n], B.drop (n + 1), by rw [List.getElem_cons_drop, List.take_append_drop], by simp; omega⟩
theorem rd31_get (l : List S31) (i : Int) (h0 : 0 ≤ i) (h1 : i < (l.length : Int)) : ∃ u x w, l = u ++ x :: w ∧ i = u.length ∧ rd_T31 l i = x := by
  obtain ⟨u, x, w, e, hu⟩ := cut_mid l i.toNat (by omega)
  exact ⟨u, x, w, e, by omega, by rw [e]; exact rd31_at u w x i (by omega)⟩
theorem snoc_of (A : List S31) (h : A ≠ []) : ∃ B y, A = B ++ [y] := ⟨A.dropLast, A.getLast h, (List.dropLast_concat_getLast _).symm⟩
theorem cons_of (A : List S31) (h : A ≠ []) : ∃ y B, A = y :: B := by
  cases A with
  | nil => exact absurd rfl h
  | cons y B => exact ⟨y, B, rfl⟩

/-! ### Stable sorting: lists over an order by a comparing function, alike elements let in -/
structure Cmp3 {α : Type} (c : α → α → Int) : Prop where
  refl : ∀ x, c x x = 0
  anti : ∀ x y, c x y < 0 ↔ 0 < c y x
  trans : ∀ x y z, c x y ≤ 0 → c y z ≤ 0 → c x z ≤ 0
section
variable {α : Type} {c : α → α → Int}
theorem Cmp3.le_or (h : Cmp3 c) (x y : α) : c x y ≤ 0 ∨ c y x < 0 := by
  have := h.anti y x; omega
theorem Cmp3.swap0 (h : Cmp3 c) {x y : α} (e : c x y = 0) : c y x = 0 := by
  have := h.anti y x; have := h.anti x y; omega
theorem Cmp3.lt_le (h : Cmp3 c) {x y z : α} (a : c x y < 0) (b : c y z ≤ 0) : c x z < 0 := by
  rcases h.le_or z x with k | k
  · have := h.trans y z x b k
    have := h.anti x y; omega
  · exact k
theorem Cmp3.le_lt (h : Cmp3 c) {x y z : α} (a : c x y ≤ 0) (b : c y z < 0) : c x z < 0 := by
  rcases h.le_or z x with k | k
  · have := h.trans z x y k a
    have := h.anti y z; omega
  · exact k
theorem Cmp3.same_l (h : Cmp3 c) {p x y : α} (a : c p x = 0) (b : c p y = 0) : c x y = 0 := by
  have h1 := h.swap0 a; have h2 := h.swap0 b
  have := h.trans x p y (by omega) (by omega)
  have := h.trans y p x (by omega) (by omega)
  have := h.anti x y; have := h.anti y x; omega
/-- it rises, alike ones let in -/
def Up (c : α → α → Int) (l : List α) : Prop := l.Pairwise (fun x y => c x y ≤ 0)
/-- alike ones stand in the same order -/
def Same (c : α → α → Int) (x y : List α) : Prop := ∀ p, y.filter (fun z => c p z == 0) = x.filter (fun z => c p z == 0)
theorem Same.refl (x : List α) : Same c x x := fun _ => rfl
theorem Same.trans {x y z : List α} (h : Same c x y) (k : Same c y z) : Same c x z := fun p => (k p).trans (h p)
theorem Same.symm {x y : List α} (h : Same c x y) : Same c y x := fun p => (h p).symm
theorem Same.app {x y u v : List α} (h : Same c x y) (k : Same c u v) : Same c (x ++ u) (y ++ v) := fun p => by
  rw [List.filter_append, List.filter_append, h p, k p]
theorem Same.mem (hc : Cmp3 c) {x y : List α} (h : Same c x y) (z : α) : z ∈ y ↔ z ∈ x := by
  have e := h z
  have hz : (c z z == 0) = true := by rw [hc.refl]; rfl
  constructor
  · intro hm
    have : z ∈ y.filter (fun w => c z w == 0) := List.mem_filter.2 ⟨hm, hz⟩
    rw [e] at this; exact (List.mem_filter.1 this).1
  · intro hm
    have : z ∈ x.filter (fun w => c z w == 0) := List.mem_filter.2 ⟨hm, hz⟩
    rw [← e] at this; exact (List.mem_filter.1 this).1
/-- two parts that hold nothing alike may change places -/
theorem Same.comm {x y : List α} (h : ∀ a ∈ x, ∀ b ∈ y, ∀ p, c p a = 0 → c p b = 0 → False) : Same c (x ++ y) (y ++ x) := fun p => by
  rw [List.filter_append, List.filter_append]
  cases hx : x.filter (fun z => c p z == 0) with
  | nil => simp
  | cons a r =>
    cases hy : y.filter (fun z => c p z == 0) with
    | nil => simp
    | cons b s =>
      have ha : a ∈ x.filter (fun z => c p z == 0) := by rw [hx]; simp
      have hb : b ∈ y.filter (fun z => c p z == 0) := by rw [hy]; simp
      have ha := List.mem_filter.1 ha; have hb := List.mem_filter.1 hb
      exact absurd (h a ha.1 b hb.1 p (by simpa using ha.2) (by simpa using hb.2)) id
theorem Up.app {x y : List α} (h : Up c x) (k : Up c y) (m : ∀ a ∈ x, ∀ b ∈ y, c a b ≤ 0) : Up c (x ++ y) := List.pairwise_append.2 ⟨h, k, m⟩
theorem Up.left {x y : List α} (h : Up c (x ++ y)) : Up c x := (List.pairwise_append.1 h).1
theorem Up.right {x y : List α} (h : Up c (x ++ y)) : Up c y := (List.pairwise_append.1 h).2.1
theorem Up.cross {x y : List α} (h : Up c (x ++ y)) : ∀ a ∈ x, ∀ b ∈ y, c a b ≤ 0 := (List.pairwise_append.1 h).2.2
/-- the middle of two sorted rows: merged from both sides -/
theorem merge_two (hc : Cmp3 c) {A1 A2 B1 B2 M1 M2 : List α} (hA : Up c (A1 ++ A2)) (hB : Up c (B1 ++ B2)) (h1 : ∀ a ∈ A1, ∀ b ∈ B2, c a b ≤ 0) (h2 : ∀ b ∈ B1, ∀ a ∈ A2, c b a < 0)
    (u1 : Up c M1) (u2 : Up c M2) (s1 : Same c (A1 ++ B1) M1) (s2 : Same c (A2 ++ B2) M2) : Up c (M1 ++ M2) ∧ Same c ((A1 ++ A2) ++ (B1 ++ B2)) (M1 ++ M2) := by
  refine ⟨Up.app u1 u2 (fun a ha b hb => ?_), ?_⟩
  · have ha := (s1.mem hc a).1 ha; have hb := (s2.mem hc b).1 hb
    rcases List.mem_append.1 ha with ha | ha <;> rcases List.mem_append.1 hb with hb | hb
    · exact hA.cross a ha b hb
    · exact h1 a ha b hb
    · have := h2 a ha b hb; omega
    · exact hB.cross a ha b hb
  · refine Same.trans ?_ (Same.app s1 s2)
    have : Same c (A2 ++ B1) (B1 ++ A2) := Same.comm (fun a ha b hb p e1 e2 => by
      have := h2 b hb a ha; have := hc.same_l e2 e1; omega)
    have := Same.app (Same.app (Same.refl (c := c) A1) this) (Same.refl (c := c) B2)
    simpa [List.append_assoc] using this
theorem up_one (x : α) : Up c [x] := List.pairwise_singleton _ _
end

/-! ### The order of entries by their keys -/
def kcr (a : ByteArray) (b d : Int) (a' : ByteArray) (b' d' : Int) : Int := if a.toList = a'.toList then (if b = b' then (if d = d' then 0 else (if d > d' then (-1) else 1)) else (if b > b' then (-1) else 1)) else (if Op.bytesLess a.toList a'.toList = true then (-1) else 1)
def kc (x y : S31) : Int := kcr x.f0.f0 x.f0.f1 x.f0.f2 y.f0.f0 y.f0.f1 y.f0.f2
theorem ref_kc (a : ByteArray) (b d : Int) (a' : ByteArray) (b' d' : Int) : iceboxref1_Cmp.f a b d a' b' d' = some (kcr a b d a' b' d') := by
  unfold iceboxref1_Cmp.f kcr
  repeat' split
  all_goals rfl
theorem kcr_le (a : ByteArray) (b d : Int) (a' : ByteArray) (b' d' : Int) : kcr a b d a' b' d' ≤ 0 ↔ Op.bytesLess a.toList a'.toList = true ∨ (a.toList = a'.toList ∧ (b' < b ∨ (b = b' ∧ d' ≤ d))) := by
  unfold kcr
  by_cases h : a.toList = a'.toList
  · rw [if_pos h, h, bless_irrefl]
    by_cases h2 : b = b'
    · rw [if_pos h2]
      by_cases h3 : d = d'
      · rw [if_pos h3]; simp; omega
      · rw [if_neg h3]
        by_cases h4 : d > d'
        · rw [if_pos h4]; simp; omega
        · rw [if_neg h4]; simp; omega
    · rw [if_neg h2]
      by_cases h4 : b > b'
      · rw [if_pos h4]; simp; omega
      · rw [if_neg h4]; simp; omega
  · rw [if_neg h]
    by_cases h4 : Op.bytesLess a.toList a'.toList = true
    · rw [if_pos h4]; simp [h4]
    · rw [if_neg h4]; simp [h4, h]
theorem kcr_lt (a : ByteArray) (b d : Int) (a' : ByteArray) (b' d' : Int) : kcr a b d a' b' d' < 0 ↔ Op.bytesLess a.toList a'.toList = true ∨ (a.toList = a'.toList ∧ (b' < b ∨ (b = b' ∧ d' < d))) := by
  unfold kcr
  by_cases h : a.toList = a'.toList
  · rw [if_pos h, h, bless_irrefl]
    by_cases h2 : b = b'
    · rw [if_pos h2]
      by_cases h3 : d = d'
      · rw [if_pos h3]; simp; omega
      · rw [if_neg h3]
        by_cases h4 : d > d'
        · rw [if_pos h4]; simp; omega
        · rw [if_neg h4]; simp; omega
    · rw [if_neg h2]
      by_cases h4 : b > b'
      · rw [if_pos h4]; simp; omega
      · rw [if_neg h4]; simp; omega
  · rw [if_neg h]
    by_cases h4 : Op.bytesLess a.toList a'.toList = true
    · rw [if_pos h4]; simp [h4]
    · rw [if_neg h4]; simp [h4, h]
theorem bless_asymm {x y : List UInt8} (h : Op.bytesLess x y = true) : Op.bytesLess y x = false := by
  cases k : Op.bytesLess y x with
  | false => rfl
  | true => have := bless_trans x y x h k; rw [bless_irrefl] at this; cases this
theorem kc_cmp : Cmp3 kc where
  refl x := by unfold kc kcr; rw [if_pos rfl, if_pos rfl, if_pos rfl]
  anti x y := by
    have e : (0 < kc y x) ↔ ¬ (kc y x ≤ 0) := by omega
    rw [e]; unfold kc
    rw [kcr_le, kcr_lt]
    constructor
    · rintro (h | ⟨h, h2⟩) (k | ⟨k, k2⟩)
      · rw [bless_asymm h] at k; cases k
      · rw [k, bless_irrefl] at h; cases h
      · rw [h, bless_irrefl] at k; cases k
      · omega
    · intro h
      rcases bless_total x.f0.f0.toList y.f0.f0.toList with k | k | k
      · exact Or.inl k
      · refine Or.inr ⟨k, ?_⟩
        rcases Int.lt_trichotomy y.f0.f1 x.f0.f1 with g | g | g
        · exact Or.inl g
        · refine Or.inr ⟨g.symm, ?_⟩
          rcases Int.lt_or_le y.f0.f2 x.f0.f2 with g2 | g2
          · exact g2
          · exact absurd (Or.inr ⟨k.symm, Or.inr ⟨g, g2⟩⟩) h
        · exact absurd (Or.inr ⟨k.symm, Or.inl g⟩) h
      · exact absurd (Or.inl k) h
  trans x y z := by
    unfold kc
    rw [kcr_le, kcr_le, kcr_le]
    rintro (h | ⟨h, h2⟩) (k | ⟨k, k2⟩)
    · exact Or.inl (bless_trans _ _ _ h k)
    · rw [← k]; exact Or.inl h
    · rw [h]; exact Or.inl k
    · refine Or.inr ⟨h.trans k, ?_⟩; omega
theorem kc_zero (x y : S31) : kc x y = 0 ↔ x.f0.f0.toList = y.f0.f0.toList ∧ x.f0.f1 = y.f0.f1 ∧ x.f0.f2 = y.f0.f2 := by
  have e : kc x y = 0 ↔ kc x y ≤ 0 ∧ ¬ kc x y < 0 := by omega
  rw [e]; unfold kc
  rw [kcr_le, kcr_lt]
  constructor
  · rintro ⟨h | ⟨h, h2⟩, k⟩
    · exact absurd (Or.inl h) k
    · refine ⟨h, ?_⟩
      have : ¬ (y.f0.f1 < x.f0.f1 ∨ (x.f0.f1 = y.f0.f1 ∧ y.f0.f2 < x.f0.f2)) := fun g => k (Or.inr ⟨h, g⟩)
      omega
  · rintro ⟨h, h2, h3⟩
    refine ⟨Or.inr ⟨h, Or.inr ⟨h2, by omega⟩⟩, ?_⟩
    rintro (k | ⟨_, k⟩)
    · rw [h, bless_irrefl] at k; cases k
    · omega

/-! ### Each key once, the first of alike ones -/
def SUp (l : List S31) : Prop := l.Pairwise (fun x y => kc x y < 0)
def IsFirst (l : List S31) (z : S31) : Prop := l.find? (fun w => kc z w == 0) = some z
theorem kc_self (z : S31) : (kc z z == 0) = true := by rw [kc_cmp.refl]; rfl
theorem sup_ext : ∀ (x y : List S31), SUp x → SUp y → (∀ z, z ∈ x ↔ z ∈ y) → x = y
  | [], y, _, _, h => by
    cases y with
    | nil => rfl
    | cons b y => have := (h b).2 (by simp); simp at this
  | a :: x, [], _, _, h => by have := (h a).1 (by simp); simp at this
  | a :: x, b :: y, hx, hy, h => by
    have hx' := List.pairwise_cons.1 hx; have hy' := List.pairwise_cons.1 hy
    have e : a = b := by
      rcases List.mem_cons.1 ((h a).1 (by simp)) with e | m1
      · exact e
      · rcases List.mem_cons.1 ((h b).2 (by simp)) with e | m2
        · exact e.symm
        · have h1 := hy'.1 a m1; have h2 := hx'.1 b m2
          have := (kc_cmp.anti a b).1 h2; omega
    subst e
    congr 1
    refine sup_ext x y hx'.2 hy'.2 (fun z => ⟨fun hz => ?_, fun hz => ?_⟩)
    · rcases List.mem_cons.1 ((h z).1 (List.mem_cons_of_mem _ hz)) with e | m
      · subst e; have := hx'.1 z hz; have := kc_cmp.refl z; omega
      · exact m
    · rcases List.mem_cons.1 ((h z).2 (List.mem_cons_of_mem _ hz)) with e | m
      · subst e; have := hy'.1 z hz; have := kc_cmp.refl z; omega
      · exact m
theorem first_same {x y : List S31} (h : Same kc x y) (z : S31) : IsFirst x z ↔ IsFirst y z := by
  unfold IsFirst
  rw [← List.head?_filter, ← List.head?_filter, h z]
theorem first_mem {l : List S31} {z : S31} (h : IsFirst l z) : z ∈ l := List.mem_of_find?_eq_some h
/-- of alike ones there is a first -/
theorem first_ex (l : List S31) (w : S31) (h : w ∈ l) : ∃ z, IsFirst l z ∧ kc z w = 0 := by
  cases e : l.find? (fun v => kc w v == 0) with
  | none =>
    have := List.find?_eq_none.1 e w h
    rw [kc_self] at this; exact absurd rfl this
  | some z =>
    have hz : kc w z = 0 := by have := List.find?_some e; simpa using this
    refine ⟨z, ?_, kc_cmp.swap0 hz⟩
    unfold IsFirst
    rw [← e]
    congr 1
    funext v
    have h1 : kc z v = 0 ↔ kc w v = 0 := ⟨fun h2 => kc_cmp.same_l (kc_cmp.swap0 hz) h2, fun h2 => kc_cmp.same_l hz h2⟩
    by_cases c : kc z v = 0
    · rw [c, h1.1 c]
    · have c2 : ¬ kc w v = 0 := fun h => c (h1.2 h)
      rw [beq_eq_false_iff_ne.2 c, beq_eq_false_iff_ne.2 c2]
/-- what is left out is not alike: the first stays -/
theorem first_skip (u v : List S31) (e z : S31) (h : kc z e ≠ 0) : IsFirst (u ++ e :: v) z ↔ IsFirst (u ++ v) z := by
  unfold IsFirst
  rw [List.find?_append, List.find?_append, List.find?_cons_of_neg (by simpa using h)]
theorem first_here (u v : List S31) (e : S31) (h : ∀ w ∈ u, kc e w ≠ 0) : IsFirst (u ++ e :: v) e := by
  unfold IsFirst
  rw [List.find?_append, List.find?_eq_none.2 (fun w hw => by simpa using h w hw), List.find?_cons_of_pos (p := fun w => kc e w == 0) (kc_self e)]; rfl
theorem first_other (u v : List S31) (e z : S31) (h : ∀ w ∈ u, kc e w ≠ 0) (hz : kc e z = 0) (hf : IsFirst (u ++ e :: v) z) : z = e := by
  have h1 := first_here u v e h
  unfold IsFirst at h1 hf
  have : (fun w => kc z w == 0) = (fun w => kc e w == 0) := by
    funext w
    by_cases c : kc z w = 0
    · rw [c, kc_cmp.same_l (kc_cmp.swap0 hz) c]
    · rw [beq_eq_false_iff_ne.2 c, beq_eq_false_iff_ne.2 (fun h2 => c (kc_cmp.same_l hz h2))]
  rw [this, h1] at hf
  injection hf with hf; exact hf.symm
/-- the firsts of so many -/
structure Firsts (l out : List S31) : Prop where
  up : SUp out
  mem : ∀ z, z ∈ out ↔ IsFirst l z
theorem Firsts.eq {l l' a b : List S31} (h : Firsts l a) (k : Firsts l' b) (s : Same kc l l') : a = b :=
  sup_ext a b h.up k.up (fun z => by rw [h.mem, k.mem, first_same s])
theorem Firsts.nil : Firsts [] [] := ⟨List.Pairwise.nil, fun z => by simp [IsFirst]⟩
theorem Firsts.alike {l a : List S31} (h : Firsts l a) {x : S31} (w : S31) (hw : w ∈ l) (e : kc x w = 0) : ∃ z ∈ a, kc x z = 0 := by
  obtain ⟨z, h1, h2⟩ := first_ex l w hw
  exact ⟨z, (h.mem z).2 h1, kc_cmp.same_l (kc_cmp.swap0 e) (kc_cmp.swap0 h2)⟩
/-- one more: it is alike to one that is there -/
theorem Firsts.keep {l a : List S31} (h : Firsts l a) {x y : S31} (hy : y ∈ a) (e : kc y x = 0) : Firsts (l ++ [x]) a := by
  refine ⟨h.up, fun z => ?_⟩
  rw [h.mem]
  by_cases c : kc z x = 0
  · have hyl := first_mem ((h.mem y).1 hy)
    have hzy : kc z y = 0 := kc_cmp.same_l (kc_cmp.swap0 c) (kc_cmp.swap0 e)
    unfold IsFirst
    rw [List.find?_append]
    cases f : l.find? (fun w => kc z w == 0) with
    | none => have := List.find?_eq_none.1 f y hyl; rw [hzy] at this; exact absurd rfl this
    | some v => simp
  · have := first_skip l [] x z c
    rw [List.append_nil] at this; exact this.symm
/-- one more: it goes in -/
theorem Firsts.put {l a b : List S31} {x : S31} (h : Firsts l (a ++ b)) (h1 : ∀ y ∈ a, kc y x < 0) (h2 : ∀ y ∈ b, kc x y < 0) : Firsts (l ++ [x]) (a ++ x :: b) := by
  have hno : ∀ w ∈ l, kc x w ≠ 0 := fun w hw e => by
    obtain ⟨z, hz, ez⟩ := h.alike w hw e
    rcases List.mem_append.1 hz with hz | hz
    · have := h1 z hz; have := kc_cmp.swap0 ez; omega
    · have := h2 z hz; omega
  refine ⟨?_, fun z => ?_⟩
  · have hu := List.pairwise_append.1 h.up
    refine List.pairwise_append.2 ⟨hu.1, List.pairwise_cons.2 ⟨h2, hu.2.1⟩, fun p hp q hq => ?_⟩
    rcases List.mem_cons.1 hq with rfl | hq
    · exact h1 p hp
    · exact hu.2.2 p hp q hq
  · by_cases c : kc z x = 0
    · constructor
      · intro hm
        rcases List.mem_append.1 hm with hm | hm
        · have := h1 z hm; omega
        · rcases List.mem_cons.1 hm with rfl | hm
          · exact first_here l [] z hno
          · have := h2 z hm; have := kc_cmp.swap0 c; omega
      · intro hf
        have := first_other l [] x z hno (kc_cmp.swap0 c) hf
        subst this; simp
    · have := first_skip l [] x z c
      rw [List.append_nil] at this
      rw [this, ← h.mem]
      constructor
      · intro hm
        rcases List.mem_append.1 hm with hm | hm
        · exact List.mem_append_left _ hm
        · rcases List.mem_cons.1 hm with rfl | hm
          · exact absurd (kc_cmp.refl z) c
          · exact List.mem_append_right _ hm
      · intro hm
        rcases List.mem_append.1 hm with hm | hm
        · exact List.mem_append_left _ hm
        · exact List.mem_append_right _ (List.mem_cons_of_mem _ hm)
theorem nodup_len : ∀ (a l : List S31), a.Nodup → a ⊆ l → a.length ≤ l.length
  | [], l, _, _ => Nat.zero_le _
  | x :: t, l, h, hs => by
    obtain ⟨u, v, rfl⟩ := List.append_of_mem (hs (List.mem_cons_self))
    have hn := List.nodup_cons.1 h
    have := nodup_len t (u ++ v) hn.2 (fun z hz => by
      have h1 := hs (List.mem_cons_of_mem _ hz)
      rcases List.mem_append.1 h1 with h1 | h1
      · exact List.mem_append_left _ h1
      · rcases List.mem_cons.1 h1 with rfl | h1
        · exact absurd hz hn.1
        · exact List.mem_append_right _ h1)
    simp at this ⊢; omega
theorem Firsts.length {l a : List S31} (h : Firsts l a) : a.length ≤ l.length := by
  have hn : a.Nodup := List.Pairwise.imp (fun {x y} hlt e => by subst e; have := kc_cmp.refl x; omega) h.up
  have hs : a ⊆ l := fun z hz => first_mem ((h.mem z).1 hz)
  exact nodup_len a l hn hs

/-! ### Make: entries in order, by numbers -/
def dg (n : Nat) : ByteArray := if n < 10 then ⟨#[UInt8.ofNat (48 + n)]⟩ else if n < 100 then ⟨#[UInt8.ofNat (48 + n / 10), UInt8.ofNat (48 + n % 10)]⟩ else ⟨#[UInt8.ofNat (48 + n / 100), UInt8.ofNat (48 + n / 10 % 10), UInt8.ofNat (48 + n % 10)]⟩
theorem dg_all : ∀ n : Nat, n < 256 → iceboxref1_Digits.f 5 (n : Int) = some (dg n) := by decide +kernel
theorem dg_size : ∀ n : Nat, n < 256 → (dg n).size ≤ 3 := by decide +kernel
theorem dg_num : ∀ n : Nat, n < 256 → (dg n).data.toList.foldl (fun a (b : UInt8) => 10 * a + (b.toNat - 48)) 0 = n := by decide +kernel
theorem dg_inj {m n : Nat} (hm : m < 256) (hn : n < 256) (h : (dg m).toList = (dg n).toList) : m = n := by
  rw [Go.ByteArray.toList_eq, Go.ByteArray.toList_eq] at h
  rw [← dg_num m hm, ← dg_num n hn, h]
theorem dg_ev (x : Int) (h0 : 0 ≤ x) (h1 : x ≤ 255) : Ev (fun k => iceboxref1_Digits.f k x) (dg x.toNat) := by
  have h := dg_all x.toNat (by omega)
  rw [Int.toNat_of_nonneg h0] at h
  exact Ev.of (fun k => iceboxref1_Digits.mono x k) h
theorem empty_tl : (⟨#[]⟩ : ByteArray).toList = [] := by rw [Go.ByteArray.toList_eq]
theorem zero_tl : (⟨#[0]⟩ : ByteArray).toList = [0] := by rw [Go.ByteArray.toList_eq]
def keyOf (n : Nat) : ByteArray := (⟨#[107, 101, 121]⟩ : ByteArray) ++ dg n
theorem toList_app (a b : ByteArray) : (a ++ b).toList = a.toList ++ b.toList := by
  rw [Go.ByteArray.toList_eq, Go.ByteArray.toList_eq, Go.ByteArray.toList_eq, ByteArray.toList_data_append]
theorem keyOf_size (n : Nat) (h : n < 256) : (keyOf n).size ≤ 6 := by
  have := dg_size n h
  unfold keyOf
  rw [ByteArray.size_append]
  have : (⟨#[107, 101, 121]⟩ : ByteArray).size = 3 := rfl
  omega
/-- what number i makes -/
def ent (ns : List Int) (sp : Int) (i : Nat) : S31 :=
  if rd ns i % 7 = 0 then ⟨⟨keyOf (rd ns i % (3 + sp % 40)).toNat, 1 + i, 2⟩, (⟨#[]⟩ : ByteArray)⟩ else ⟨⟨keyOf (rd ns i % (3 + sp % 40)).toNat, 1 + i, 1⟩, dg (rd ns i).toNat⟩
theorem below_kc (x : S31) (u : ByteArray) (s d : Int) (v : ByteArray) : Mem_below x u s d = true ↔ kc x ⟨⟨u, s, d⟩, v⟩ < 0 := by
  unfold Mem_below
  rw [ref_kc]
  simp [kc]
theorem same_kc (x : S31) (u : ByteArray) (s d : Int) (v : ByteArray) : Mem_same x u s d = true ↔ kc x ⟨⟨u, s, d⟩, v⟩ = 0 := by
  unfold Mem_same
  rw [kc_zero, Bool.and_eq_true, Bool.and_eq_true, beq_iff_eq, beq_iff_eq, beq_iff_eq]
theorem at_split (u : ByteArray) (s d : Int) (v : ByteArray) : ∀ L : List S31, ∃ A B, L = A ++ B ∧ A.length = Mem_at u s d L ∧ (∀ x ∈ A, kc x ⟨⟨u, s, d⟩, v⟩ < 0) ∧ (∀ x t, B = x :: t → ¬ kc x ⟨⟨u, s, d⟩, v⟩ < 0)
  | [] => ⟨[], [], rfl, rfl, by simp, by simp⟩
  | x :: L => by
    by_cases c : Mem_below x u s d = true
    · obtain ⟨A, B, h1, h2, h3, h4⟩ := at_split u s d v L
      refine ⟨x :: A, B, by rw [h1]; rfl, by rw [Mem_at, if_pos c, List.length_cons, h2], fun y hy => ?_, h4⟩
      rcases List.mem_cons.1 hy with rfl | hy
      · exact (below_kc _ _ _ _ _).1 c
      · exact h3 y hy
    · refine ⟨[], x :: L, rfl, by rw [Mem_at, if_neg c]; rfl, by simp, fun y t hy => ?_⟩
      injection hy with h1 h2
      subst h1
      exact fun h => c ((below_kc _ _ _ _ v).2 h)
theorem mem_put (L : List S31) (u : ByteArray) (s d : Int) (v : ByteArray) (hu : SUp L) (hn : ∀ x ∈ L, kc x ⟨⟨u, s, d⟩, v⟩ ≠ 0) (hl : L.length ≤ 1000) (hm : iceboxref1_MayEntry.f u s d v = some true) :
    ∃ M, Mem_add L u s d v = some M ∧ SUp M ∧ M.length = L.length + 1 ∧ ∀ z, z ∈ M ↔ z ∈ L ∨ z = ⟨⟨u, s, d⟩, v⟩ := by
  obtain ⟨A, B, rfl, h2, h3, h4⟩ := at_split u s d v L
  have e1 : (A ++ B).take (Mem_at u s d (A ++ B)) = A := by rw [← h2]; simp
  have e2 : (A ++ B).drop (Mem_at u s d (A ++ B)) = B := by rw [← h2]; simp
  have hp := List.pairwise_append.1 hu
  have hB : ∀ y ∈ B, kc ⟨⟨u, s, d⟩, v⟩ y < 0 := by
    intro y hy
    cases B with
    | nil => simp at hy
    | cons x t =>
      have hx := h4 x t rfl
      have hx2 := hn x (by simp)
      have hx3 : kc ⟨⟨u, s, d⟩, v⟩ x < 0 := (kc_cmp.anti _ _).2 (by omega)
      rcases List.mem_cons.1 hy with rfl | hy
      · exact hx3
      · have := (List.pairwise_cons.1 hp.2.1).1 y hy
        exact kc_cmp.lt_le hx3 (by omega)
  refine ⟨A ++ ⟨⟨u, s, d⟩, v⟩ :: B, ?_, ?_, by simp; omega, fun z => ?_⟩
  · unfold Mem_add
    rw [hm, Option.bind_some, if_pos rfl, if_pos (by omega), e1, e2]
    by_cases c : Mem_at u s d (A ++ B) < (A ++ B).length
    · rw [if_pos c]
      have hs : ¬ Mem_same (rd_T31 (A ++ B) (Mem_at u s d (A ++ B) : Int)) u s d = true := by
        obtain ⟨x, t, rfl⟩ := cons_of B (fun h => by rw [h] at c h2; simp at c h2; omega)
        rw [rd31_at A t x _ (by omega)]
        exact fun h => hn x (by simp) ((same_kc _ _ _ _ v).1 h)
      rw [if_neg hs]; simp
    · rw [if_neg c]; simp
  · refine List.pairwise_append.2 ⟨hp.1, List.pairwise_cons.2 ⟨hB, hp.2.1⟩, fun x hx y hy => ?_⟩
    rcases List.mem_cons.1 hy with rfl | hy
    · exact h3 x hx
    · exact hp.2.2 x hx y hy
  · constructor
    · intro h
      rcases List.mem_append.1 h with h | h
      · exact Or.inl (List.mem_append_left _ h)
      · rcases List.mem_cons.1 h with h | h
        · exact Or.inr h
        · exact Or.inl (List.mem_append_right _ h)
    · rintro (h | h)
      · rcases List.mem_append.1 h with h | h
        · exact List.mem_append_left _ h
        · exact List.mem_append_right _ (List.mem_cons_of_mem _ h)
      · rw [h]; exact List.mem_append_right _ List.mem_cons_self
theorem may_ent (u : ByteArray) (s d : Int) (v : ByteArray) (hu : u.size ≤ 64) (h0 : 0 ≤ s) (h1 : s ≤ 1000000) (hv : v.size ≤ 512) (hd : d = 1 ∨ (d = 2 ∧ v.toList = [])) : iceboxref1_MayEntry.f u s d v = some true := by
  unfold iceboxref1_MayEntry.f iceboxref1_MayKey.f iceboxref1_Number.f
  rw [if_pos (by omega), if_pos h0]
  simp only [Option.bind_some]
  rw [if_pos (by simp; omega)]
  rcases hd with rfl | ⟨rfl, hd⟩
  · simp only [if_true, Option.bind_some]
    rw [if_pos (by omega)]
  · simp only [show ¬ ((2 : Int) = 1) by decide, if_false, beq_self_eq_true, Option.bind_some, if_true]
    rw [if_pos (by omega), hd]; rfl
theorem seq_ne {x y : S31} (h : x.f0.f1 ≠ y.f0.f1) : kc x y ≠ 0 := fun e => h ((kc_zero x y).1 e).2.1
theorem make_loop (ns : List Int) (sp : Int) (hns : ∀ x ∈ ns, 0 ≤ x ∧ x ≤ 255) (hl : ns.length ≤ 200) (hs0 : 0 ≤ sp) (hs1 : sp ≤ 255) (d : Nat) : ∀ (i : Nat) (L : List S31), i + d = ns.length → SUp L → L.length = i → (∀ z, z ∈ L ↔ ∃ j, j < i ∧ z = ent ns sp j) →
    ∃ M, SUp M ∧ M.length = ns.length ∧ (∀ z, z ∈ M ↔ ∃ j, j < ns.length ∧ z = ent ns sp j) ∧ Ev (fun k => iceboxlaw12_Make.l0 k ns sp L (i : Int)) M := by
  induction d with
  | zero =>
    intro i L hd hu hlen hm
    obtain rfl : i = ns.length := by omega
    refine ⟨L, hu, hlen, hm, Ev.step (f := fun _ => some L) (fun k => ?_) (Ev.now _)⟩
    rw [iceboxlaw12_Make.l0, if_neg (by omega)]
  | succ d ih =>
    intro i L hd hu hlen hm
    have hi : i < ns.length := by omega
    have hr : rd ns (i : Int) = ns[i] := by
      unfold rd
      rw [Int.toNat_natCast, List.getD_eq_getElem?_getD, List.getElem?_eq_getElem hi]; rfl
    have hn := hns _ (List.getElem_mem hi)
    rw [← hr] at hn
    have hnew : ∀ (e : S31), e.f0.f1 = 1 + i → ∀ x ∈ L, kc x e ≠ 0 := by
      intro e he x hx
      obtain ⟨j, hj, rfl⟩ := (hm x).1 hx
      refine seq_ne ?_
      rw [he]; unfold ent
      split <;> simp <;> omega
    obtain ⟨n, hnn⟩ : ∃ n, n = rd ns (i : Int) := ⟨_, rfl⟩
    have he : ent ns sp i = if n % 7 = 0 then ⟨⟨keyOf (n % (3 + sp % 40)).toNat, 1 + i, 2⟩, (⟨#[]⟩ : ByteArray)⟩ else ⟨⟨keyOf (n % (3 + sp % 40)).toNat, 1 + i, 1⟩, dg n.toNat⟩ := by rw [hnn]; rfl
    rw [← hnn] at hn
    have hmod0 : 0 ≤ n % (3 + sp % 40) := Int.emod_nonneg _ (by omega)
    have hmod1 : n % (3 + sp % 40) < 3 + sp % 40 := Int.emod_lt_of_pos _ (by omega)
    have hd1 := dg_ev (n % (3 + sp % 40)) hmod0 (by omega)
    have hd2 := dg_ev n hn.1 hn.2
    have hk : (keyOf (n % (3 + sp % 40)).toNat).size ≤ 6 := keyOf_size _ (by omega)
    have hv := dg_size n.toNat (by omega)
    have hdd := dg_size (n % (3 + sp % 40)).toNat (by omega)
    obtain ⟨M, hM, hM1, hM2, hM3⟩ : ∃ M, (if n % 7 = 0 then Mem_add L (keyOf (n % (3 + sp % 40)).toNat) (1 + i) 2 (⟨#[]⟩ : ByteArray) else Mem_add L (keyOf (n % (3 + sp % 40)).toNat) (1 + i) 1 (dg n.toNat)) = some M ∧ SUp M ∧ M.length = L.length + 1 ∧ ∀ z, z ∈ M ↔ z ∈ L ∨ z = ent ns sp i := by
      by_cases c : n % 7 = 0
      · rw [if_pos c, he, if_pos c]
        exact mem_put L _ _ _ _ hu (hnew _ rfl) (by omega) (may_ent _ _ _ _ (by omega) (by omega) (by omega) (by decide) (Or.inr ⟨rfl, empty_tl⟩))
      · rw [if_neg c, he, if_neg c]
        exact mem_put L _ _ _ _ hu (hnew _ rfl) (by omega) (may_ent _ _ _ _ (by omega) (by omega) (by omega) (by omega) (Or.inl rfl))
    obtain ⟨R, r1, r2, r3, r4⟩ := ih (i + 1) M (by omega) hM1 (by omega) (fun z => by
      rw [hM3, hm]
      constructor
      · rintro (⟨j, hj, h⟩ | h)
        · exact ⟨j, by omega, h⟩
        · exact ⟨i, by omega, h⟩
      · rintro ⟨j, hj, h⟩
        by_cases c : j = i
        · subst c; exact Or.inr h
        · exact Or.inl ⟨j, by omega, h⟩)
    refine ⟨R, r1, r2, r3, ?_⟩
    have p0 : (i : Int) < (ns.length : Int) := by omega
    have p1 : 0 ≤ (i : Int) ∧ (i : Int) < 9223372036854775000 ∧ 0 ≤ rd ns i ∧ rd ns i ≤ 255 ∧ 0 ≤ sp ∧ sp ≤ 255 := by rw [← hnn]; omega
    have p2 : (dg (n % (3 + sp % 40)).toNat).size ≤ 1000 := by omega
    have g : Ev (fun k => (if n % 7 = 0 then Mem_add L (keyOf (n % (3 + sp % 40)).toNat) (1 + i) 2 (⟨#[]⟩ : ByteArray) else Mem_add L (keyOf (n % (3 + sp % 40)).toNat) (1 + i) 1 (dg n.toNat)).bind fun y => iceboxlaw12_Make.l0 k ns sp y ((i : Int) + 1)) R := by
      rw [hM]
      exact r4
    refine Ev.step (fun k => ?_) (Ev.bind hd1 (f := fun k d1 => (if d1.size ≤ 1000 then ((iceboxref1_Digits.f k n).bind fun d2 => ((if n % 7 = 0 then Mem_add L ((⟨#[107, 101, 121]⟩ : ByteArray) ++ d1) (1 + i) 2 (⟨#[]⟩ : ByteArray) else Mem_add L ((⟨#[107, 101, 121]⟩ : ByteArray) ++ d1) (1 + i) 1 d2).bind fun y => iceboxlaw12_Make.l0 k ns sp y ((i : Int) + 1))) else none)) (Ev.congr (fun k => by rw [if_pos p2]; rfl) (Ev.bind hd2 (f := fun k d2 => ((if n % 7 = 0 then Mem_add L (keyOf (n % (3 + sp % 40)).toNat) (1 + i) 2 (⟨#[]⟩ : ByteArray) else Mem_add L (keyOf (n % (3 + sp % 40)).toNat) (1 + i) 1 d2).bind fun y => iceboxlaw12_Make.l0 k ns sp y ((i : Int) + 1))) g)))
    rw [iceboxlaw12_Make.l0, if_pos p0, if_pos p1, ← hnn]
theorem make_ev (ns : List Int) (sp : Int) (hns : ∀ x ∈ ns, 0 ≤ x ∧ x ≤ 255) (hl : ns.length ≤ 200) (hs0 : 0 ≤ sp) (hs1 : sp ≤ 255) :
    ∃ M, SUp M ∧ M.length = ns.length ∧ (∀ z, z ∈ M ↔ ∃ j, j < ns.length ∧ z = ent ns sp j) ∧ Ev (fun k => iceboxlaw12_Make.f k ns sp) M := by
  obtain ⟨M, h1, h2, h3, h4⟩ := make_loop ns sp hns hl hs0 hs1 ns.length 0 [] (by omega) List.Pairwise.nil rfl (by simp)
  exact ⟨M, h1, h2, h3, h4⟩

def vskip (seq : Int) (lo hi : ByteArray) (e : S31) : Bool :=
  Op.bytesLess e.f0.f0.toList lo.toList || (!(hi.toList == []) && !(Op.bytesLess e.f0.f0.toList hi.toList)) || decide (e.f0.f1 > seq)
def viewP (seq : Int) (lo hi : ByteArray) : List S31 → List S47 → Bool → ByteArray → List S47
  | [], out, _, _ => out
  | e :: r, out, seen, user => if (vskip seq lo hi e || (seen && e.f0.f0.toList == user.toList)) = true then viewP seq lo hi r out seen user
      else viewP seq lo hi r (if e.f0.f2 = 1 then out ++ [⟨e.f0.f0, e.f1⟩] else out) true e.f0.f0
theorem rd31_drop (l : List S31) (i : Nat) (h : i < l.length) : l.drop i = rd_T31 l (i : Int) :: l.drop (i + 1) := by
  rw [List.drop_eq_getElem_cons h]
  congr 1
  unfold rd_T31
  rw [Int.toNat_natCast, List.getD_eq_getElem?_getD, List.getElem?_eq_getElem h]; rfl
theorem view_round (l : List S31) (i : Nat) (h : i < l.length) (seq : Int) (lo hi : ByteArray) (back : Bool) (most : Int) (out : List S47) (seen : Bool) (user : ByteArray) (k : Nat) :
    merge_View.l0 (k + 1) seq lo hi back most out seen user l (l.length : Int) (i : Int) =
      merge_View.j1 k seq lo hi back most out seen user (rd_T31 l i).f0.f0 l (l.length : Int) (i : Int) (vskip seq lo hi (rd_T31 l i) || (seen && (rd_T31 l i).f0.f0.toList == user.toList)) (rd_T31 l i).f0.f0 (rd_T31 l i).f0.f1 (rd_T31 l i).f0.f2 (rd_T31 l i).f1 := by
  rw [merge_View.l0, if_pos (show (i : Int) < (l.length : Int) by omega), if_pos (show (0 : Int) ≤ (i : Int) by omega), if_pos (show (i : Int) < (l.length : Int) by omega)]
  generalize rd_T31 l (i : Int) = e
  unfold vskip
  by_cases h1 : Op.bytesLess e.f0.f0.toList lo.toList = true
  · rw [if_pos h1, h1]; rfl
  rw [if_neg h1]
  rw [Bool.not_eq_true] at h1
  rw [h1]
  by_cases h2 : hi.toList = ([] : List UInt8)
  · rw [if_pos h2, h2]
    by_cases h3 : e.f0.f1 > seq
    · rw [if_pos h3, decide_eq_true h3]; rfl
    · rw [if_neg h3, decide_eq_false h3]
      cases seen with
      | true => rw [if_pos rfl]; rfl
      | false => rw [if_neg (by decide)]; rfl
  · rw [if_neg h2]
    have h2' : (hi.toList == []) = false := beq_eq_false_iff_ne.mpr h2
    rw [h2']
    by_cases h4 : Op.bytesLess e.f0.f0.toList hi.toList = true
    · rw [if_pos h4, h4]
      by_cases h3 : e.f0.f1 > seq
      · rw [if_pos h3, decide_eq_true h3]; rfl
      · rw [if_neg h3, decide_eq_false h3]
        cases seen with
        | true => rw [if_pos rfl]; rfl
        | false => rw [if_neg (by decide)]; rfl
    · rw [if_neg h4]
      rw [Bool.not_eq_true] at h4
      rw [h4]; rfl

theorem S47_eta (v : S47) : (⟨v.f0, v.f1⟩ : S47) = v := by cases v; rfl
theorem rd47_get (l : List S47) (i : Nat) (h : i < l.length) : rd_T47 l (i : Int) = l[i] := by
  unfold rd_T47
  rw [Int.toNat_natCast, List.getD_eq_getElem?_getD, List.getElem?_eq_getElem h]; rfl
/-- the middle of a list that is being turned round: what stands outside is done -/
theorem reverse_ev : ∀ (d i : Nat) (l m : List S47), l.length ≤ 4000000000 → m.length = l.length → i + d + i = l.length → 
    (∀ j, (hj : j < l.length) → m[j]? = if j < i ∨ l.length - i ≤ j then l[l.length - 1 - j]? else l[j]?) →
    Ev (fun k => api_Pair_51.l0 k m (i : Int) ((l.length : Int) - 1 - i)) l.reverse
  | 0, i, l, m, hb, hl, hd, hm => by
    refine Ev.step (f := fun _ => some l.reverse) (fun k => ?_) (Ev.now _)
    rw [api_Pair_51.l0, if_neg (by omega)]
    congr 1
    apply List.ext_getElem?
    intro j
    by_cases hj : j < l.length
    · rw [hm j hj, List.getElem?_reverse hj, if_pos (by omega)]
    · rw [List.getElem?_eq_none (by omega), List.getElem?_eq_none (by rw [List.length_reverse]; omega)]
  | 1, i, l, m, hb, hl, hd, hm => by
    refine Ev.step (f := fun _ => some l.reverse) (fun k => ?_) (Ev.now _)
    rw [api_Pair_51.l0, if_neg (by omega)]
    congr 1
    apply List.ext_getElem?
    intro j
    by_cases hj : j < l.length
    · rw [hm j hj, List.getElem?_reverse hj]
      split
      · rfl
      · rw [show l.length - 1 - j = j by omega]
    · rw [List.getElem?_eq_none (by omega), List.getElem?_eq_none (by rw [List.length_reverse]; omega)]
  | d + 2, i, l, m, hb, hl, hd, hm => by
    have h1 : i < m.length := by omega
    have h2 : l.length - 1 - i < m.length := by omega
    have e1 : ((l.length : Int) - 1 - i) = ((l.length - 1 - i : Nat) : Int) := by omega
    have e2 : wrap64 ((i : Int) + 1) = ((i + 1 : Nat) : Int) := by rw [w64 (by omega) (by omega)]; omega
    have e3 : wrap64 (((l.length - 1 - i : Nat) : Int) - 1) = (l.length : Int) - 1 - ((i + 1 : Nat) : Int) := by rw [w64 (by omega) (by omega)]; omega
    have ih := reverse_ev d (i + 1) l ((m.set i m[l.length - 1 - i]).set (l.length - 1 - i) m[i]) hb (by simp [hl]) (by omega) (fun j hj => by
      clear e2 e3
      have a1 := hm i (by omega)
      have a2 := hm (l.length - 1 - i) (by omega)
      rw [if_neg (by omega), List.getElem?_eq_getElem h1] at a1
      rw [if_neg (by omega), List.getElem?_eq_getElem h2] at a2
      by_cases hj1 : j = l.length - 1 - i
      · subst hj1
        rw [List.getElem?_set_self (by simpa using h2), if_pos (by omega), a1]
        congr 1; omega
      · rw [List.getElem?_set_ne (fun h => hj1 h.symm)]
        by_cases hj2 : j = i
        · subst hj2
          rw [List.getElem?_set_self h1, if_pos (by omega), a2]
        · rw [List.getElem?_set_ne (fun h => hj2 h.symm), hm j hj]
          by_cases c : j < i ∨ l.length - i ≤ j
          · rw [if_pos c, if_pos (by omega)]
          · rw [if_neg c, if_neg (by omega)])
    refine Ev.step (fun k => ?_) ih
    rw [e1, api_Pair_51.l0, if_pos (by omega), if_pos (by omega), if_pos (by omega), if_pos (by omega), if_pos (by omega), e2, e3, rd47_get m _ h2, rd47_get m _ h1, S47_eta, S47_eta, Int.toNat_natCast, Int.toNat_natCast]
theorem reverse47_ev (l : List S47) (hb : l.length ≤ 4000000000) : Ev (fun k => api_Pair_51.f k l) l.reverse := by
  have h := reverse_ev l.length 0 l l hb rfl (by omega) (fun j hj => by rw [if_neg (by omega)])
  refine Ev.congr (fun k => ?_) h
  unfold api_Pair_51.f
  rw [w64 (by omega) (by omega), show (l.length : Int) - 1 - ((0 : Nat) : Int) = (l.length : Int) - 1 by omega]; rfl
theorem clone47 (l : List S47) (hb : l.length ≤ 4000000000) : api_Pair_52.f l = some l := by
  unfold api_Pair_52.f
  simp only [Option.bind_some, List.length_nil, Nat.zero_add, List.nil_append]
  rw [if_pos (by omega)]

def vfin (back : Bool) (most : Int) (out : List S47) : List S47 := (if back then out.reverse else out).take (mx 0 (mn most out.length)).toNat
theorem mxmn (most : Int) (n : Nat) : 0 ≤ mx 0 (mn most n) ∧ mx 0 (mn most n) ≤ n := by unfold mx mn; split <;> split <;> omega
theorem view_end (l : List S31) (seq : Int) (lo hi : ByteArray) (back : Bool) (most : Int) (out : List S47) (seen : Bool) (user : ByteArray) (ho : out.length ≤ 1000) :
    Ev (fun k => merge_View.l0 k seq lo hi back most out seen user l (l.length : Int) (l.length : Int)) (vfin back most out) := by
  obtain ⟨m1, m2⟩ := mxmn most out.length
  cases back with
  | true =>
    refine Ev.step (fun k => ?_) (Ev.bind (reverse47_ev out (by omega)) (f := fun _ t => some (t.take (mx 0 (mn most out.length)).toNat)) (Ev.now _))
    rw [merge_View.l0, if_neg (by omega), if_pos rfl]
    congr 1; funext t
    rw [if_pos m1, if_pos m2]
    unfold api_Pair_52.f
    simp only [Option.bind_some, List.length_nil, Nat.zero_add, List.nil_append]
    have : (t.take (mx 0 (mn most out.length)).toNat).length < 4398046511104 := by rw [List.length_take]; omega
    rw [if_pos this]; rfl
  | false =>
    refine Ev.step (f := fun _ => some (vfin false most out)) (fun k => ?_) (Ev.now _)
    rw [merge_View.l0, if_neg (by omega), if_neg (by decide), if_pos m1, if_pos m2, clone47 _ (by rw [List.length_take]; omega)]
    rfl
theorem view_ev (l : List S31) (hl : l.length ≤ 400) (seq : Int) (lo hi : ByteArray) (back : Bool) (most : Int) : ∀ (d i : Nat) (out : List S47) (seen : Bool) (user : ByteArray), i + d = l.length → out.length ≤ i →
    Ev (fun k => merge_View.l0 k seq lo hi back most out seen user l (l.length : Int) (i : Int)) (vfin back most (viewP seq lo hi (l.drop i) out seen user))
  | 0, i, out, seen, user, hd, ho => by
    obtain rfl : i = l.length := by omega
    rw [List.drop_length, viewP]
    exact view_end l seq lo hi back most out seen user (by omega)
  | d + 1, i, out, seen, user, hd, ho => by
    have hi' : i < l.length := by omega
    have q1 : i + 1 + d = l.length := by omega
    have q2 : out.length ≤ i + 1 := by omega
    have q3 : out.length < 4398046511104 := by omega
    have q4 : ∀ v : S47, (out ++ [v]).length ≤ i + 1 := fun v => by rw [List.length_append, List.length_singleton]; omega
    have e2 : wrap64 ((i : Int) + 1) = ((i + 1 : Nat) : Int) := by rw [w64 (by omega) (by omega)]; omega
    have ih := view_ev l hl seq lo hi back most d (i + 1)
    rw [rd31_drop l i hi', viewP]
    refine Ev.step (fun k => view_round l i hi' seq lo hi back most out seen user k) ?_
    generalize rd_T31 l (i : Int) = e
    generalize (vskip seq lo hi e || (seen && e.f0.f0.toList == user.toList)) = c
    cases c with
    | true =>
      rw [if_pos rfl]
      refine Ev.step (fun k => ?_) (ih out seen user q1 q2)
      rw [merge_View.j1, if_pos rfl, e2]
    | false =>
      rw [if_neg Bool.false_ne_true]
      by_cases h1 : e.f0.f2 = 1
      · rw [if_pos h1]
        have ih2 := ih (out ++ [(⟨e.f0.f0, e.f1⟩ : S47)]) true e.f0.f0 q1 (q4 (⟨e.f0.f0, e.f1⟩ : S47))
        refine Ev.step (fun k => ?_) ih2
        rw [merge_View.j1, if_neg Bool.false_ne_true, if_pos h1, if_pos q3, e2]
      · rw [if_neg h1]
        refine Ev.step (fun k => ?_) (ih out true e.f0.f0 q1 q2)
        rw [merge_View.j1, if_neg Bool.false_ne_true, if_neg h1, e2]

def sameUser (p : Option ByteArray) (e : S31) : Bool := match p with | none => false | some u => u.toList == e.f0.f0.toList
def viewR (seq : Int) (lo hi : ByteArray) : List S31 → List S47 → Bool → Option ByteArray → List S47
  | [], out, _, _ => out
  | e :: r, out, done, p => if ((sameUser p e && done) || vskip seq lo hi e) = true then viewR seq lo hi r out (sameUser p e && done) (some e.f0.f0)
      else viewR seq lo hi r (if e.f0.f2 = 1 then out ++ [⟨e.f0.f0, e.f1⟩] else out) true (some e.f0.f0)
/-- users rise; alike ones stand side by side -/
def Rise : List S31 → Option ByteArray → Prop
  | [], _ => True
  | e :: r, p => (match p with | none => True | some u => u.toList = e.f0.f0.toList ∨ Op.bytesLess u.toList e.f0.f0.toList = true) ∧ Rise r (some e.f0.f0)
/-- what has been seen of the last user but the program's 'user' -/
theorem view_same (seq : Int) (lo hi : ByteArray) : ∀ (l : List S31) (out : List S47) (seen done : Bool) (user : ByteArray) (p : Option ByteArray), Rise l p →
    (p = none → seen = false ∧ done = false) →
    (∀ u, p = some u → (seen = true → user.toList = u.toList ∨ Op.bytesLess user.toList u.toList = true) ∧ (done = true ↔ seen = true ∧ user.toList = u.toList)) →
    viewP seq lo hi l out seen user = viewR seq lo hi l out done p
  | [], _, _, _, _, _, _, _, _ => rfl
  | e :: r, out, seen, done, user, p, hr, h0, h1 => by
    obtain ⟨hr1, hr2⟩ := hr
    have key : (seen && e.f0.f0.toList == user.toList) = (sameUser p e && done) ∧ (seen = true → user.toList = e.f0.f0.toList ∨ Op.bytesLess user.toList e.f0.f0.toList = true) := by
      cases p with
      | none =>
        obtain ⟨rfl, rfl⟩ := h0 rfl
        exact ⟨rfl, fun h => by cases h⟩
      | some u =>
        obtain ⟨g1, g2⟩ := h1 u rfl
        have hr1' : u.toList = e.f0.f0.toList ∨ Op.bytesLess u.toList e.f0.f0.toList = true := hr1
        constructor
        · rw [Bool.eq_iff_iff]
          simp only [sameUser, Bool.and_eq_true, beq_iff_eq]
          constructor
          · rintro ⟨a, b⟩
            rcases hr1' with c | c
            · exact ⟨c, g2.2 ⟨a, by rw [c, b]⟩⟩
            · exfalso
              rcases g1 a with d | d
              · rw [← d, ← b, bless_irrefl] at c; cases c
              · have := bless_trans _ _ _ d c; rw [b, bless_irrefl] at this; cases this
          · rintro ⟨a, b⟩
            obtain ⟨c, d⟩ := g2.1 b
            exact ⟨c, by rw [← a, d]⟩
        · intro a
          rcases hr1' with c | c
          · rw [← c]; exact g1 a
          · rcases g1 a with d | d
            · rw [d]; exact Or.inr c
            · exact Or.inr (bless_trans _ _ _ d c)
    obtain ⟨k1, k2⟩ := key
    rw [viewP, viewR, k1, Bool.or_comm]
    cases hc : ((sameUser p e && done) || vskip seq lo hi e) with
    | true =>
      rw [if_pos rfl, if_pos rfl]
      refine view_same seq lo hi r out seen _ user (some e.f0.f0) hr2 (fun h => by cases h) (fun u hu => ?_)
      obtain rfl := Option.some.inj hu
      refine ⟨k2, ?_⟩
      rw [← k1, Bool.and_eq_true, beq_iff_eq]
      exact ⟨fun ⟨a, b⟩ => ⟨a, b.symm⟩, fun ⟨a, b⟩ => ⟨a, b.symm⟩⟩
    | false =>
      rw [if_neg Bool.false_ne_true, if_neg Bool.false_ne_true]
      refine view_same seq lo hi r _ true true e.f0.f0 (some e.f0.f0) hr2 (fun h => by cases h) (fun u hu => ?_)
      obtain rfl := Option.some.inj hu
      exact ⟨fun _ => Or.inl rfl, ⟨fun _ => ⟨rfl, rfl⟩, fun _ => rfl⟩⟩

theorem viewP_length (seq : Int) (lo hi : ByteArray) : ∀ (l : List S31) (out : List S47) (seen : Bool) (user : ByteArray), (viewP seq lo hi l out seen user).length ≤ out.length + l.length
  | [], out, _, _ => by rw [viewP]; simp
  | e :: r, out, seen, user => by
    rw [viewP]
    split
    · have := viewP_length seq lo hi r out seen user
      rw [List.length_cons]; omega
    · have := viewP_length seq lo hi r (if e.f0.f2 = 1 then out ++ [⟨e.f0.f0, e.f1⟩] else out) true e.f0.f0
      have h2 : (if e.f0.f2 = 1 then out ++ [(⟨e.f0.f0, e.f1⟩ : S47)] else out).length ≤ out.length + 1 := by split <;> simp
      rw [List.length_cons]; omega
theorem vfin_length (back : Bool) (most : Int) (out : List S47) : (vfin back most out).length ≤ out.length := by
  unfold vfin
  rw [List.length_take]
  cases back <;> simp <;> omega

/-! ### What is seen: keys rise, and lie between the ends -/
def ULe (x y : S31) : Prop := x.f0.f0.toList = y.f0.f0.toList ∨ Op.bytesLess x.f0.f0.toList y.f0.f0.toList = true
theorem sup_ule {L : List S31} (h : SUp L) : L.Pairwise ULe := List.Pairwise.imp (fun {x y} hlt => by
  have := (kcr_lt _ _ _ _ _ _).1 hlt
  rcases this with h | ⟨h, _⟩
  · exact Or.inr h
  · exact Or.inl h) h
def Inside (lo hi : ByteArray) (x : S47) : Prop := Op.bytesLess x.f0.toList lo.toList = false ∧ (hi.toList = [] ∨ Op.bytesLess x.f0.toList hi.toList = true)
theorem skip_no {seq : Int} {lo hi : ByteArray} {e : S31} (h : vskip seq lo hi e = false) : Op.bytesLess e.f0.f0.toList lo.toList = false ∧ (hi.toList = [] ∨ Op.bytesLess e.f0.f0.toList hi.toList = true) ∧ e.f0.f1 ≤ seq := by
  unfold vskip at h
  simp only [Bool.or_eq_false_iff, Bool.and_eq_false_iff, Bool.not_eq_false', decide_eq_false_iff_not, beq_iff_eq] at h
  obtain ⟨⟨h1, h2⟩, h3⟩ := h
  refine ⟨h1, ?_, by omega⟩
  rcases h2 with h2 | h2
  · exact Or.inl h2
  · exact Or.inr h2
theorem viewP_keys (seq : Int) (lo hi : ByteArray) : ∀ (l : List S31) (out : List S47) (seen : Bool) (user : ByteArray), l.Pairwise ULe → (seen = true → ∀ e ∈ l, user.toList = e.f0.f0.toList ∨ Op.bytesLess user.toList e.f0.f0.toList = true) →
    ∃ q, viewP seq lo hi l out seen user = out ++ q ∧ q.Pairwise (fun x y => Op.bytesLess x.f0.toList y.f0.toList = true) ∧ ∀ x ∈ q, Inside lo hi x ∧ (seen = true → Op.bytesLess user.toList x.f0.toList = true)
  | [], out, seen, user, _, _ => ⟨[], by rw [viewP]; simp, List.Pairwise.nil, by simp⟩
  | e :: r, out, seen, user, hp, hs => by
    have hp' := List.pairwise_cons.1 hp
    rw [viewP]
    cases c : (vskip seq lo hi e || (seen && e.f0.f0.toList == user.toList)) with
    | true =>
      rw [if_pos rfl]
      exact viewP_keys seq lo hi r out seen user hp'.2 (fun h x hx => hs h x (List.mem_cons_of_mem _ hx))
    | false =>
      rw [if_neg Bool.false_ne_true]
      rw [Bool.or_eq_false_iff] at c
      obtain ⟨c1, c2⟩ := c
      obtain ⟨k1, k2, k3⟩ := skip_no c1
      have hne : seen = true → Op.bytesLess user.toList e.f0.f0.toList = true := by
        intro h
        rcases hs h e (by simp) with g | g
        · rw [h, Bool.true_and, beq_eq_false_iff_ne] at c2
          exact absurd g.symm c2
        · exact g
      obtain ⟨q, h1, h2, h3⟩ := viewP_keys seq lo hi r (if e.f0.f2 = 1 then out ++ [⟨e.f0.f0, e.f1⟩] else out) true e.f0.f0 hp'.2 (fun _ x hx => hp'.1 x hx)
      have up : ∀ x ∈ q, seen = true → Op.bytesLess user.toList x.f0.toList = true := fun x hx h => bless_trans _ _ _ (hne h) ((h3 x hx).2 rfl)
      by_cases c3 : e.f0.f2 = 1
      · rw [if_pos c3] at h1
        refine ⟨⟨e.f0.f0, e.f1⟩ :: q, by rw [if_pos c3, h1]; simp, List.pairwise_cons.2 ⟨fun x hx => (h3 x hx).2 rfl, h2⟩, fun x hx => ?_⟩
        rcases List.mem_cons.1 hx with rfl | hx
        · exact ⟨⟨k1, k2⟩, hne⟩
        · exact ⟨(h3 x hx).1, up x hx⟩
      · rw [if_neg c3] at h1
        exact ⟨q, by rw [if_neg c3, h1], h2, fun x hx => ⟨(h3 x hx).1, up x hx⟩⟩
theorem view_all (L : List S31) (hl : L.length ≤ 400) (seq : Int) (lo hi : ByteArray) (back : Bool) (most : Int) : Ev (fun k => merge_View.f k L seq lo hi back most) (vfin back most (viewP seq lo hi L [] false (⟨#[]⟩ : ByteArray))) := by
  have h1 := view_ev L hl seq lo hi back most L.length 0 [] false (⟨#[]⟩ : ByteArray) (by omega) (Nat.le_refl 0)
  rw [List.drop_zero] at h1
  exact h1
theorem rd47_getE (l : List S47) (i : Nat) (h : i < l.length) : rd_T47 l (i : Int) = l[i] := rd47_get l i h

/-! ### What is seen, told entry by entry -/
theorem pw_ext {α : Type} {r : α → α → Prop} (irr : ∀ x, ¬ r x x) (asym : ∀ x y, r x y → ¬ r y x) : ∀ (x y : List α), x.Pairwise r → y.Pairwise r → (∀ z, z ∈ x ↔ z ∈ y) → x = y
  | [], y, _, _, h => by
    cases y with
    | nil => rfl
    | cons b y => have := (h b).2 (by simp); simp at this
  | a :: x, [], _, _, h => by have := (h a).1 (by simp); simp at this
  | a :: x, b :: y, hx, hy, h => by
    have hx' := List.pairwise_cons.1 hx; have hy' := List.pairwise_cons.1 hy
    have e : a = b := by
      rcases List.mem_cons.1 ((h a).1 (by simp)) with e | m1
      · exact e
      · rcases List.mem_cons.1 ((h b).2 (by simp)) with e | m2
        · exact e.symm
        · exact absurd (hx'.1 b m2) (asym _ _ (hy'.1 a m1))
    subst e
    congr 1
    refine pw_ext irr asym x y hx'.2 hy'.2 (fun z => ⟨fun hz => ?_, fun hz => ?_⟩)
    · rcases List.mem_cons.1 ((h z).1 (List.mem_cons_of_mem _ hz)) with e | m
      · subst e; exact absurd (hx'.1 z hz) (irr z)
      · exact m
    · rcases List.mem_cons.1 ((h z).2 (List.mem_cons_of_mem _ hz)) with e | m
      · subst e; exact absurd (hy'.1 z hz) (irr z)
      · exact m
def pairOf (e : S31) : S47 := ⟨e.f0.f0, e.f1⟩
def KLt (x y : S47) : Prop := Op.bytesLess x.f0.toList y.f0.toList = true
theorem KLt.irr (x : S47) : ¬ KLt x x := by unfold KLt; rw [bless_irrefl]; exact Bool.false_ne_true
theorem KLt.asym (x y : S47) (h : KLt x y) : ¬ KLt y x := by unfold KLt; rw [bless_asymm h]; exact Bool.false_ne_true
def Seen (seq : Int) (lo hi : ByteArray) (L : List S31) (e : S31) : Prop := e ∈ L ∧ vskip seq lo hi e = false ∧ ∀ e' ∈ L, e'.f0.f0.toList = e.f0.f0.toList → vskip seq lo hi e' = false → kc e e' ≤ 0
theorem viewP_mem (seq : Int) (lo hi : ByteArray) (L : List S31) (hL : SUp L) : ∀ (l pre : List S31) (out : List S47) (seen : Bool) (user : ByteArray), pre ++ l = L →
    (∀ x ∈ l, (seen && x.f0.f0.toList == user.toList) = true ↔ ∃ e' ∈ pre, e'.f0.f0.toList = x.f0.f0.toList ∧ vskip seq lo hi e' = false) →
    ∃ q, viewP seq lo hi l out seen user = out ++ q ∧ ∀ x, x ∈ q ↔ ∃ e ∈ l, Seen seq lo hi L e ∧ e.f0.f2 = 1 ∧ x = pairOf e
  | [], pre, out, seen, user, _, _ => ⟨[], by rw [viewP]; simp, by simp⟩
  | e :: r, pre, out, seen, user, hpl, hinv => by
    have hpw := hL
    rw [← hpl] at hpw
    have hp := List.pairwise_append.1 hpw
    have hp2 := List.pairwise_cons.1 hp.2.1
    have hnext : (pre ++ [e]) ++ r = L := by rw [← hpl]; simp
    have heL : e ∈ L := by rw [← hpl]; simp
    have hpre : ∀ x ∈ pre, x ∈ L := fun x hx => by rw [← hpl]; exact List.mem_append_left _ hx
    rw [viewP]
    have hdup := hinv e (by simp)
    cases c1 : vskip seq lo hi e with
    | true =>
      rw [Bool.true_or, if_pos rfl]
      obtain ⟨q, h1, h2⟩ := viewP_mem seq lo hi L hL r (pre ++ [e]) out seen user hnext (fun x hx => by
        rw [hinv x (List.mem_cons_of_mem _ hx)]
        constructor
        · rintro ⟨e', g1, g2⟩; exact ⟨e', List.mem_append_left _ g1, g2⟩
        · rintro ⟨e', g1, g2, g3⟩
          rcases List.mem_append.1 g1 with g | g
          · exact ⟨e', g, g2, g3⟩
          · obtain rfl : e' = e := by simpa using g
            rw [c1] at g3; cases g3)
      refine ⟨q, h1, fun x => ?_⟩
      rw [h2]
      constructor
      · rintro ⟨a, g1, g2⟩; exact ⟨a, List.mem_cons_of_mem _ g1, g2⟩
      · rintro ⟨a, g1, g2, g3⟩
        rcases List.mem_cons.1 g1 with rfl | g
        · have := g2.2.1; rw [c1] at this; cases this
        · exact ⟨a, g, g2, g3⟩
    | false =>
      rw [Bool.false_or]
      cases c2 : (seen && e.f0.f0.toList == user.toList) with
      | true =>
        rw [if_pos rfl]
        obtain ⟨e0, k1, k2, k3⟩ := hdup.1 c2
        obtain ⟨q, h1, h2⟩ := viewP_mem seq lo hi L hL r (pre ++ [e]) out seen user hnext (fun x hx => by
          rw [hinv x (List.mem_cons_of_mem _ hx)]
          constructor
          · rintro ⟨e', g1, g2⟩; exact ⟨e', List.mem_append_left _ g1, g2⟩
          · rintro ⟨e', g1, g2, g3⟩
            rcases List.mem_append.1 g1 with g | g
            · exact ⟨e', g, g2, g3⟩
            · obtain rfl : e' = e := by simpa using g
              exact ⟨e0, k1, by rw [k2, g2], k3⟩)
        refine ⟨q, h1, fun x => ?_⟩
        rw [h2]
        constructor
        · rintro ⟨a, g1, g2⟩; exact ⟨a, List.mem_cons_of_mem _ g1, g2⟩
        · rintro ⟨a, g1, g2, g3⟩
          rcases List.mem_cons.1 g1 with rfl | g
          · have h4 := g2.2.2 e0 (hpre e0 k1) k2 k3
            have h5 := hp.2.2 e0 k1 a (by simp)
            have := (kc_cmp.anti e0 a).1 h5; omega
          · exact ⟨a, g, g2, g3⟩
      | false =>
        rw [if_neg Bool.false_ne_true]
        have hno : ∀ e' ∈ pre, e'.f0.f0.toList = e.f0.f0.toList → vskip seq lo hi e' = false → False := fun e' g1 g2 g3 => by
          have := hdup.2 ⟨e', g1, g2, g3⟩; rw [c2] at this; cases this
        have hseen : Seen seq lo hi L e := ⟨heL, c1, fun e' g1 g2 g3 => by
          rw [← hpl] at g1
          rcases List.mem_append.1 g1 with g | g
          · exact absurd g3 (fun h => hno e' g g2 h)
          · rcases List.mem_cons.1 g with rfl | g
            · have := kc_cmp.refl e'; omega
            · have := hp2.1 e' g; omega⟩
        obtain ⟨q, h1, h2⟩ := viewP_mem seq lo hi L hL r (pre ++ [e]) (if e.f0.f2 = 1 then out ++ [⟨e.f0.f0, e.f1⟩] else out) true e.f0.f0 hnext (fun x hx => by
          rw [Bool.true_and, beq_iff_eq]
          constructor
          · intro h; exact ⟨e, by simp, h.symm, c1⟩
          · rintro ⟨e', g1, g2, g3⟩
            rcases List.mem_append.1 g1 with g | g
            · have u1 : ULe e' e := by
                have := List.pairwise_append.1 (sup_ule hpw)
                exact this.2.2 e' g e (by simp)
              have u2 : ULe e x := by
                have := List.pairwise_cons.1 (List.pairwise_append.1 (sup_ule hpw)).2.1
                exact this.1 x hx
              rcases u2 with u2 | u2
              · exact u2.symm
              · exfalso
                rcases u1 with u1 | u1
                · rw [← u1, g2, bless_irrefl] at u2; cases u2
                · have := bless_trans _ _ _ u1 u2; rw [g2, bless_irrefl] at this; cases this
            · obtain rfl : e' = e := by simpa using g
              exact g2.symm)
        by_cases c3 : e.f0.f2 = 1
        · rw [if_pos c3] at h1
          refine ⟨pairOf e :: q, by rw [if_pos c3, h1]; simp [pairOf], fun x => ?_⟩
          rw [List.mem_cons, h2]
          constructor
          · rintro (h | ⟨a, g1, g2⟩)
            · exact ⟨e, by simp, hseen, c3, h⟩
            · exact ⟨a, List.mem_cons_of_mem _ g1, g2⟩
          · rintro ⟨a, g1, g2, g3, g4⟩
            rcases List.mem_cons.1 g1 with rfl | g
            · exact Or.inl g4
            · exact Or.inr ⟨a, g, g2, g3, g4⟩
        · rw [if_neg c3] at h1
          refine ⟨q, by rw [if_neg c3, h1], fun x => ?_⟩
          rw [h2]
          constructor
          · rintro ⟨a, g1, g2⟩; exact ⟨a, List.mem_cons_of_mem _ g1, g2⟩
          · rintro ⟨a, g1, g2, g3, g4⟩
            rcases List.mem_cons.1 g1 with rfl | g
            · exact absurd g3 c3
            · exact ⟨a, g, g2, g3, g4⟩
/-- all at once -/
theorem view_spec (seq : Int) (lo hi : ByteArray) (L : List S31) (hL : SUp L) : ∃ q, viewP seq lo hi L [] false (⟨#[]⟩ : ByteArray) = q ∧ q.Pairwise KLt ∧ q.length ≤ L.length ∧ ∀ x, x ∈ q ↔ ∃ e, Seen seq lo hi L e ∧ e.f0.f2 = 1 ∧ x = pairOf e := by
  obtain ⟨q, h1, h2⟩ := viewP_mem seq lo hi L hL L [] [] false (⟨#[]⟩ : ByteArray) rfl (by simp)
  obtain ⟨q2, k1, k2, _⟩ := viewP_keys seq lo hi L [] false (⟨#[]⟩ : ByteArray) (sup_ule hL) (fun h => by cases h)
  rw [List.nil_append] at h1 k1
  have hlen := viewP_length seq lo hi L [] false (⟨#[]⟩ : ByteArray)
  rw [h1, List.length_nil] at hlen
  refine ⟨q, h1, ?_, by omega, fun x => ?_⟩
  · rw [h1] at k1; subst k1; exact k2
  · rw [h2]
    constructor
    · rintro ⟨e, _, g⟩; exact ⟨e, g⟩
    · rintro ⟨e, g⟩; exact ⟨e, g.1.1, g⟩
theorem bless_zero : ∀ a b : List UInt8, Op.bytesLess b (a ++ [0]) = !(Op.bytesLess a b)
  | [], [] => rfl
  | [], x :: t => by
    have h : ¬ x < 0 := by rw [UInt8.lt_iff_toNat_lt]; exact Nat.not_lt_zero _
    cases t <;> simp [Op.bytesLess, h]
  | c :: a, [] => rfl
  | c :: a, x :: t => by
    have ih := bless_zero a t
    simp only [List.cons_append, Op.bytesLess, ih]
    by_cases h1 : x < c
    · have h2 : ¬ c < x := UInt8.lt_asymm h1
      have h3 : ¬ c = x := fun e => by subst e; exact UInt8.lt_irrefl _ h1
      simp [h1, h2, h3]
    · by_cases h2 : c < x
      · have h3 : ¬ x = c := fun e => by subst e; exact UInt8.lt_irrefl _ h2
        simp [h1, h2, h3]
      · have h3 : x = c := by
          rw [UInt8.lt_iff_toNat_lt] at h1 h2
          exact UInt8.toNat_inj.1 (by omega)
        subst h3
        simp [UInt8.lt_irrefl]
theorem snoc_of' {α : Type} (A : List α) (h : A ≠ []) : ∃ B y, A = B ++ [y] := ⟨A.dropLast, A.getLast h, (List.dropLast_concat_getLast _).symm⟩

theorem awake15_ev : Ev iceboxlaw15_awake.f true := Ev.of (fun k => iceboxlaw15_awake.mono k) (k := 40) (by decide +kernel)
theorem awakeb_ev : Ev (fun k => (iceboxlaw15_awake.f k).bind fun t => some t) true := Ev.bind awake15_ev (f := fun _ t => some t) (Ev.now _)
theorem vfin_f (most : Int) (q : List S47) (h0 : 0 ≤ most) : vfin false most q = q.take most.toNat := by
  unfold vfin
  have : (mx 0 (mn most q.length)).toNat = min most.toNat q.length := by unfold mx mn; split <;> split <;> omega
  rw [this]
  rcases Nat.le_total most.toNat q.length with h | h
  · rw [Nat.min_eq_left h]; rfl
  · rw [Nat.min_eq_right h, List.take_of_length_le h, if_neg Bool.false_ne_true, List.take_length]
/-- the last number up to there that has the key -/
def lastAt (ns : List Int) (seq w : Int) : Nat → Int
  | 0 => -1
  | i + 1 => if rd ns (i : Int) % 7 = w % 7 ∧ 1 + (i : Int) ≤ seq then (i : Int) else lastAt ns seq w i
theorem lastAt_spec (ns : List Int) (seq w : Int) : ∀ i : Nat, (lastAt ns seq w i = -1 ∧ ∀ j : Nat, j < i → ¬ (rd ns (j : Int) % 7 = w % 7 ∧ 1 + (j : Int) ≤ seq)) ∨
    ∃ a : Nat, lastAt ns seq w i = a ∧ a < i ∧ rd ns (a : Int) % 7 = w % 7 ∧ 1 + (a : Int) ≤ seq ∧ ∀ j : Nat, j < i → (rd ns (j : Int) % 7 = w % 7 ∧ 1 + (j : Int) ≤ seq) → j ≤ a
  | 0 => Or.inl ⟨rfl, fun j hj => by omega⟩
  | i + 1 => by
    by_cases c : rd ns (i : Int) % 7 = w % 7 ∧ 1 + (i : Int) ≤ seq
    · refine Or.inr ⟨i, by rw [lastAt, if_pos c], by omega, c.1, c.2, fun j hj _ => by omega⟩
    · rcases lastAt_spec ns seq w i with ⟨h1, h2⟩ | ⟨a, h1, h2, h3, h4, h5⟩
      · refine Or.inl ⟨by rw [lastAt, if_neg c]; exact h1, fun j hj => ?_⟩
        rcases Nat.lt_or_ge j i with h | h
        · exact h2 j h
        · rw [show j = i by omega]; exact c
      · refine Or.inr ⟨a, by rw [lastAt, if_neg c]; exact h1, by omega, h3, h4, fun j hj hc => ?_⟩
        rcases Nat.lt_or_ge j i with h | h
        · exact h5 j h hc
        · rw [show j = i by omega] at hc; exact absurd hc c
theorem keyOf_inj {m n : Nat} (hm : m < 256) (hn : n < 256) (h : (keyOf m).toList = (keyOf n).toList) : m = n := by
  unfold keyOf at h
  rw [toList_app, toList_app] at h
  exact dg_inj hm hn (List.append_cancel_left h)
theorem ent_user (ns : List Int) (i : Nat) : (ent ns 4 i).f0.f0 = keyOf (rd ns i % 7).toNat := by
  unfold ent; split <;> rfl
theorem ent_seq (ns : List Int) (i : Nat) : (ent ns 4 i).f0.f1 = 1 + i := by
  unfold ent; split <;> rfl
theorem sees_view (ns : List Int) (hns : ∀ x ∈ ns, 0 ≤ x ∧ x ≤ 255) (seq w : Int) (hw : 0 ≤ w) (M : List S31) (hM : SUp M) (hl : M.length ≤ 200) (hm : ∀ z, z ∈ M ↔ ∃ j, j < ns.length ∧ z = ent ns 4 j) :
    ∃ q, viewP seq (keyOf (w % 7).toNat) (keyOf (w % 7).toNat ++ (⟨#[0]⟩ : ByteArray)) M [] false (⟨#[]⟩ : ByteArray) = q ∧
      ((lastAt ns seq w ns.length = -1 ∧ q = []) ∨ ∃ a : Nat, lastAt ns seq w ns.length = a ∧ a < ns.length ∧ (rd ns (a : Int) % 7 = 0 → q = []) ∧ (rd ns (a : Int) % 7 ≠ 0 → ∃ u : ByteArray, u.toList = (keyOf (w % 7).toNat).toList ∧ q = [⟨u, dg (rd ns (a : Int)).toNat⟩])) := by
  obtain ⟨q, a1, a2, a3, a4⟩ := view_spec seq (keyOf (w % 7).toNat) (keyOf (w % 7).toNat ++ (⟨#[0]⟩ : ByteArray)) M hM
  refine ⟨q, a1, ?_⟩
  have hw7 : (w % 7).toNat < 256 := by omega
  have hr7 : ∀ j : Nat, (rd ns (j : Int) % 7).toNat < 256 := fun j => by omega
  have tl : (keyOf (w % 7).toNat ++ (⟨#[0]⟩ : ByteArray)).toList = (keyOf (w % 7).toNat).toList ++ [0] := by rw [toList_app, zero_tl]
  -- an entry is not skipped: its key and its number
  have sk : ∀ j : Nat, vskip seq (keyOf (w % 7).toNat) (keyOf (w % 7).toNat ++ (⟨#[0]⟩ : ByteArray)) (ent ns 4 j) = false ↔ (rd ns (j : Int) % 7 = w % 7 ∧ 1 + (j : Int) ≤ seq) := by
    intro j
    constructor
    · intro h
      obtain ⟨h1, h2, h3⟩ := skip_no h
      rw [ent_user] at h1 h2
      rw [ent_seq] at h3
      rw [tl] at h2
      have h2' : Op.bytesLess (keyOf (rd ns (j : Int) % 7).toNat).toList ((keyOf (w % 7).toNat).toList ++ [0]) = true := by
        rcases h2 with h2 | h2
        · exact absurd h2 (by simp)
        · exact h2
      rw [bless_zero] at h2'
      have h4 : Op.bytesLess (keyOf (w % 7).toNat).toList (keyOf (rd ns (j : Int) % 7).toNat).toList = false := by simpa using h2'
      have h5 : (keyOf (rd ns (j : Int) % 7).toNat).toList = (keyOf (w % 7).toNat).toList := by
        rcases bless_total (keyOf (rd ns (j : Int) % 7).toNat).toList (keyOf (w % 7).toNat).toList with h | h | h
        · rw [h1] at h; cases h
        · exact h
        · rw [h4] at h; cases h
      have := keyOf_inj (hr7 j) hw7 h5
      exact ⟨by omega, h3⟩
    · rintro ⟨h1, h2⟩
      unfold vskip
      rw [ent_user, ent_seq, h1, tl, bless_irrefl, bless_zero, bless_irrefl]
      simp; omega
  -- who is seen
  have seen : ∀ e, Seen seq (keyOf (w % 7).toNat) (keyOf (w % 7).toNat ++ (⟨#[0]⟩ : ByteArray)) M e → ∃ a : Nat, lastAt ns seq w ns.length = a ∧ e = ent ns 4 a := by
    intro e ⟨h1, h2, h3⟩
    obtain ⟨j, hj, rfl⟩ := (hm e).1 h1
    have hc := (sk j).1 h2
    rcases lastAt_spec ns seq w ns.length with ⟨_, g2⟩ | ⟨a, g1, g2, g3, g4, g5⟩
    · exact absurd hc (g2 j hj)
    · have hja := g5 j hj hc
      refine ⟨a, g1, ?_⟩
      have h4 := h3 (ent ns 4 a) ((hm _).2 ⟨a, g2, rfl⟩) (by rw [ent_user, ent_user, g3, hc.1]) ((sk a).2 ⟨g3, g4⟩)
      have h5 := (kcr_le _ _ _ _ _ _).1 h4
      rw [ent_user, ent_user, ent_seq, ent_seq, g3, hc.1, bless_irrefl] at h5
      have : (a : Int) ≤ j := by
        rcases h5 with h5 | ⟨_, h5⟩
        · cases h5
        · omega
      rw [show a = j by omega]
  have qone : ∀ (v : S47), v ∈ q → (∀ x ∈ q, x = v) → q = [v] := by
    intro v hv hall
    have := pw_ext KLt.irr KLt.asym q [v] a2 (List.pairwise_singleton _ _) (fun z => ⟨fun hz => by rw [hall z hz]; simp, fun hz => by
      have : z = v := by simpa using hz
      rw [this]; exact hv⟩)
    exact this
  rcases lastAt_spec ns seq w ns.length with ⟨g1, g2⟩ | ⟨a, g1, g2, g3, g4, g5⟩
  · refine Or.inl ⟨g1, List.eq_nil_iff_forall_not_mem.2 (fun x hx => ?_)⟩
    obtain ⟨e, he, _⟩ := (a4 x).1 hx
    obtain ⟨a, h1, _⟩ := seen e he
    rw [g1] at h1; omega
  · refine Or.inr ⟨a, g1, g2, fun h0 => List.eq_nil_iff_forall_not_mem.2 (fun x hx => ?_), fun h0 => ?_⟩
    · obtain ⟨e, he, hk, _⟩ := (a4 x).1 hx
      obtain ⟨a', h1, rfl⟩ := seen e he
      rw [g1] at h1
      obtain rfl : a' = a := by omega
      unfold ent at hk
      rw [if_pos h0] at hk
      exact absurd (show (2 : Int) = 1 from hk) (by decide)
    · have hs : Seen seq (keyOf (w % 7).toNat) (keyOf (w % 7).toNat ++ (⟨#[0]⟩ : ByteArray)) M (ent ns 4 a) := by
        refine ⟨(hm _).2 ⟨a, g2, rfl⟩, (sk a).2 ⟨g3, g4⟩, fun e' h1 h2 h3 => ?_⟩
        obtain ⟨j, hj, rfl⟩ := (hm e').1 h1
        have hc := (sk j).1 h3
        have hja := g5 j hj hc
        refine (kcr_le _ _ _ _ _ _).2 (Or.inr ⟨h2.symm, ?_⟩)
        rw [ent_seq, ent_seq]
        rcases Nat.lt_or_ge j a with h | h
        · exact Or.inl (by omega)
        · have : j = a := by omega
          subst this; exact Or.inr ⟨rfl, Int.le_refl _⟩
      have hk1 : (ent ns 4 a).f0.f2 = 1 := by unfold ent; rw [if_neg h0]
      have hv : (ent ns 4 a).f1 = dg (rd ns (a : Int)).toNat := by unfold ent; rw [if_neg h0]
      refine ⟨(ent ns 4 a).f0.f0, by rw [ent_user, g3], ?_⟩
      rw [← hv]
      refine qone _ ((a4 _).2 ⟨_, hs, hk1, rfl⟩) (fun x hx => ?_)
      obtain ⟨e, he, _, rfl⟩ := (a4 x).1 hx
      obtain ⟨a', h1, rfl⟩ := seen e he
      rw [g1] at h1
      obtain rfl : a' = a := by omega
      rfl
theorem rd_mem (ns : List Int) (i : Nat) (h : i < ns.length) : rd ns (i : Int) ∈ ns := by
  unfold rd
  rw [Int.toNat_natCast, List.getD_eq_getElem?_getD, List.getElem?_eq_getElem h]
  exact List.getElem_mem h
theorem sees_loop (ns : List Int) (hns : ∀ x ∈ ns, 0 ≤ x ∧ x ≤ 255) (hnl : ns.length ≤ 80) (a1 w : Int) (ha : 0 ≤ a1 ∧ a1 ≤ 255) (hw : 0 ≤ w ∧ w ≤ 255) (M : List S31) (hM : SUp M) (hl : M.length ≤ 200) (hm : ∀ z, z ∈ M ↔ ∃ j, j < ns.length ∧ z = ent ns 4 j) (d : Nat) :
    ∀ i : Nat, i + d = ns.length → Ev (fun k => iceboxlaw15_MergeSees.l0 k ns a1 w M (keyOf (w % 7).toNat) (lastAt ns a1 w i) (i : Int)) true := by
  have ew1 : wrap64 a1 = a1 := w64 (by omega) (by omega)
  have ew2 : Int.tmod (wrap64 w) 7 = w % 7 := by rw [w64 (by omega) (by omega), Int.tmod_eq_emod_of_nonneg hw.1]
  induction d with
  | zero =>
    intro i hd
    obtain rfl : i = ns.length := by omega
    obtain ⟨q, q1, q2⟩ := sees_view ns hns a1 w hw.1 M hM hl hm
    have hv := view_all M (by omega) a1 (keyOf (w % 7).toNat) (keyOf (w % 7).toNat ++ (⟨#[0]⟩ : ByteArray)) false 5
    rw [q1, vfin_f _ _ (by omega)] at hv
    have hks : (keyOf (w % 7).toNat).size + 1 ≤ 9223372036854775807 := by have := keyOf_size (w % 7).toNat (by omega); omega
    have tk : q.length ≤ 1 → q.take (5 : Int).toNat = q := fun h => List.take_of_length_le (by show q.length ≤ 5; omega)
    have e0 : ∀ k, iceboxlaw15_MergeSees.l0 (k + 1) ns a1 w M (keyOf (w % 7).toNat) (lastAt ns a1 w ns.length) (ns.length : Int) = (merge_View.f k M a1 (keyOf (w % 7).toNat) (keyOf (w % 7).toNat ++ (⟨#[0]⟩ : ByteArray)) false 5).bind fun t266 => (if lastAt ns a1 w ns.length < 0 then (iceboxlaw15_MergeSees.j1 k ns (keyOf (w % 7).toNat) (lastAt ns a1 w ns.length) t266 true) else (if 0 ≤ lastAt ns a1 w ns.length then (if lastAt ns a1 w ns.length < (ns.length : Int) then (iceboxlaw15_MergeSees.j1 k ns (keyOf (w % 7).toNat) (lastAt ns a1 w ns.length) t266 ((Int.tmod (rd ns (lastAt ns a1 w ns.length)) 7) == 0)) else (none)) else (none))) := fun k => by
      rw [iceboxlaw15_MergeSees.l0, if_neg (by omega), if_pos hks, ew1]
    have jnil : ∀ x9 : Int, Ev (fun k => iceboxlaw15_MergeSees.j1 k ns (keyOf (w % 7).toNat) x9 [] true) true := fun x9 =>
      Ev.step (fun k => by rw [iceboxlaw15_MergeSees.j1, if_pos rfl, if_pos (show (([] : List S47).length : Int) = 0 from rfl)]) awakeb_ev
    refine Ev.step e0 ?_
    rcases q2 with ⟨g1, rfl⟩ | ⟨a, g1, g2, g3, g4⟩
    · rw [List.take_nil] at hv
      refine Ev.bind hv ?_
      rw [g1]
      exact Ev.congr (fun k => by rw [if_pos (by decide)]) (jnil (-1))
    · rw [g1]
      have r0 : ¬ ((a : Int) < 0) := by omega
      have r1 : (0 : Int) ≤ (a : Int) := by omega
      have r2 : (a : Int) < (ns.length : Int) := by omega
      have hr := hns _ (rd_mem ns a g2)
      have em : Int.tmod (rd ns (a : Int)) 7 = rd ns (a : Int) % 7 := Int.tmod_eq_emod_of_nonneg hr.1
      by_cases c : rd ns (a : Int) % 7 = 0
      · rw [g3 c, List.take_nil] at hv
        refine Ev.bind hv (Ev.congr (fun k => ?_) (jnil (a : Int)))
        rw [if_neg r0, if_pos r1, if_pos r2, em, c]; rfl
      · obtain ⟨u, hu, hq⟩ := g4 c
        rw [tk (by rw [hq]; exact Nat.le_refl 1), hq] at hv
        have hd := dg_ev (rd ns (a : Int)) hr.1 hr.2
        refine Ev.bind hv (Ev.congr (f := fun k => iceboxlaw15_MergeSees.j1 k ns (keyOf (w % 7).toNat) (a : Int) [⟨u, dg (rd ns (a : Int)).toNat⟩] false) (fun k => ?_) ?_)
        · rw [if_neg r0, if_pos r1, if_pos r2, em, beq_eq_false_iff_ne.2 c]
        · refine Ev.step (fun k => ?_) (Ev.bind hd (f := fun k t274 => if (dg (rd ns (a : Int)).toNat).toList = t274.toList then ((iceboxlaw15_awake.f k).bind fun t275 => (some t275)) else (some false)) (Ev.congr (fun k => by rw [if_pos rfl]) awakeb_ev))
          have e1 : rd_T47 [(⟨u, dg (rd ns (a : Int)).toNat⟩ : S47)] 0 = ⟨u, dg (rd ns (a : Int)).toNat⟩ := rfl
          rw [iceboxlaw15_MergeSees.j1, if_neg Bool.false_ne_true, if_pos (by rfl), if_pos (by simp), e1, if_pos hu, if_pos r1, if_pos r2, w64 (x := rd ns (a : Int)) (by omega) (by omega)]
  | succ d ih =>
    intro i hd
    have hi : i < ns.length := by omega
    have hr := hns _ (rd_mem ns i hi)
    have ih := ih (i + 1) (by omega)
    have p0 : (0 : Int) ≤ (i : Int) := by omega
    have p1 : (i : Int) < (ns.length : Int) := by omega
    have b1 : (-9223372036854775808 : Int) ≤ rd ns (i : Int) := by omega
    have b2 : rd ns (i : Int) < 9223372036854775808 := by omega
    have b3 : (-9223372036854775808 : Int) ≤ 1 + (i : Int) := by omega
    have b4 : 1 + (i : Int) < 9223372036854775808 := by omega
    have b5 : (-9223372036854775808 : Int) ≤ (i : Int) + 1 := by omega
    have b6 : (i : Int) + 1 < 9223372036854775808 := by omega
    have b7 : (i : Int) + 1 = ((i + 1 : Nat) : Int) := by omega
    have e1 : Int.tmod (wrap64 (rd ns (i : Int))) 7 = rd ns (i : Int) % 7 := by rw [w64 b1 b2, Int.tmod_eq_emod_of_nonneg hr.1]
    have e2 : wrap64 (1 + (i : Int)) = 1 + (i : Int) := w64 b3 b4
    have e3 : wrap64 ((i : Int) + 1) = ((i + 1 : Nat) : Int) := by rw [w64 b5 b6, b7]
    refine Ev.step (fun k => ?_) ih
    rw [iceboxlaw15_MergeSees.l0, if_pos p1, if_pos p0, e1, ew2, e2, ew1, e3, lastAt]
    by_cases c1 : rd ns (i : Int) % 7 = w % 7
    · by_cases c2 : 1 + (i : Int) ≤ a1
      · rw [if_pos c1, if_pos c2, if_pos ⟨c1, c2⟩]
      · rw [if_pos c1, if_neg c2, if_neg (fun h => c2 h.2)]
    · rw [if_neg c1, if_neg (fun h => c1 h.1)]
theorem MergeSees : iceboxlaw15_MergeSees.Pure := by
  intro ns a1 a2 _ _ hns h1 h2
  apply Ev.rounds
  unfold iceboxlaw15_MergeSees.f
  by_cases c : (ns.length : Int) > 80
  · exact Ev.congr (fun k => by rw [if_pos c]) awakeb_ev
  have g1 := wf_u8 h1; have g2 := wf_u8 h2
  have hns' : ∀ x ∈ ns, 0 ≤ x ∧ x ≤ 255 := fun x hx => by have := wf_u8 (hns x hx); omega
  obtain ⟨M, m1, m2, m3, m4⟩ := make_ev ns 4 hns' (by omega) (by omega) (by omega)
  have ew2 : Int.tmod (wrap64 a2) 7 = a2 % 7 := by rw [w64 (by omega) (by omega), Int.tmod_eq_emod_of_nonneg g2.1]
  have d1 := dg_ev (a2 % 7) (by omega) (by omega)
  have s1 := dg_size (a2 % 7).toNat (by omega)
  have z1 : 3 + (dg (a2 % 7).toNat).size ≤ 9223372036854775807 := by omega
  have h := sees_loop ns hns' (by omega) a1 a2 ⟨g1.1, by omega⟩ ⟨g2.1, by omega⟩ M m1 (by omega) m3 ns.length 0 (by omega)
  refine Ev.congr (f := fun k => (iceboxlaw12_Make.f k ns 4).bind fun t261 => (iceboxref1_Digits.f k (a2 % 7)).bind fun t264 => (if 3 + t264.size ≤ 9223372036854775807 then (iceboxlaw15_MergeSees.l0 k ns a1 a2 t261 ((⟨#[107, 101, 121]⟩ : ByteArray) ++ t264) (-1) 0) else (none))) (fun k => by rw [if_neg c, ew2]) (Ev.bind m4 (Ev.bind d1 (f := fun k t264 => (if 3 + t264.size ≤ 9223372036854775807 then (iceboxlaw15_MergeSees.l0 k ns a1 a2 M ((⟨#[107, 101, 121]⟩ : ByteArray) ++ t264) (-1) 0) else (none))) (Ev.congr (fun k => by rw [if_pos z1]; rfl) h)))

end Go.Proofs.Ytoomipmndapgnaa.Pure
