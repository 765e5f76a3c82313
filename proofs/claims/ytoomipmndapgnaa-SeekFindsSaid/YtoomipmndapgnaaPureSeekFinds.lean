/- The pure statement of the law SeekFinds: over the Lean functions that the Go code was shown to compute, the law answers true for every input within the statement's own bounds. No further conditions. -/
import Derived.Test.YtoomipmndapgnaaPSeekFindsx1
import Derived.Test.YtoomipmndapgnaaPSeekFindsx2
import Derived.Test.YtoomipmndapgnaaPSeekFindsx3
import Derived.Test.YtoomipmndapgnaaPSeekFindsx6
import Derived.Test.YtoomipmndapgnaaPSeekFindsx7
namespace Go.Proofs.Ytoomipmndapgnaa.Pure
open Go.RowKit Go.Proofs.Ytoomipmndapgnaa.PSeekFinds Go.Proofs.YtoomipmndapgnaaW.PrintWords Go.Proofs.YtoomipmndapgnaaW.PrintLast Go.Proofs.YtoomipmndapgnaaW.PrintMore
set_option linter.unusedVariables false
set_option linter.unusedSimpArgs false

theorem w64 {x : Int} (h0 : -9223372036854775808 ≤ x) (h1 : x < 9223372036854775808) : wrap64 x = x := by
  unfold wrap64; omega
theorem bits_xor_nat (k : IntKind) (j : Nat) (hj : j ≤ k.bits) (hk : ∀ n : Int, 0 ≤ n → n < 2 ^ j → k.wrap n = n) (a b : Nat) (ha : a < 2 ^ j) (hb : b < 2 ^ j) :
    Go.bits .xor k a b = ((a ^^^ b : Nat) : Int) := by
  have hp : 2 ^ j ≤ 2 ^ k.bits := Nat.pow_le_pow_right (by decide) hj
  have ha' : a % 2 ^ k.bits = a := Nat.mod_eq_of_lt (Nat.lt_of_lt_of_le ha hp)
  have hb' : b % 2 ^ k.bits = b := Nat.mod_eq_of_lt (Nat.lt_of_lt_of_le hb hp)
  simp only [Go.bits, BitVec.ofInt_natCast, BitVec.toNat_xor, BitVec.toNat_ofNat, ha', hb']
  exact hk _ (Int.natCast_nonneg _) (by exact_mod_cast Nat.xor_lt_two_pow ha hb)
theorem wr_u32 (n : Int) (h₀ : 0 ≤ n) (h₁ : n < 2 ^ 32) : IntKind.u32.wrap n = n := by rw [IntKind.wrap_u32]; omega
theorem wr_u8 (n : Int) (h₀ : 0 ≤ n) (h₁ : n < 2 ^ 8) : IntKind.u8.wrap n = n := by rw [IntKind.wrap_u8]; omega
theorem wr_i64 (n : Int) (h₀ : 0 ≤ n) (h₁ : n < 2 ^ 63) : IntKind.i64.wrap n = n := by rw [IntKind.wrap_i64]; omega
theorem wr_u64 (n : Int) : IntKind.u64.wrap n = n % 18446744073709551616 := by simp [IntKind.wrap, IntKind.bits, IntKind.signed]
theorem bx_u32 (a b : Nat) (ha : a < 2 ^ 32) (hb : b < 2 ^ 32) : Go.bits .xor .u32 a b = ((a ^^^ b : Nat) : Int) := bits_xor_nat .u32 32 (by decide) wr_u32 a b ha hb
theorem bx_u8 (a b : Nat) (ha : a < 2 ^ 8) (hb : b < 2 ^ 8) : Go.bits .xor .u8 a b = ((a ^^^ b : Nat) : Int) := bits_xor_nat .u8 8 (by decide) wr_u8 a b ha hb
theorem bx_i64 (a b : Nat) (ha : a < 2 ^ 63) (hb : b < 2 ^ 63) : Go.bits .xor .i64 a b = ((a ^^^ b : Nat) : Int) := bits_xor_nat .i64 63 (by decide) wr_i64 a b ha hb
theorem bo_i64 (a b : Nat) (ha : a < 2 ^ 63) (hb : b < 2 ^ 63) : Go.bits .or .i64 a b = ((a ||| b : Nat) : Int) := (bits_nat .i64 63 (by decide) wr_i64 a b ha hb).2
theorem bo_u8 (a b : Nat) (ha : a < 2 ^ 8) (hb : b < 2 ^ 8) : Go.bits .or .u8 a b = ((a ||| b : Nat) : Int) := (bits_nat .u8 8 (by decide) wr_u8 a b ha hb).2
theorem ba_u8 (a b : Nat) (ha : a < 2 ^ 8) (hb : b < 2 ^ 8) : Go.bits .and .u8 a b = ((a &&& b : Nat) : Int) := (bits_nat .u8 8 (by decide) wr_u8 a b ha hb).1
theorem ba_u32 (a b : Nat) (ha : a < 2 ^ 32) (hb : b < 2 ^ 32) : Go.bits .and .u32 a b = ((a &&& b : Nat) : Int) := (bits_nat .u32 32 (by decide) wr_u32 a b ha hb).1
theorem max_u32 : IntKind.u32.max = ((4294967295 : Nat) : Int) := by decide
theorem wf_u8 {x : Int} (h : (Lit.int .u8 x).wf = true) : 0 ≤ x ∧ x < 256 := by
  simp [Lit.wf, IntKind.min, IntKind.max, IntKind.signed, IntKind.bits] at h; omega
theorem wf_u16 {x : Int} (h : (Lit.int .u16 x).wf = true) : 0 ≤ x ∧ x < 65536 := by
  simp [Lit.wf, IntKind.min, IntKind.max, IntKind.signed, IntKind.bits] at h; omega
theorem wf_u32 {x : Int} (h : (Lit.int .u32 x).wf = true) : 0 ≤ x ∧ x < 4294967296 := by
  simp [Lit.wf, IntKind.min, IntKind.max, IntKind.signed, IntKind.bits] at h; omega
theorem wf_u64 {x : Int} (h : (Lit.int .u64 x).wf = true) : 0 ≤ x ∧ x < 18446744073709551616 := by
  simp [Lit.wf, IntKind.min, IntKind.max, IntKind.signed, IntKind.bits] at h; omega
theorem wf_i64 {x : Int} (h : (Lit.int .i64 x).wf = true) : -9223372036854775808 ≤ x ∧ x < 9223372036854775808 := by
  simp [Lit.wf, IntKind.min, IntKind.max, IntKind.signed, IntKind.bits] at h; omega

theorem bless_irrefl : ∀ x : List UInt8, Op.bytesLess x x = false
  | [] => rfl
  | a :: x => by simp [Op.bytesLess, bless_irrefl x]
theorem bless_trans : ∀ x y z : List UInt8, Op.bytesLess x y = true → Op.bytesLess y z = true → Op.bytesLess x z = true
  | _, [], _, h, _ => by simp [Op.bytesLess] at h
  | _, _ :: _, [], _, h => by simp [Op.bytesLess] at h
  | [], _ :: _, _ :: _, _, _ => rfl
  | a :: x, b :: y, c :: z, h1, h2 => by
    simp only [Op.bytesLess, Bool.or_eq_true, decide_eq_true_eq, Bool.and_eq_true, beq_iff_eq] at h1 h2 ⊢
    rcases h1 with h1 | ⟨rfl, h1⟩
    · rcases h2 with h2 | ⟨rfl, h2⟩
      · exact Or.inl (UInt8.lt_trans h1 h2)
      · exact Or.inl h1
    · rcases h2 with h2 | ⟨rfl, h2⟩
      · exact Or.inl h2
      · exact Or.inr ⟨rfl, bless_trans x y z h1 h2⟩
theorem bless_total : ∀ x y : List UInt8, Op.bytesLess x y = true ∨ x = y ∨ Op.bytesLess y x = true
  | [], [] => Or.inr (Or.inl rfl)
  | [], _ :: _ => Or.inl rfl
  | _ :: _, [] => Or.inr (Or.inr rfl)
  | a :: x, b :: y => by
    simp only [Op.bytesLess, Bool.or_eq_true, decide_eq_true_eq, Bool.and_eq_true, beq_iff_eq, List.cons.injEq]
    rcases UInt8.lt_or_lt_of_ne (a := a) (b := b) |> fun h => (Classical.em (a = b)) with h | h
    · subst h
      rcases bless_total x y with h | h | h
      · exact Or.inl (Or.inr ⟨rfl, h⟩)
      · exact Or.inr (Or.inl ⟨rfl, h⟩)
      · exact Or.inr (Or.inr (Or.inr ⟨rfl, h⟩))
    · rcases UInt8.lt_or_lt_of_ne h with h | h
      · exact Or.inl (Or.inl h)
      · exact Or.inr (Or.inr (Or.inl h))

/-! ### Lists of entries -/
theorem S31_eta (v : S31) : (⟨(⟨v.f0.f0, v.f0.f1, v.f0.f2⟩ : S29), v.f1⟩ : S31) = v := rfl
theorem rd31_at (u w : List S31) (x : S31) (i : Int) (h : i = u.length) : rd_T31 (u ++ x :: w) i = x := by
  unfold rd_T31
  rw [h, Int.toNat_natCast, List.getD_eq_getElem?_getD, List.getElem?_append_right (Nat.le_refl _), Nat.sub_self]; rfl
theorem set31_at (u w : List S31) (x y : S31) (i : Int) (h : i = u.length) : (u ++ x :: w).set i.toNat y = u ++ y :: w := by
  rw [h, Int.toNat_natCast, List.set_append_right _ _ (Nat.le_refl _), Nat.sub_self]; rfl
theorem cut_mid (B : List S31) (n : Nat) (h : n < B.length) : ∃ C y D, B = C ++ y :: D ∧ C.length = n := ⟨B.take n, B[n], B.drop (n + 1), by rw [List.getElem_cons_drop, List.take_append_drop], by simp; omega⟩
theorem rd31_get (l : List S31) (i : Int) (h0 : 0 ≤ i) (h1 : i < (l.length : Int)) : ∃ u x w, l = u ++ x :: w ∧ i = u.length ∧ rd_T31 l i = x := by
  obtain ⟨u, x, w, e, hu⟩ := cut_mid l i.toNat (by omega)
  exact ⟨u, x, w, e, by omega, by rw [e]; exact rd31_at u w x i (by omega)⟩
theorem snoc_of (A : List S31) (h : A ≠ []) : ∃ B y, A = B ++ [y] := ⟨A.dropLast, A.getLast h, (List.dropLast_concat_getLast _).symm⟩
theorem cons_of (A : List S31) (h : A ≠ []) : ∃ y B, A = y :: B := by
  cases A with
  | nil => exact absurd rfl h
  | cons y B => exact ⟨y, B, rfl⟩

/-! ### Stable sorting: lists over an order by a comparing function, alike elements let in -/
structure Cmp3 {α : Type} (c : α → α → Int) : Prop where
  refl : ∀ x, c x x = 0
  anti : ∀ x y, c x y < 0 ↔ 0 < c y x
  trans : ∀ x y z, c x y ≤ 0 → c y z ≤ 0 → c x z ≤ 0
section
variable {α : Type} {c : α → α → Int}
theorem Cmp3.le_or (h : Cmp3 c) (x y : α) : c x y ≤ 0 ∨ c y x < 0 := by
  have := h.anti y x; omega
theorem Cmp3.swap0 (h : Cmp3 c) {x y : α} (e : c x y = 0) : c y x = 0 := by
  have := h.anti y x; have := h.anti x y; omega
theorem Cmp3.lt_le (h : Cmp3 c) {x y z : α} (a : c x y < 0) (b : c y z ≤ 0) : c x z < 0 := by
  rcases h.le_or z x with k | k
  · have := h.trans y z x b k
    have := h.anti x y; omega
  · exact k
theorem Cmp3.le_lt (h : Cmp3 c) {x y z : α} (a : c x y ≤ 0) (b : c y z < 0) : c x z < 0 := by
  rcases h.le_or z x with k | k
  · have := h.trans z x y k a
    have := h.anti y z; omega
  · exact k
theorem Cmp3.same_l (h : Cmp3 c) {p x y : α} (a : c p x = 0) (b : c p y = 0) : c x y = 0 := by
  have h1 := h.swap0 a; have h2 := h.swap0 b
  have := h.trans x p y (by omega) (by omega)
  have := h.trans y p x (by omega) (by omega)
  have := h.anti x y; have := h.anti y x; omega
/-- it rises, alike ones let in -/
def Up (c : α → α → Int) (l : List α) : Prop := l.Pairwise (fun x y => c x y ≤ 0)
/-- alike ones stand in the same order -/
def Same (c : α → α → Int) (x y : List α) : Prop := ∀ p, y.filter (fun z => c p z == 0) = x.filter (fun z => c p z == 0)
theorem Same.refl (x : List α) : Same c x x := fun _ => rfl
theorem Same.trans {x y z : List α} (h : Same c x y) (k : Same c y z) : Same c x z := fun p => (k p).trans (h p)
theorem Same.symm {x y : List α} (h : Same c x y) : Same c y x := fun p => (h p).symm
theorem Same.app {x y u v : List α} (h : Same c x y) (k : Same c u v) : Same c (x ++ u) (y ++ v) := fun p => by
  rw [List.filter_append, List.filter_append, h p, k p]
theorem Same.mem (hc : Cmp3 c) {x y : List α} (h : Same c x y) (z : α) : z ∈ y ↔ z ∈ x := by
  have e := h z
  have hz : (c z z == 0) = true := by rw [hc.refl]; rfl
  constructor
  · intro hm
    have : z ∈ y.filter (fun w => c z w == 0) := List.mem_filter.2 ⟨hm, hz⟩
    rw [e] at this; exact (List.mem_filter.1 this).1
  · intro hm
    have : z ∈ x.filter (fun w => c z w == 0) := List.mem_filter.2 ⟨hm, hz⟩
    rw [← e] at this; exact (List.mem_filter.1 this).1
/-- two parts that hold nothing alike may change places -/
theorem Same.comm {x y : List α} (h : ∀ a ∈ x, ∀ b ∈ y, ∀ p, c p a = 0 → c p b = 0 → False) : Same c (x ++ y) (y ++ x) := fun p => by
  rw [List.filter_append, List.filter_append]
  cases hx : x.filter (fun z => c p z == 0) with
  | nil => simp
  | cons a r =>
    cases hy : y.filter (fun z => c p z == 0) with
    | nil => simp
    | cons b s =>
      have ha : a ∈ x.filter (fun z => c p z == 0) := by rw [hx]; simp
      have hb : b ∈ y.filter (fun z => c p z == 0) := by rw [hy]; simp
      have ha := List.mem_filter.1 ha; have hb := List.mem_filter.1 hb
      exact absurd (h a ha.1 b hb.1 p (by simpa using ha.2) (by simpa using hb.2)) id
theorem Up.app {x y : List α} (h : Up c x) (k : Up c y) (m : ∀ a ∈ x, ∀ b ∈ y, c a b ≤ 0) : Up c (x ++ y) := List.pairwise_append.2 ⟨h, k, m⟩
theorem Up.left {x y : List α} (h : Up c (x ++ y)) : Up c x := (List.pairwise_append.1 h).1
theorem Up.right {x y : List α} (h : Up c (x ++ y)) : Up c y := (List.pairwise_append.1 h).2.1
theorem Up.cross {x y : List α} (h : Up c (x ++ y)) : ∀ a ∈ x, ∀ b ∈ y, c a b ≤ 0 := (List.pairwise_append.1 h).2.2
/-- the middle of two sorted rows: merged from both sides -/
theorem merge_two (hc : Cmp3 c) {A1 A2 B1 B2 M1 M2 : List α} (hA : Up c (A1 ++ A2)) (hB : Up c (B1 ++ B2)) (h1 : ∀ a ∈ A1, ∀ b ∈ B2, c a b ≤ 0) (h2 : ∀ b ∈ B1, ∀ a ∈ A2, c b a < 0)
    (u1 : Up c M1) (u2 : Up c M2) (s1 : Same c (A1 ++ B1) M1) (s2 : Same c (A2 ++ B2) M2) : Up c (M1 ++ M2) ∧ Same c ((A1 ++ A2) ++ (B1 ++ B2)) (M1 ++ M2) := by
  refine ⟨Up.app u1 u2 (fun a ha b hb => ?_), ?_⟩
  · have ha := (s1.mem hc a).1 ha; have hb := (s2.mem hc b).1 hb
    rcases List.mem_append.1 ha with ha | ha <;> rcases List.mem_append.1 hb with hb | hb
    · exact hA.cross a ha b hb
    · exact h1 a ha b hb
    · have := h2 a ha b hb; omega
    · exact hB.cross a ha b hb
  · refine Same.trans ?_ (Same.app s1 s2)
    have : Same c (A2 ++ B1) (B1 ++ A2) := Same.comm (fun a ha b hb p e1 e2 => by
      have := h2 b hb a ha; have := hc.same_l e2 e1; omega)
    have := Same.app (Same.app (Same.refl (c := c) A1) this) (Same.refl (c := c) B2)
    simpa [List.append_assoc] using this
theorem up_one (x : α) : Up c [x] := List.pairwise_singleton _ _
end

/-! ### The order of entries by their keys -/
def kcr (a : ByteArray) (b d : Int) (a' : ByteArray) (b' d' : Int) : Int := if a.toList = a'.toList then (if b = b' then (if d = d' then 0 else (if d > d' then (-1) else 1)) else (if b > b' then (-1) else 1)) else (if Op.bytesLess a.toList a'.toList = true then (-1) else 1)
def kc (x y : S31) : Int := kcr x.f0.f0 x.f0.f1 x.f0.f2 y.f0.f0 y.f0.f1 y.f0.f2
theorem ref_kc (a : ByteArray) (b d : Int) (a' : ByteArray) (b' d' : Int) : iceboxref1_Cmp.f a b d a' b' d' = some (kcr a b d a' b' d') := by
  unfold iceboxref1_Cmp.f kcr
  repeat' split
  all_goals rfl
theorem kcr_le (a : ByteArray) (b d : Int) (a' : ByteArray) (b' d' : Int) : kcr a b d a' b' d' ≤ 0 ↔ Op.bytesLess a.toList a'.toList = true ∨ (a.toList = a'.toList ∧ (b' < b ∨ (b = b' ∧ d' ≤ d))) := by
  unfold kcr
  by_cases h : a.toList = a'.toList
  · rw [if_pos h, h, bless_irrefl]
    by_cases h2 : b = b'
    · rw [if_pos h2]
      by_cases h3 : d = d'
      · rw [if_pos h3]; simp; omega
      · rw [if_neg h3]
        by_cases h4 : d > d'
        · rw [if_pos h4]; simp; omega
        · rw [if_neg h4]; simp; omega
    · rw [if_neg h2]
      by_cases h4 : b > b'
      · rw [if_pos h4]; simp; omega
      · rw [if_neg h4]; simp; omega
  · rw [if_neg h]
    by_cases h4 : Op.bytesLess a.toList a'.toList = true
    · rw [if_pos h4]; simp [h4]
    · rw [if_neg h4]; simp [h4, h]
theorem kcr_lt (a : ByteArray) (b d : Int) (a' : ByteArray) (b' d' : Int) : kcr a b d a' b' d' < 0 ↔ Op.bytesLess a.toList a'.toList = true ∨ (a.toList = a'.toList ∧ (b' < b ∨ (b = b' ∧ d' < d))) := by
  unfold kcr
  by_cases h : a.toList = a'.toList
  · rw [if_pos h, h, bless_irrefl]
    by_cases h2 : b = b'
    · rw [if_pos h2]
      by_cases h3 : d = d'
      · rw [if_pos h3]; simp; omega
      · rw [if_neg h3]
        by_cases h4 : d > d'
        · rw [if_pos h4]; simp; omega
        · rw [if_neg h4]; simp; omega
    · rw [if_neg h2]
      by_cases h4 : b > b'
      · rw [if_pos h4]; simp; omega
      · rw [if_neg h4]; simp; omega
  · rw [if_neg h]
    by_cases h4 : Op.bytesLess a.toList a'.toList = true
    · rw [if_pos h4]; simp [h4]
    · rw [if_neg h4]; simp [h4, h]
theorem bless_asymm {x y : List UInt8} (h : Op.bytesLess x y = true) : Op.bytesLess y x = false := by
  cases k : Op.bytesLess y x with
  | false => rfl
  | true => have := bless_trans x y x h k; rw [bless_irrefl] at this; cases this
theorem kc_cmp : Cmp3 kc where
  refl x := by unfold kc kcr; rw [if_pos rfl, if_pos rfl, if_pos rfl]
  anti x y := by
    have e : (0 < kc y x) ↔ ¬ (kc y x ≤ 0) := by omega
    rw [e]; unfold kc
    rw [kcr_le, kcr_lt]
    constructor
    · rintro (h | ⟨h, h2⟩) (k | ⟨k, k2⟩)
      · rw [bless_asymm h] at k; cases k
      · rw [k, bless_irrefl] at h; cases h
      · rw [h, bless_irrefl] at k; cases k
      · omega
    · intro h
      rcases bless_total x.f0.f0.toList y.f0.f0.toList with k | k | k
      · exact Or.inl k
      · refine Or.inr ⟨k, ?_⟩
        rcases Int.lt_trichotomy y.f0.f1 x.f0.f1 with g | g | g
        · exact Or.inl g
        · refine Or.inr ⟨g.symm, ?_⟩
          rcases Int.lt_or_le y.f0.f2 x.f0.f2 with g2 | g2
          · exact g2
          · exact absurd (Or.inr ⟨k.symm, Or.inr ⟨g, g2⟩⟩) h
        · exact absurd (Or.inr ⟨k.symm, Or.inl g⟩) h
      · exact absurd (Or.inl k) h
  trans x y z := by
    unfold kc
    rw [kcr_le, kcr_le, kcr_le]
    rintro (h | ⟨h, h2⟩) (k | ⟨k, k2⟩)
    · exact Or.inl (bless_trans _ _ _ h k)
    · rw [← k]; exact Or.inl h
    · rw [h]; exact Or.inl k
    · refine Or.inr ⟨h.trans k, ?_⟩; omega
theorem kc_zero (x y : S31) : kc x y = 0 ↔ x.f0.f0.toList = y.f0.f0.toList ∧ x.f0.f1 = y.f0.f1 ∧ x.f0.f2 = y.f0.f2 := by
  have e : kc x y = 0 ↔ kc x y ≤ 0 ∧ ¬ kc x y < 0 := by omega
  rw [e]; unfold kc
  rw [kcr_le, kcr_lt]
  constructor
  · rintro ⟨h | ⟨h, h2⟩, k⟩
    · exact absurd (Or.inl h) k
    · refine ⟨h, ?_⟩
      have : ¬ (y.f0.f1 < x.f0.f1 ∨ (x.f0.f1 = y.f0.f1 ∧ y.f0.f2 < x.f0.f2)) := fun g => k (Or.inr ⟨h, g⟩)
      omega
  · rintro ⟨h, h2, h3⟩
    refine ⟨Or.inr ⟨h, Or.inr ⟨h2, by omega⟩⟩, ?_⟩
    rintro (k | ⟨_, k⟩)
    · rw [h, bless_irrefl] at k; cases k
    · omega

/-! ### The program's own comparing -/
theorem cmpS_kc (a b : ByteArray) : cmp_Compare_string.f a b = some (if a.toList = b.toList then 0 else if Op.bytesLess a.toList b.toList = true then (-1) else 1) := by
  unfold cmp_Compare_string.f cmp_isNaN_string.f
  simp only [bne_self_eq_false, Option.bind_some]
  rw [if_neg Bool.false_ne_true, if_neg Bool.false_ne_true]
  rcases bless_total a.toList b.toList with h | h | h
  · rw [if_pos h, if_neg (fun e => by rw [e, bless_irrefl] at h; cases h), if_pos h]
  · rw [h, bless_irrefl, if_neg Bool.false_ne_true, if_neg Bool.false_ne_true, if_pos rfl]
  · have h2 : ¬ Op.bytesLess a.toList b.toList = true := by rw [bless_asymm h]; exact Bool.false_ne_true
    rw [if_neg h2, if_pos h, if_neg (fun e => by rw [e, bless_irrefl] at h; cases h), if_neg h2]
theorem cmpI_kc (a b : Int) : cmp_Compare_int.f a b = some (if a = b then 0 else if a < b then (-1) else 1) := by
  unfold cmp_Compare_int.f cmp_isNaN_int.f
  simp only [bne_self_eq_false, Option.bind_some]
  rw [if_neg Bool.false_ne_true, if_neg Bool.false_ne_true]
  by_cases h : a < b
  · rw [if_pos h, if_neg (by omega), if_pos h]
  · rw [if_neg h]
    by_cases h2 : a > b
    · rw [if_pos h2, if_neg (by omega), if_neg h]
    · rw [if_neg h2, if_pos (by omega)]
theorem or_kc (x y z : Int) : Ev (fun k => cmp_Or_int.f k [x, y, z]) (if x = 0 then (if y = 0 then z else y) else x) := by
  unfold cmp_Or_int.f
  by_cases hx : x = 0
  · rw [if_pos hx]
    by_cases hy : y = 0
    · rw [if_pos hy]
      refine Ev.of (fun k => ?_) (k := 4) ?_
      · exact (cmp_Or_int.mono_l k) _ _ _ _
      · subst hx; subst hy
        by_cases hz : z = 0
        · subst hz; simp [cmp_Or_int.l0, rd, wrap64]
        · simp [cmp_Or_int.l0, rd, wrap64, hz]
    · rw [if_neg hy]
      refine Ev.of (fun k => ?_) (k := 4) ?_
      · exact (cmp_Or_int.mono_l k) _ _ _ _
      · subst hx; simp [cmp_Or_int.l0, rd, wrap64, hy]
  · rw [if_neg hx]
    refine Ev.of (fun k => ?_) (k := 4) ?_
    · exact (cmp_Or_int.mono_l k) _ _ _ _
    · simp [cmp_Or_int.l0, rd, wrap64, hx]
theorem key_kc (a : ByteArray) (b d : Int) (a' : ByteArray) (b' d' : Int) : Ev (fun k => key_Cmp.f k a b d a' b' d') (kcr a b d a' b' d') := by
  unfold key_Cmp.f
  simp only [cmpS_kc, cmpI_kc, Option.bind_some]
  refine Ev.congr (f := fun k => cmp_Or_int.f k _) (fun k => by rw [Option.bind_fun_some]) ?_
  have h := or_kc (if a.toList = a'.toList then 0 else if Op.bytesLess a.toList a'.toList = true then (-1) else 1) (if b' = b then 0 else if b' < b then (-1) else 1) (if d' = d then 0 else if d' < d then (-1) else 1)
  have e : (if (if a.toList = a'.toList then (0 : Int) else if Op.bytesLess a.toList a'.toList = true then (-1) else 1) = 0 then (if (if b' = b then (0 : Int) else if b' < b then (-1) else 1) = 0 then (if d' = d then (0 : Int) else if d' < d then (-1) else 1) else (if b' = b then 0 else if b' < b then (-1) else 1)) else (if a.toList = a'.toList then 0 else if Op.bytesLess a.toList a'.toList = true then (-1) else 1)) = kcr a b d a' b' d' := by
    unfold kcr
    by_cases h1 : a.toList = a'.toList
    · rw [if_pos h1, if_pos rfl, if_pos h1]
      by_cases h2 : b = b'
      · rw [if_pos h2.symm, if_pos rfl, if_pos h2]
        by_cases h3 : d = d'
        · rw [if_pos h3.symm, if_pos h3]
        · rw [if_neg (fun e => h3 e.symm), if_neg h3]
      · have h2' : ¬ b' = b := fun e => h2 e.symm
        simp only [if_neg h2', if_neg h2]
        by_cases h3 : b' < b
        · simp [h3]
        · simp [h3]
    · rw [if_neg h1, if_neg h1]
      by_cases h3 : Op.bytesLess a.toList a'.toList = true
      · rw [if_pos h3, if_neg (by decide)]
      · rw [if_neg h3, if_neg (by decide)]
  rw [e] at h; exact h
theorem lit_kc (x y : S31) : Ev (fun k => seek_New_1.f k x.f0.f0 x.f0.f1 x.f0.f2 x.f1 y.f0.f0 y.f0.f1 y.f0.f2 y.f1) (kc x y) := by
  unfold seek_New_1.f
  exact Ev.congr (fun k => by rw [Option.bind_fun_some]) (key_kc _ _ _ _ _ _)

/-! ### The sort's own steps: exchange, rotate, insert -/
structure Two (l u v w : List S31) (x y : S31) (i j : Int) : Prop where
  i0 : 0 ≤ i
  i1 : i < (l.length : Int)
  j0 : 0 ≤ j
  j1 : j < (l.length : Int)
  ri : rd_T31 l i = x
  rj : rd_T31 l j = y
  ij : (l.set i.toNat y).set j.toNat x = u ++ y :: (v ++ x :: w)
  ji : (l.set j.toNat x).set i.toNat y = u ++ y :: (v ++ x :: w)
theorem two_mk {l u v w : List S31} {x y : S31} {i j : Int} (hl : l = u ++ x :: (v ++ y :: w)) (hi : i = u.length) (hj : j = u.length + 1 + v.length) : Two l u v w x y i j := by
  subst hl
  have e : u ++ x :: (v ++ y :: w) = (u ++ x :: v) ++ y :: w := by simp
  have hj' : j = ((u ++ x :: v).length : Int) := by simp; omega
  have e2 : (u ++ y :: (v ++ y :: w)) = (u ++ y :: v) ++ y :: w := by simp
  have hj2 : j = ((u ++ y :: v).length : Int) := by simp; omega
  refine ⟨by omega, by simp; omega, by omega, by simp; omega, rd31_at _ _ _ _ hi, ?_, ?_, ?_⟩
  · rw [e]; exact rd31_at _ _ _ _ hj'
  · rw [set31_at u _ x y i hi, e2, set31_at _ _ y x j hj2]; simp
  · rw [e, set31_at _ _ y x j hj']
    have : (u ++ x :: v) ++ x :: w = u ++ x :: (v ++ x :: w) := by simp
    rw [this, set31_at u _ x y i hi]
theorem swapr_ev (pre mid post X2 : List S31) : ∀ (Y2 X1 Y1 : List S31), X2.length = Y2.length → Y1.length = X1.length → (pre.length + Y1.length + X2.length + mid.length + X1.length + Y2.length : Int) ≤ 1000000000000 →
    ∀ a b n i : Int, a = pre.length → b = pre.length + Y1.length + X2.length + mid.length → n = Y1.length + X2.length → i = Y1.length →
    Ev (fun k => api_Entry_70.l0 k (pre ++ (Y1 ++ (X2 ++ (mid ++ (X1 ++ (Y2 ++ post)))))) a b n i) (pre ++ (Y1 ++ (Y2 ++ (mid ++ (X1 ++ (X2 ++ post)))))) := by
  induction X2 with
  | nil =>
    intro Y2 X1 Y1 h1 h2 hb a b n i ha hbb hn hi
    obtain rfl : Y2 = [] := List.eq_nil_of_length_eq_zero h1.symm
    refine Ev.step (f := fun _ => some _) (fun k => ?_) (Ev.now _)
    rw [api_Entry_70.l0, if_neg (by simp at hn; omega)]
  | cons x X2 ih =>
    intro Y2 X1 Y1 h1 h2 hb a b n i ha hbb hn hi
    cases Y2 with
    | nil => cases h1
    | cons y Y2 =>
    simp only [List.length_cons] at h1 hb hbb hn
    have T : Two (pre ++ (Y1 ++ (x :: X2 ++ (mid ++ (X1 ++ (y :: Y2 ++ post)))))) (pre ++ Y1) (X2 ++ mid ++ X1) (Y2 ++ post) x y (a + i) (b + i) := two_mk (by simp) (by simp; omega) (by simp; omega)
    have e1 : wrap64 (a + i) = a + i := w64 (by omega) (by omega)
    have e2 : wrap64 (b + i) = b + i := w64 (by omega) (by omega)
    have e3 : wrap64 (i + 1) = i + 1 := w64 (by omega) (by omega)
    have ih := ih Y2 (X1 ++ [x]) (Y1 ++ [y]) (by omega) (by simp; omega) (by simp; omega) a b n (i + 1) ha (by simp; omega) (by simp; omega) (by simp; omega)
    refine Ev.step (f := fun k => api_Entry_70.l0 k (pre ++ (Y1 ++ [y] ++ (X2 ++ (mid ++ (X1 ++ [x] ++ (Y2 ++ post)))))) a b n (i + 1)) (fun k => ?_) (by simpa using ih)
    have c1 : i < n := by omega
    rw [api_Entry_70.l0, e1, e2, e3, if_pos c1, if_pos T.j0, if_pos T.j1, if_pos T.i0, if_pos T.i1, T.ri, T.rj, S31_eta, S31_eta, T.ij]
    simp
theorem swap_ev (pre X mid Y post : List S31) (h : X.length = Y.length) (hb : (pre.length + X.length + mid.length + Y.length : Int) ≤ 1000000000000) (a b n : Int) (ha : a = pre.length) (hbb : b = pre.length + X.length + mid.length) (hn : n = X.length) :
    Ev (fun k => api_Entry_70.f k (pre ++ (X ++ (mid ++ (Y ++ post)))) a b n) (pre ++ (Y ++ (mid ++ (X ++ post)))) := by
  have h := swapr_ev pre mid post X Y [] [] h rfl (by simp; omega) a b n 0 ha (by simp; omega) (by simp; omega) (by simp)
  unfold api_Entry_70.f
  simpa using h
theorem rot_ev : ∀ (d : Nat) (pre U V post : List S31), U.length + V.length ≤ d → 0 < U.length → 0 < V.length → (pre.length + U.length + V.length : Int) ≤ 1000000000000 →
    ∀ m i j : Int, m = pre.length + U.length → i = U.length → j = V.length → Ev (fun k => api_Entry_69.l0 k (pre ++ (U ++ (V ++ post))) m i j) (pre ++ (V ++ (U ++ post)))
  | 0, pre, U, V, post, hd, h1, h2, hb, m, i, j, hm, hi, hj => by omega
  | d + 1, pre, U, V, post, hd, h1, h2, hb, m, i, j, hm, hi, hj => by
    have e1 : wrap64 (m - i) = m - i := w64 (by omega) (by omega)
    have e2 : wrap64 (i - j) = i - j := w64 (by omega) (by omega)
    have e3 : wrap64 (m + j) = m + j := w64 (by omega) (by omega)
    have e4 : wrap64 (m + j - i) = m + j - i := w64 (by omega) (by omega)
    have e5 : wrap64 (j - i) = j - i := w64 (by omega) (by omega)
    by_cases c : i = j
    · have s := swap_ev pre U [] V post (by omega) (by simp; omega) (m - i) m i (by omega) (by simp; omega) hi
      simp only [List.nil_append] at s
      refine Ev.step (f := fun k => (api_Entry_70.f k (pre ++ (U ++ (V ++ post))) (m - i) m i).bind fun t => some t) (fun k => ?_) (Ev.bind s (f := fun _ t => some t) (Ev.now _))
      rw [api_Entry_69.l0, if_pos c, e1]
    · by_cases c2 : i > j
      · obtain ⟨U1, U2, rfl, hu⟩ : ∃ U1 U2, U = U1 ++ U2 ∧ U1.length = V.length := ⟨U.take V.length, U.drop V.length, (List.take_append_drop _ _).symm, by simp; omega⟩
        simp only [List.length_append] at hd h1 hb hm hi
        have s := swap_ev pre U1 U2 V post (by omega) (by omega) (m - i) m j (by omega) (by omega) (by omega)
        have ih := rot_ev d (pre ++ V) U2 U1 post (by omega) (by omega) (by omega) (by simp; omega) m (i - j) j (by simp; omega) (by omega) (by omega)
        simp only [List.append_assoc] at s ih ⊢
        refine Ev.step (fun k => ?_) (Ev.bind s (f := fun k t => api_Entry_69.l0 k t m (i - j) j) ih)
        rw [api_Entry_69.l0, if_neg c, if_pos c2, e1, e2]
      · obtain ⟨V1, V2, rfl, hu⟩ : ∃ V1 V2, V = V1 ++ V2 ∧ V2.length = U.length := ⟨V.take (V.length - U.length), V.drop (V.length - U.length), (List.take_append_drop _ _).symm, by simp; omega⟩
        simp only [List.length_append] at hd h2 hb hj
        have s := swap_ev pre U V1 V2 post (by omega) (by omega) (m - i) (m + j - i) i (by omega) (by omega) (by omega)
        have ih := rot_ev d pre V2 V1 (U ++ post) (by omega) (by omega) (by omega) (by omega) m i (j - i) (by omega) (by omega) (by omega)
        simp only [List.append_assoc] at s ih ⊢
        refine Ev.step (fun k => ?_) (Ev.bind s (f := fun k t => api_Entry_69.l0 k t m i (j - i)) ih)
        rw [api_Entry_69.l0, if_neg c, if_neg c2, e1, e3, e4, e5]
theorem rotate_ev (pre U V post : List S31) (h1 : 0 < U.length) (h2 : 0 < V.length) (hb : (pre.length + U.length + V.length : Int) ≤ 1000000000000) (a m b : Int) (ha : a = pre.length) (hm : m = pre.length + U.length) (hbb : b = pre.length + U.length + V.length) :
    Ev (fun k => api_Entry_69.f k (pre ++ (U ++ (V ++ post))) a m b) (pre ++ (V ++ (U ++ post))) := by
  have h := rot_ev _ pre U V post (Nat.le_refl _) h1 h2 hb m (m - a) (b - m) hm (by omega) (by omega)
  refine Ev.congr (fun k => ?_) h
  unfold api_Entry_69.f
  rw [w64 (by omega) (by omega), w64 (by omega) (by omega)]
theorem ins_in (pre rest : List S31) (x : S31) : ∀ (n : Nat) (S1 S2 : List S31), S1.length = n → Up kc (S1 ++ S2) → (∀ s ∈ S2, kc x s < 0) → (pre.length + S1.length + S2.length : Int) ≤ 1000000000000 →
    ∃ T1 T2 : List S31, T1 ++ T2 = S1 ++ S2 ∧ (∀ t ∈ T1, kc t x ≤ 0) ∧ (∀ t ∈ T2, kc x t < 0) ∧
      ∀ (a b i j : Int) (r : List S31), a = pre.length → i = pre.length + S1.length + S2.length → j = pre.length + S1.length → Ev (fun k => api_Entry_64.l0 k (pre ++ (T1 ++ x :: (T2 ++ rest))) a b (i + 1)) r → Ev (fun k => api_Entry_64.l1 k (pre ++ (S1 ++ x :: (S2 ++ rest))) a b i j) r
  | 0, S1, S2, h0, hu, hs, hb => by
    obtain rfl : S1 = [] := List.eq_nil_of_length_eq_zero h0
    refine ⟨[], S2, rfl, by simp, hs, fun a b i j r ha hi hj h => ?_⟩
    simp only [List.length_nil] at hi hj hb
    refine Ev.step (fun k => ?_) h
    rw [api_Entry_64.l1, if_neg (by omega), w64 (by omega) (by omega)]
  | n + 1, S1, S2, h0, hu, hs, hb => by
    obtain ⟨T, t, rfl⟩ : ∃ T t, S1 = T ++ [t] := ⟨S1.dropLast, S1.getLast (fun h => by rw [h] at h0; cases h0), (List.dropLast_concat_getLast _).symm⟩
    simp only [List.length_append, List.length_cons, List.length_nil] at h0 hb
    have hcmp := lit_kc x t
    have two : ∀ i j : Int, j = pre.length + (T.length + 1) → Two (pre ++ (T ++ [t] ++ x :: (S2 ++ rest))) (pre ++ T) [] (S2 ++ rest) t x (j - 1) j := fun i j hj => two_mk (by simp) (by simp; omega) (by simp; omega)
    by_cases c : kc x t < 0
    · obtain ⟨T1, T2, e, p1, p2, hh⟩ := ins_in pre rest x n T (t :: S2) (by omega) (by simpa using hu) (fun s hm => by rcases List.mem_cons.1 hm with rfl | hm; exact c; exact hs s hm) (by simp; omega)
      refine ⟨T1, T2, by rw [e]; simp, p1, p2, fun a b i j r ha hi hj h => ?_⟩
      simp only [List.length_append, List.length_cons, List.length_nil] at hi hj
      have D := two i j (by omega)
      have h := hh a b i (j - 1) r ha (by simp; omega) (by omega) h
      refine Ev.step (fun k => ?_) (Ev.bind hcmp (f := fun k t128 => if t128 < 0 then api_Entry_64.l1 k (pre ++ (T ++ x :: (t :: S2 ++ rest))) a b i (j - 1) else api_Entry_64.l0 k (pre ++ (T ++ [t] ++ x :: (S2 ++ rest))) a b (i + 1)) (by simp only [if_pos c]; exact h))
      rw [api_Entry_64.l1, if_pos (by omega), if_pos D.j0, if_pos D.j1, w64 (x := j - 1) (by omega) (by omega), if_pos D.i0, if_pos D.i1, D.ri, D.rj, w64 (x := i + 1) (by omega) (by omega), S31_eta, S31_eta, D.ji]
      simp
    · refine ⟨T ++ [t], S2, rfl, fun s hm => ?_, hs, fun a b i j r ha hi hj h => ?_⟩
      · have htx : kc t x ≤ 0 := by rcases kc_cmp.le_or t x with k | k; exact k; exact absurd k c
        rcases List.mem_append.1 hm with hm | hm
        · exact kc_cmp.trans s t x (hu.left.cross s hm t (by simp)) htx
        · obtain rfl : s = t := by simpa using hm
          exact htx
      · simp only [List.length_append, List.length_cons, List.length_nil] at hi hj
        have D := two i j (by omega)
        refine Ev.step (fun k => ?_) (Ev.bind hcmp (f := fun k t128 => if t128 < 0 then api_Entry_64.l1 k (pre ++ (T ++ x :: (t :: S2 ++ rest))) a b i (j - 1) else api_Entry_64.l0 k (pre ++ (T ++ [t] ++ x :: (S2 ++ rest))) a b (i + 1)) (by simp only [if_neg c]; exact h))
        rw [api_Entry_64.l1, if_pos (by omega), if_pos D.j0, if_pos D.j1, w64 (x := j - 1) (by omega) (by omega), if_pos D.i0, if_pos D.i1, D.ri, D.rj, w64 (x := i + 1) (by omega) (by omega), S31_eta, S31_eta, D.ji]
        simp
theorem ins_out (pre post R : List S31) : ∀ (M : List S31), 0 < M.length → Up kc M → (pre.length + M.length + R.length : Int) ≤ 1000000000000 →
    ∃ N : List S31, N.length = M.length + R.length ∧ Up kc N ∧ Same kc (M ++ R) N ∧ ∀ a b i : Int, a = pre.length → b = pre.length + M.length + R.length → i = pre.length + M.length → Ev (fun k => api_Entry_64.l0 k (pre ++ (M ++ (R ++ post))) a b i) (pre ++ (N ++ post)) := by
  induction R with
  | nil =>
    intro M h0 hu hb
    refine ⟨M, rfl, hu, by rw [List.append_nil]; exact Same.refl _, fun a b i ha hbb hi => ?_⟩
    simp only [List.length_nil] at hbb
    refine Ev.step (f := fun _ => some _) (fun k => ?_) (Ev.now _)
    rw [api_Entry_64.l0, if_neg (by omega)]; rfl
  | cons x R ih =>
    intro M h0 hu hb
    simp only [List.length_cons] at hb
    obtain ⟨T1, T2, e, p1, p2, h⟩ := ins_in pre (R ++ post) x M.length M [] rfl (by simpa using hu) (by simp) (by simp; omega)
    rw [List.append_nil] at e
    subst e
    have hn : Up kc (T1 ++ x :: T2) := by
      refine Up.app hu.left (Up.app (x := [x]) (up_one x) hu.right (fun a ha b hb => ?_)) (fun a ha b hb => ?_)
      · obtain rfl : a = x := by simpa using ha
        have := p2 b hb; omega
      · rcases List.mem_cons.1 hb with rfl | hb
        · exact p1 a ha
        · exact hu.cross a ha b hb
    obtain ⟨N, l1, l2, l3, l4⟩ := ih (T1 ++ x :: T2) (by simp; omega) hn (by simp at hb ⊢; omega)
    refine ⟨N, by simp at l1 ⊢; omega, l2, ?_, fun a b i ha hbb hi => ?_⟩
    · refine Same.trans ?_ l3
      have s1 : Same kc (T2 ++ [x]) ([x] ++ T2) := Same.comm (fun a ha b hb p e1 e2 => by
        obtain rfl : b = x := by simpa using hb
        have := p2 a ha; have := kc_cmp.same_l e2 e1; omega)
      have := Same.app (Same.app (Same.refl (c := kc) T1) s1) (Same.refl (c := kc) R)
      simpa [List.append_assoc] using this
    · have g := l4 a b (i + 1) ha (by simp at hbb ⊢; omega) (by simp at hi ⊢; omega)
      have g2 := h a b i i _ ha (by simp at hi ⊢; omega) (by simp at hi ⊢; omega) (by simpa using g)
      refine Ev.step (fun k => ?_) g2
      rw [api_Entry_64.l0, if_pos (by simp at hbb hi; omega)]
      simp
theorem insert_ev (pre S post : List S31) (hb : (pre.length + S.length : Int) ≤ 1000000000000) : ∃ N : List S31, N.length = S.length ∧ Up kc N ∧ Same kc S N ∧ ∀ a b : Int, a = pre.length → b = pre.length + S.length → Ev (fun k => api_Entry_64.f k (pre ++ (S ++ post)) a b) (pre ++ (N ++ post)) := by
  cases S with
  | nil => exact ⟨[], rfl, List.Pairwise.nil, Same.refl _, fun a b ha hbb => by
      simp only [List.length_nil] at hbb
      refine Ev.congr (f := fun k => api_Entry_64.l0 k (pre ++ ([] ++ post)) a b (a + 1)) (fun k => by unfold api_Entry_64.f; rw [w64 (by omega) (by omega)]) ?_
      refine Ev.step (f := fun _ => some _) (fun k => ?_) (Ev.now _)
      rw [api_Entry_64.l0, if_neg (by omega)]⟩
  | cons x R =>
    obtain ⟨N, l1, l2, l3, l4⟩ := ins_out pre post R [x] (by simp) (up_one x) (by simp at hb ⊢; omega)
    refine ⟨N, by simp at l1 ⊢; omega, l2, l3, fun a b ha hbb => ?_⟩
    refine Ev.congr (fun k => ?_) (l4 a b (a + 1) ha (by simp at hbb ⊢; omega) (by simp; omega))
    unfold api_Entry_64.f
    rw [w64 (by simp at hb; omega) (by simp at hb; omega)]; rfl

/-! ### Two sorted rows side by side become one: by binary search and rotation -/
theorem half {x y : Int} (hx : 0 ≤ x) (hy : 0 ≤ y) (h : x + y ≤ 4000000000000) : wrap64 ((IntKind.u64.wrap (wrap64 (x + y))) / 2) = (x + y) / 2 := by
  rw [w64 (x := x + y) (by omega) (by omega), wr_u64, Int.emod_eq_of_lt (by omega) (by omega), w64 (by omega) (by omega)]
theorem sh_r (rest : List S31) (x : S31) (P : List S31) : ∀ (u : List S31), (u.length + P.length : Int) ≤ 1000000000000 → ∀ i k0 : Int, i = u.length + P.length + 1 → k0 = u.length → Ev (fun k => api_Entry_65.l1 k (u ++ x :: (P ++ rest)) i k0) (u ++ (P ++ x :: rest)) := by
  induction P with
  | nil =>
    intro u hb i k0 hi hk
    simp only [List.length_nil] at hi hb
    refine Ev.step (f := fun _ => some _) (fun k => ?_) (Ev.now _)
    rw [api_Entry_65.l1, w64 (by omega) (by omega), if_neg (by omega)]; rfl
  | cons y P ih =>
    intro u hb i k0 hi hk
    simp only [List.length_cons] at hi hb
    have T : Two (u ++ x :: (y :: P ++ rest)) u [] (P ++ rest) x y k0 (k0 + 1) := two_mk (by simp) hk (by simp; omega)
    have h := ih (u ++ [y]) (by simp; omega) i (k0 + 1) (by simp; omega) (by simp; omega)
    refine Ev.step (f := fun k => api_Entry_65.l1 k (u ++ [y] ++ x :: (P ++ rest)) i (k0 + 1)) (fun k => ?_) (by simpa using h)
    have e1 : wrap64 (k0 + 1) = k0 + 1 := w64 (by omega) (by omega)
    rw [api_Entry_65.l1, w64 (x := i - 1) (by omega) (by omega), e1, if_pos (by omega), if_pos T.j0, if_pos T.j1, if_pos T.i0, if_pos T.i1, T.ri, T.rj, S31_eta, S31_eta, T.ij]
    simp
theorem sh_l (u : List S31) (x : S31) : ∀ (n : Nat) (P rest : List S31), P.length = n → (u.length + P.length : Int) ≤ 1000000000000 → ∀ i k0 : Int, i = u.length → k0 = u.length + P.length → Ev (fun k => api_Entry_65.l3 k (u ++ (P ++ x :: rest)) i k0) (u ++ x :: (P ++ rest))
  | 0, P, rest, h0, hb, i, k0, hi, hk => by
    obtain rfl : P = [] := List.eq_nil_of_length_eq_zero h0
    simp only [List.length_nil] at hk
    refine Ev.step (f := fun _ => some _) (fun k => ?_) (Ev.now _)
    rw [api_Entry_65.l3, if_neg (by omega)]; rfl
  | n + 1, P, rest, h0, hb, i, k0, hi, hk => by
    obtain ⟨Q, y, rfl⟩ : ∃ Q y, P = Q ++ [y] := ⟨P.dropLast, P.getLast (fun h => by rw [h] at h0; cases h0), (List.dropLast_concat_getLast _).symm⟩
    simp only [List.length_append, List.length_cons, List.length_nil] at h0 hb hk
    have T : Two (u ++ (Q ++ [y] ++ x :: rest)) (u ++ Q) [] rest y x (k0 - 1) k0 := two_mk (by simp) (by simp; omega) (by simp; omega)
    have h := sh_l u x n Q (y :: rest) (by omega) (by omega) i (k0 - 1) hi (by omega)
    refine Ev.step (f := fun k => api_Entry_65.l3 k (u ++ (Q ++ x :: (y :: rest))) i (k0 - 1)) (fun k => ?_) (by simpa using h)
    have e1 : wrap64 (k0 - 1) = k0 - 1 := w64 (by omega) (by omega)
    rw [api_Entry_65.l3, e1, if_pos (by omega), if_pos T.i0, if_pos T.i1, if_pos T.j0, if_pos T.j1, T.ri, T.rj, S31_eta, S31_eta, T.ji]
    simp
/-- one ahead of a sorted row: where it goes in -/
theorem one_a (pre post : List S31) (x : S31) (d : Nat) : ∀ (B1 B2 B3 : List S31), B2.length ≤ d → Up kc (B1 ++ (B2 ++ B3)) → (∀ s ∈ B1, kc s x < 0) → (∀ s ∈ B3, kc x s ≤ 0) → (pre.length + B1.length + B2.length + B3.length + 1 : Int) ≤ 1000000000000 →
    ∃ C1 C2, C1 ++ C2 = B1 ++ (B2 ++ B3) ∧ (∀ s ∈ C1, kc s x < 0) ∧ (∀ s ∈ C2, kc x s ≤ 0) ∧
      ∀ a i j : Int, a = pre.length → i = pre.length + 1 + B1.length → j = pre.length + 1 + B1.length + B2.length → Ev (fun k => api_Entry_65.l0 k (pre ++ x :: (B1 ++ (B2 ++ B3) ++ post)) a i j) (pre ++ (C1 ++ x :: (C2 ++ post))) := by
  have base : ∀ (B1 B3 : List S31), (∀ s ∈ B1, kc s x < 0) → (∀ s ∈ B3, kc x s ≤ 0) → (pre.length + B1.length + B3.length + 1 : Int) ≤ 1000000000000 → ∀ (B2 : List S31), B2 = [] → ∃ C1 C2, C1 ++ C2 = B1 ++ (B2 ++ B3) ∧ (∀ s ∈ C1, kc s x < 0) ∧ (∀ s ∈ C2, kc x s ≤ 0) ∧ ∀ a i j : Int, a = pre.length → i = pre.length + 1 + B1.length → j = pre.length + 1 + B1.length + B2.length → Ev (fun k => api_Entry_65.l0 k (pre ++ x :: (B1 ++ (B2 ++ B3) ++ post)) a i j) (pre ++ (C1 ++ x :: (C2 ++ post))) := by
    intro B1 B3 p1 p3 hb B2 h2
    subst h2
    refine ⟨B1, B3, by simp, p1, p3, fun a i j ha hi hj => ?_⟩
    simp only [List.length_nil] at hj
    have h := sh_r (B3 ++ post) x B1 pre (by omega) i a (by omega) ha
    refine Ev.step (f := fun k => api_Entry_65.l1 k (pre ++ x :: (B1 ++ (B3 ++ post))) i a) (fun k => ?_) h
    rw [api_Entry_65.l0, if_neg (by omega)]; simp
  induction d with
  | zero =>
    intro B1 B2 B3 hd hu p1 p3 hb
    obtain rfl : B2 = [] := List.eq_nil_of_length_eq_zero (by omega)
    exact base B1 B3 p1 p3 (by simp at hb; omega) [] rfl
  | succ d ih =>
    intro B1 B2 B3 hd hu p1 p3 hb
    by_cases hz : B2 = []
    · exact base B1 B3 p1 p3 (by rw [hz] at hb; simp at hb; omega) B2 hz
    have hpos : 0 < B2.length := List.length_pos_iff.2 hz
    clear hz base
    obtain ⟨C, y, D, rfl, hC⟩ := cut_mid B2 (B2.length / 2) (by omega)
    have hlen : (C ++ y :: D).length = C.length + 1 + D.length := by simp; omega
    rw [hlen] at hd hb hC hpos
    have hcmp := lit_kc y x
    have rx : ∀ a : Int, a = pre.length → rd_T31 (pre ++ x :: (B1 ++ (C ++ y :: D ++ B3) ++ post)) a = x := fun a ha => rd31_at _ _ _ _ ha
    have ry : ∀ h : Int, h = pre.length + 1 + B1.length + C.length → rd_T31 (pre ++ x :: (B1 ++ (C ++ y :: D ++ B3) ++ post)) h = y := fun h hh => by
      have e : pre ++ x :: (B1 ++ (C ++ y :: D ++ B3) ++ post) = (pre ++ x :: (B1 ++ C)) ++ y :: (D ++ (B3 ++ post)) := by simp
      rw [e]; exact rd31_at _ _ _ _ (by simp; omega)
    have hL : ((pre ++ x :: (B1 ++ (C ++ y :: D ++ B3) ++ post)).length : Int) = pre.length + 1 + B1.length + C.length + 1 + D.length + B3.length + post.length := by simp; omega
    by_cases c : kc y x < 0
    · have q1 : ∀ s ∈ B1 ++ (C ++ [y]), kc s x < 0 := fun s hs => by
        rcases List.mem_append.1 hs with hs | hs
        · exact p1 s hs
        · rcases List.mem_append.1 hs with hs | hs
          · refine kc_cmp.le_lt (hu.right.left.cross s hs y (by simp)) c
          · obtain rfl : s = y := by simpa using hs
            exact c
      obtain ⟨C1, C2, e, r1, r2, h⟩ := ih (B1 ++ (C ++ [y])) D B3 (by omega) (by simpa using hu) q1 p3 (by simp; omega)
      refine ⟨C1, C2, by rw [e]; simp, r1, r2, fun a i j ha hi hj => ?_⟩
      rw [hlen] at hj
      have eh : wrap64 ((IntKind.u64.wrap (wrap64 (i + j))) / 2) = (i + j) / 2 := half (by omega) (by omega) (by omega)
      have eh2 : (i + j) / 2 = pre.length + 1 + B1.length + C.length := by omega
      have g := h a ((i + j) / 2 + 1) j ha (by simp; omega) (by simp; omega)
      refine Ev.step (fun k => ?_) (Ev.bind hcmp (f := fun k t => if t < 0 then api_Entry_65.l0 k (pre ++ x :: (B1 ++ (C ++ y :: D ++ B3) ++ post)) a ((i + j) / 2 + 1) j else api_Entry_65.l0 k (pre ++ x :: (B1 ++ (C ++ y :: D ++ B3) ++ post)) a i ((i + j) / 2)) (by simp only [if_pos c]; simpa using g))
      rw [api_Entry_65.l0, if_pos (by omega), eh, if_pos (by omega), if_pos (by omega), if_pos (by omega), if_pos (by omega), rx a ha, ry _ eh2, w64 (x := (i + j) / 2 + 1) (by omega) (by omega)]
    · have hxy : kc x y ≤ 0 := by rcases kc_cmp.le_or x y with k | k; exact k; exact absurd k c
      have q3 : ∀ s ∈ y :: (D ++ B3), kc x s ≤ 0 := fun s hs => by
        rcases List.mem_cons.1 hs with rfl | hs
        · exact hxy
        · rcases List.mem_append.1 hs with hs | hs
          · have : Up kc ([y] ++ D) := (hu.right.left).right
            exact kc_cmp.trans x y s hxy (this.cross y (by simp) s hs)
          · exact p3 s hs
      obtain ⟨C1, C2, e, r1, r2, h⟩ := ih B1 C (y :: (D ++ B3)) (by omega) (by simpa using hu) p1 q3 (by simp; omega)
      refine ⟨C1, C2, by rw [e]; simp, r1, r2, fun a i j ha hi hj => ?_⟩
      rw [hlen] at hj
      have eh : wrap64 ((IntKind.u64.wrap (wrap64 (i + j))) / 2) = (i + j) / 2 := half (by omega) (by omega) (by omega)
      have eh2 : (i + j) / 2 = pre.length + 1 + B1.length + C.length := by omega
      have g := h a i ((i + j) / 2) ha hi (by omega)
      refine Ev.step (fun k => ?_) (Ev.bind hcmp (f := fun k t => if t < 0 then api_Entry_65.l0 k (pre ++ x :: (B1 ++ (C ++ y :: D ++ B3) ++ post)) a ((i + j) / 2 + 1) j else api_Entry_65.l0 k (pre ++ x :: (B1 ++ (C ++ y :: D ++ B3) ++ post)) a i ((i + j) / 2)) (by simp only [if_neg c]; simpa using g))
      rw [api_Entry_65.l0, if_pos (by omega), eh, if_pos (by omega), if_pos (by omega), if_pos (by omega), if_pos (by omega), rx a ha, ry _ eh2, w64 (x := (i + j) / 2 + 1) (by omega) (by omega)]
/-- one behind a sorted row -/
theorem one_b (pre post : List S31) (x : S31) (d : Nat) : ∀ (B1 B2 B3 : List S31), B2.length ≤ d → Up kc (B1 ++ (B2 ++ B3)) → (∀ s ∈ B1, kc s x ≤ 0) → (∀ s ∈ B3, kc x s < 0) → (pre.length + B1.length + B2.length + B3.length + 1 : Int) ≤ 1000000000000 →
    ∃ C1 C2, C1 ++ C2 = B1 ++ (B2 ++ B3) ∧ (∀ s ∈ C1, kc s x ≤ 0) ∧ (∀ s ∈ C2, kc x s < 0) ∧
      ∀ m i j : Int, m = pre.length + B1.length + B2.length + B3.length → i = pre.length + B1.length → j = pre.length + B1.length + B2.length → Ev (fun k => api_Entry_65.l2 k (pre ++ (B1 ++ (B2 ++ B3) ++ x :: post)) m i j) (pre ++ (C1 ++ x :: (C2 ++ post))) := by
  have base : ∀ (B1 B3 : List S31), (∀ s ∈ B1, kc s x ≤ 0) → (∀ s ∈ B3, kc x s < 0) → (pre.length + B1.length + B3.length + 1 : Int) ≤ 1000000000000 → ∀ (B2 : List S31), B2 = [] → ∃ C1 C2, C1 ++ C2 = B1 ++ (B2 ++ B3) ∧ (∀ s ∈ C1, kc s x ≤ 0) ∧ (∀ s ∈ C2, kc x s < 0) ∧ ∀ m i j : Int, m = pre.length + B1.length + B2.length + B3.length → i = pre.length + B1.length → j = pre.length + B1.length + B2.length → Ev (fun k => api_Entry_65.l2 k (pre ++ (B1 ++ (B2 ++ B3) ++ x :: post)) m i j) (pre ++ (C1 ++ x :: (C2 ++ post))) := by
    intro B1 B3 p1 p3 hb B2 h2
    subst h2
    refine ⟨B1, B3, by simp, p1, p3, fun m i j hm hi hj => ?_⟩
    simp only [List.length_nil] at hj hm
    have h := sh_l (pre ++ B1) x B3.length B3 post rfl (by simp; omega) i m (by simp; omega) (by simp; omega)
    refine Ev.step (f := fun k => api_Entry_65.l3 k (pre ++ B1 ++ (B3 ++ x :: post)) i m) (fun k => ?_) (by simpa using h)
    rw [api_Entry_65.l2, if_neg (by omega)]; simp
  induction d with
  | zero =>
    intro B1 B2 B3 hd hu p1 p3 hb
    obtain rfl : B2 = [] := List.eq_nil_of_length_eq_zero (by omega)
    exact base B1 B3 p1 p3 (by simp at hb; omega) [] rfl
  | succ d ih =>
    intro B1 B2 B3 hd hu p1 p3 hb
    by_cases hz : B2 = []
    · exact base B1 B3 p1 p3 (by rw [hz] at hb; simp at hb; omega) B2 hz
    have hpos : 0 < B2.length := List.length_pos_iff.2 hz
    clear hz base
    obtain ⟨C, y, D, rfl, hC⟩ := cut_mid B2 (B2.length / 2) (by omega)
    have hlen : (C ++ y :: D).length = C.length + 1 + D.length := by simp; omega
    rw [hlen] at hd hb hC hpos
    have hcmp := lit_kc x y
    have rx : ∀ m : Int, m = pre.length + B1.length + (C.length + 1 + D.length) + B3.length → rd_T31 (pre ++ (B1 ++ (C ++ y :: D ++ B3) ++ x :: post)) m = x := fun m hm => by
      have e : pre ++ (B1 ++ (C ++ y :: D ++ B3) ++ x :: post) = (pre ++ (B1 ++ (C ++ y :: D ++ B3))) ++ x :: post := by simp
      rw [e]; exact rd31_at _ _ _ _ (by simp; omega)
    have ry : ∀ h : Int, h = pre.length + B1.length + C.length → rd_T31 (pre ++ (B1 ++ (C ++ y :: D ++ B3) ++ x :: post)) h = y := fun h hh => by
      have e : pre ++ (B1 ++ (C ++ y :: D ++ B3) ++ x :: post) = (pre ++ (B1 ++ C)) ++ y :: (D ++ (B3 ++ x :: post)) := by simp
      rw [e]; exact rd31_at _ _ _ _ (by simp; omega)
    have hL : ((pre ++ (B1 ++ (C ++ y :: D ++ B3) ++ x :: post)).length : Int) = pre.length + 1 + B1.length + C.length + 1 + D.length + B3.length + post.length := by simp; omega
    by_cases c : kc x y < 0
    · have q3 : ∀ s ∈ y :: (D ++ B3), kc x s < 0 := fun s hs => by
        rcases List.mem_cons.1 hs with rfl | hs
        · exact c
        · rcases List.mem_append.1 hs with hs | hs
          · have : Up kc ([y] ++ D) := (hu.right.left).right
            exact kc_cmp.lt_le c (this.cross y (by simp) s hs)
          · exact p3 s hs
      obtain ⟨C1, C2, e, r1, r2, h⟩ := ih B1 C (y :: (D ++ B3)) (by omega) (by simpa using hu) p1 q3 (by simp; omega)
      refine ⟨C1, C2, by rw [e]; simp, r1, r2, fun m i j hm hi hj => ?_⟩
      rw [hlen] at hj hm
      have eh : wrap64 ((IntKind.u64.wrap (wrap64 (i + j))) / 2) = (i + j) / 2 := half (by omega) (by omega) (by omega)
      have eh2 : (i + j) / 2 = pre.length + B1.length + C.length := by omega
      have g := h m i ((i + j) / 2) (by simp; omega) hi (by omega)
      refine Ev.step (fun k => ?_) (Ev.bind hcmp (f := fun k t => if t < 0 then api_Entry_65.l2 k (pre ++ (B1 ++ (C ++ y :: D ++ B3) ++ x :: post)) m i ((i + j) / 2) else api_Entry_65.l2 k (pre ++ (B1 ++ (C ++ y :: D ++ B3) ++ x :: post)) m ((i + j) / 2 + 1) j) (by simp only [if_pos c]; simpa using g))
      rw [api_Entry_65.l2, if_pos (by omega), eh, if_pos (by omega), if_pos (by omega), if_pos (by omega), if_pos (by omega), rx m (by omega), ry _ eh2, w64 (x := (i + j) / 2 + 1) (by omega) (by omega)]
    · have hyx : kc y x ≤ 0 := by rcases kc_cmp.le_or y x with k | k; exact k; exact absurd k c
      have q1 : ∀ s ∈ B1 ++ (C ++ [y]), kc s x ≤ 0 := fun s hs => by
        rcases List.mem_append.1 hs with hs | hs
        · exact p1 s hs
        · rcases List.mem_append.1 hs with hs | hs
          · exact kc_cmp.trans s y x (hu.right.left.cross s hs y (by simp)) hyx
          · obtain rfl : s = y := by simpa using hs
            exact hyx
      obtain ⟨C1, C2, e, r1, r2, h⟩ := ih (B1 ++ (C ++ [y])) D B3 (by omega) (by simpa using hu) q1 p3 (by simp; omega)
      refine ⟨C1, C2, by rw [e]; simp, r1, r2, fun m i j hm hi hj => ?_⟩
      rw [hlen] at hj hm
      have eh : wrap64 ((IntKind.u64.wrap (wrap64 (i + j))) / 2) = (i + j) / 2 := half (by omega) (by omega) (by omega)
      have eh2 : (i + j) / 2 = pre.length + B1.length + C.length := by omega
      have g := h m ((i + j) / 2 + 1) j (by simp; omega) (by simp; omega) (by simp; omega)
      refine Ev.step (fun k => ?_) (Ev.bind hcmp (f := fun k t => if t < 0 then api_Entry_65.l2 k (pre ++ (B1 ++ (C ++ y :: D ++ B3) ++ x :: post)) m i ((i + j) / 2) else api_Entry_65.l2 k (pre ++ (B1 ++ (C ++ y :: D ++ B3) ++ x :: post)) m ((i + j) / 2 + 1) j) (by simp only [if_neg c]; simpa using g))
      rw [api_Entry_65.l2, if_pos (by omega), eh, if_pos (by omega), if_pos (by omega), if_pos (by omega), if_pos (by omega), rx m (by omega), ry _ eh2, w64 (x := (i + j) / 2 + 1) (by omega) (by omega)]

/-- the search for the place of the cut: what stands at its two sides -/
theorem srch (l : List S31) (a m b mid n p s0 r0 : Int) (hl : (l.length : Int) ≤ 1000000000000) (hb : ∀ c, s0 ≤ c → c < r0 → 0 ≤ c ∧ c < l.length ∧ 0 ≤ p - c ∧ p - c < l.length) (h0 : 0 ≤ s0) (hr0 : r0 ≤ l.length) (hn : 0 ≤ n ∧ n ≤ 2000000000000) (hp : p = n - 1) (d : Nat) :
    ∀ s r : Int, s0 ≤ s → s ≤ r → r ≤ r0 → r - s ≤ d → (s = s0 ∨ kc (rd_T31 l (p - (s - 1))) (rd_T31 l (s - 1)) ≥ 0) → (r = r0 ∨ kc (rd_T31 l (p - r)) (rd_T31 l r) < 0) →
      ∃ q, s0 ≤ q ∧ q ≤ r0 ∧ (q = s0 ∨ kc (rd_T31 l (p - (q - 1))) (rd_T31 l (q - 1)) ≥ 0) ∧ (q = r0 ∨ kc (rd_T31 l (p - q)) (rd_T31 l q) < 0) ∧
        ∀ res, Ev (fun k => if q < m then api_Entry_65.j6 k l a m b mid q (n - q) (decide (m < n - q)) else api_Entry_65.j6 k l a m b mid q (n - q) false) res → Ev (fun k => api_Entry_65.l4 k l a m b mid n s r p) res := by
  induction d with
  | zero =>
    intro s r h1 h2 h3 h4 h5 h6
    obtain rfl : s = r := by omega
    refine ⟨s, h1, h3, h5, h6, fun res h => Ev.step (fun k => ?_) h⟩
    rw [api_Entry_65.l4, if_neg (by omega), w64 (x := n - s) (by omega) (by omega)]
  | succ d ih =>
    intro s r h1 h2 h3 h4 h5 h6
    by_cases hsr : s < r
    · have eh : wrap64 ((IntKind.u64.wrap (wrap64 (s + r))) / 2) = (s + r) / 2 := half (by omega) (by omega) (by omega)
      have hc1 : s ≤ (s + r) / 2 := by omega
      have hc2 : (s + r) / 2 < r := by omega
      generalize (s + r) / 2 = c at eh hc1 hc2
      obtain ⟨b1, b2, b3, b4⟩ := hb c (by omega) (by omega)
      have e1 : wrap64 (p - c) = p - c := w64 (by omega) (by omega)
      have e2 : wrap64 (c + 1) = c + 1 := w64 (by omega) (by omega)
      have hcmp := lit_kc (rd_T31 l (p - c)) (rd_T31 l c)
      by_cases t : kc (rd_T31 l (p - c)) (rd_T31 l c) < 0
      · obtain ⟨q, g1, g2, g3, g4, g5⟩ := ih s c h1 hc1 (by omega) (by omega) h5 (Or.inr t)
        refine ⟨q, g1, g2, g3, g4, fun res h => ?_⟩
        refine Ev.step (fun k => ?_) (Ev.bind hcmp (f := fun k t => if t < 0 then api_Entry_65.l4 k l a m b mid n s c p else api_Entry_65.l4 k l a m b mid n (c + 1) r p) (by simp only [if_pos t]; exact g5 res h))
        rw [api_Entry_65.l4, if_pos hsr, eh, e1, e2, if_pos b3, if_pos b4, if_pos b1, if_pos b2]
      · obtain ⟨q, g1, g2, g3, g4, g5⟩ := ih (c + 1) r (by omega) (by omega) h3 (by omega) (Or.inr (by rw [show c + 1 - 1 = c by omega]; omega)) h6
        refine ⟨q, g1, g2, g3, g4, fun res h => ?_⟩
        refine Ev.step (fun k => ?_) (Ev.bind hcmp (f := fun k t => if t < 0 then api_Entry_65.l4 k l a m b mid n s c p else api_Entry_65.l4 k l a m b mid n (c + 1) r p) (by simp only [if_neg t]; exact g5 res h))
        rw [api_Entry_65.l4, if_pos hsr, eh, e1, e2, if_pos b3, if_pos b4, if_pos b1, if_pos b2]
    · obtain rfl : s = r := by omega
      refine ⟨s, h1, h3, h5, h6, fun res h => Ev.step (fun k => ?_) h⟩
      rw [api_Entry_65.l4, if_neg (by omega), w64 (x := n - s) (by omega) (by omega)]
theorem up_last (A : List S31) (y : S31) (h : Up kc (A ++ [y])) : ∀ x ∈ A ++ [y], kc x y ≤ 0 := fun x hx => by
  rcases List.mem_append.1 hx with hx | hx
  · exact h.cross x hx y (by simp)
  · obtain rfl : x = y := by simpa using hx
    have := kc_cmp.refl x; omega
theorem up_head (A : List S31) (y : S31) (h : Up kc (y :: A)) : ∀ x ∈ y :: A, kc y x ≤ 0 := fun x hx => by
  rcases List.mem_cons.1 hx with rfl | hx
  · have := kc_cmp.refl x; omega
  · exact (show Up kc ([y] ++ A) from h).cross y (by simp) x hx
theorem sym_ev (d : Nat) : ∀ (pre A B post : List S31), A.length + B.length ≤ d → 0 < A.length → 0 < B.length → Up kc A → Up kc B → (pre.length + A.length + B.length + post.length : Int) ≤ 1000000000000 →
    ∃ M : List S31, M.length = A.length + B.length ∧ Up kc M ∧ Same kc (A ++ B) M ∧ ∀ a m b : Int, a = pre.length → m = pre.length + A.length → b = pre.length + A.length + B.length → Ev (fun k => api_Entry_65.f k (pre ++ (A ++ (B ++ post))) a m b) (pre ++ (M ++ post)) := by
  induction d with
  | zero => intro pre A B post h h1 h2; omega
  | succ d ih =>
    intro pre A B post hd hA hB uA uB hb
    by_cases cA : A.length = 1
    · obtain ⟨x, rfl⟩ := List.length_eq_one_iff.1 cA
      obtain ⟨C1, C2, e, r1, r2, h⟩ := one_a pre post x B.length [] B [] (Nat.le_refl _) (by simpa using uB) (by simp) (by simp) (by simp at hb ⊢; omega)
      simp only [List.nil_append, List.append_nil] at e
      subst e
      refine ⟨C1 ++ x :: C2, by simp; omega, ?_, ?_, fun a m b ha hm hbb => ?_⟩
      · refine Up.app uB.left (Up.app (x := [x]) (up_one x) uB.right (fun a ha z hz => ?_)) (fun a ha z hz => ?_)
        · obtain rfl : a = x := by simpa using ha
          exact r2 z hz
        · rcases List.mem_cons.1 hz with rfl | hz
          · have := r1 a ha; omega
          · exact uB.cross a ha z hz
      · have s1 : Same kc ([x] ++ C1) (C1 ++ [x]) := Same.comm (fun a ha z hz p e1 e2 => by
          obtain rfl : a = x := by simpa using ha
          have := r1 z hz; have := kc_cmp.same_l e2 e1; omega)
        have := Same.app s1 (Same.refl (c := kc) C2)
        simpa [List.append_assoc] using this
      · simp only [List.length_append, List.length_cons, List.length_nil] at hm hbb hb
        have g := h a m b ha (by simp; omega) (by simp; omega)
        refine Ev.step (fun k => ?_) (by simpa using g)
        rw [api_Entry_65.f, if_pos (by rw [w64 (by omega) (by omega)]; omega)]
        simp
    · by_cases cB : B.length = 1
      · obtain ⟨x, rfl⟩ := List.length_eq_one_iff.1 cB
        obtain ⟨C1, C2, e, r1, r2, h⟩ := one_b pre post x A.length [] A [] (Nat.le_refl _) (by simpa using uA) (by simp) (by simp) (by simp at hb ⊢; omega)
        simp only [List.nil_append, List.append_nil] at e
        subst e
        refine ⟨C1 ++ x :: C2, by simp; omega, ?_, ?_, fun a m b ha hm hbb => ?_⟩
        · refine Up.app uA.left (Up.app (x := [x]) (up_one x) uA.right (fun a ha z hz => ?_)) (fun a ha z hz => ?_)
          · obtain rfl : a = x := by simpa using ha
            have := r2 z hz; omega
          · rcases List.mem_cons.1 hz with rfl | hz
            · exact r1 a ha
            · exact uA.cross a ha z hz
        · have s1 : Same kc (C2 ++ [x]) ([x] ++ C2) := Same.comm (fun a ha z hz p e1 e2 => by
            obtain rfl : z = x := by simpa using hz
            have := r2 a ha; have := kc_cmp.same_l e2 e1; omega)
          have := Same.app (Same.refl (c := kc) C1) s1
          simpa [List.append_assoc] using this
        · simp only [List.length_append, List.length_cons, List.length_nil] at hm hbb hb cA
          have g := h m a m (by simp; omega) (by simp; omega) (by simp; omega)
          refine Ev.step (fun k => ?_) (by simpa using g)
          rw [api_Entry_65.f, if_neg (by rw [w64 (by omega) (by omega)]; omega), if_pos (by rw [w64 (by omega) (by omega)]; omega)]
          simp
      · -- the cut
        have key : ∀ (a m b : Int), a = pre.length → m = pre.length + A.length → b = pre.length + A.length + B.length →
            ∃ A1 A2 B1 B2 : List S31, A = A1 ++ A2 ∧ B = B1 ++ B2 ∧ A1.length + B1.length + pre.length = (a + b) / 2 ∧ (∀ x ∈ A1, ∀ y ∈ B2, kc x y ≤ 0) ∧ (∀ y ∈ B1, ∀ x ∈ A2, kc y x < 0) ∧
              ∀ res, Ev (fun k => api_Entry_65.j6 k (pre ++ (A ++ (B ++ post))) a m b ((a + b) / 2) (a + A1.length) (m + B1.length) (decide (a + A1.length < m ∧ m < m + B1.length))) res → Ev (fun k => api_Entry_65.f k (pre ++ (A ++ (B ++ post))) a m b) res := by
          intro a m b ha hm hbb
          generalize hL : pre ++ (A ++ (B ++ post)) = L
          have hLl : (L.length : Int) = pre.length + A.length + B.length + post.length := by rw [← hL]; simp; omega
          have eh : wrap64 ((IntKind.u64.wrap (wrap64 (a + b))) / 2) = (a + b) / 2 := half (by omega) (by omega) (by omega)
          have hmid1 : a < (a + b) / 2 := by omega
          have hmid2 : (a + b) / 2 < b := by omega
          have hmid3 : 2 * ((a + b) / 2) ≤ a + b ∧ a + b ≤ 2 * ((a + b) / 2) + 1 := by omega
          generalize (a + b) / 2 = mid at eh hmid1 hmid2 hmid3
          have en : wrap64 (mid + m) = mid + m := w64 (by omega) (by omega)
          have ep : wrap64 (mid + m - 1) = mid + m - 1 := w64 (by omega) (by omega)
          have es : wrap64 (mid + m - b) = mid + m - b := w64 (by omega) (by omega)
          -- where the search goes
          obtain ⟨s0, r0, hs0, hs1, hs2, hs3, hf⟩ : ∃ s0 r0 : Int, s0 ≤ r0 ∧ a ≤ s0 ∧ (s0 = a ∧ m ≤ mid ∨ mid + m - s0 = b) ∧ (r0 ≤ m ∧ r0 ≤ mid ∧ (r0 = m ∨ mid + m - r0 = m) ∧ ∀ c, s0 ≤ c → c < r0 → mid + m - 1 - c < b ∧ m ≤ mid + m - 1 - c) ∧
              ∀ res, Ev (fun k => api_Entry_65.l4 k L a m b mid (mid + m) s0 r0 (mid + m - 1)) res → Ev (fun k => api_Entry_65.f k L a m b) res := by
            by_cases c : m > mid
            · refine ⟨mid + m - b, mid, by omega, by omega, Or.inr (by omega), ⟨by omega, by omega, Or.inr (by omega), fun c _ _ => by omega⟩, fun res h => ?_⟩
              refine Ev.step (f := fun k => api_Entry_65.j4 k L a m b mid (mid + m) (mid + m - b) mid) (fun k => ?_) (Ev.step (fun k => by rw [api_Entry_65.j4, ep]) h)
              rw [api_Entry_65.f, if_neg (by rw [w64 (by omega) (by omega)]; omega), if_neg (by rw [w64 (by omega) (by omega)]; omega), eh, if_pos c, en, es]
            · refine ⟨a, m, by omega, by omega, Or.inl ⟨rfl, by omega⟩, ⟨by omega, by omega, Or.inl rfl, fun c _ _ => by omega⟩, fun res h => ?_⟩
              refine Ev.step (f := fun k => api_Entry_65.j4 k L a m b mid (mid + m) a m) (fun k => ?_) (Ev.step (fun k => by rw [api_Entry_65.j4, ep]) h)
              rw [api_Entry_65.f, if_neg (by rw [w64 (by omega) (by omega)]; omega), if_neg (by rw [w64 (by omega) (by omega)]; omega), eh, if_neg c, en]
          obtain ⟨hr1, hr2, hr3, hr4⟩ := hs3
          obtain ⟨q, q1, q2, q3, q4, q5⟩ := srch L a m b mid (mid + m) (mid + m - 1) s0 r0 (by omega) (fun c h1 h2 => by have := hr4 c h1 h2; omega) (by omega) (by omega) (by omega) rfl (r0 - s0).toNat s0 r0 (by omega) hs0 (by omega) (by omega) (Or.inl rfl) (Or.inl rfl)
          have hq1 : a ≤ q := by omega
          have hq2 : q ≤ m := by omega
          have hq3 : m ≤ mid + m - q := by omega
          have hq4 : mid + m - q ≤ b := by rcases hs2 with h | h <;> omega
          obtain ⟨A1, A2, rfl, hA1⟩ : ∃ A1 A2, A = A1 ++ A2 ∧ A1.length = (q - a).toNat := ⟨A.take (q - a).toNat, A.drop (q - a).toNat, (List.take_append_drop _ _).symm, by simp; omega⟩
          obtain ⟨B1, B2, rfl, hB1⟩ : ∃ B1 B2, B = B1 ++ B2 ∧ B1.length = (mid - q).toNat := ⟨B.take (mid - q).toNat, B.drop (mid - q).toNat, (List.take_append_drop _ _).symm, by simp; omega⟩
          simp only [List.length_append] at hm hbb
          refine ⟨A1, A2, B1, B2, rfl, rfl, by omega, ?_, ?_, fun res h => hf res (q5 res ?_)⟩
          · by_cases z1 : A1 = []
            · rw [z1]; simp
            by_cases z2 : B2 = []
            · rw [z2]; simp
            have z1' := List.length_pos_iff.2 z1
            have z2' := List.length_pos_iff.2 z2
            rcases q3 with q3 | q3
            · rcases hs2 with h | h <;> omega
            obtain ⟨A0, la, rfl⟩ := snoc_of A1 z1
            obtain ⟨y0, B3, rfl⟩ := cons_of B2 z2
            simp only [List.length_append, List.length_cons, List.length_nil] at hA1 hm hbb
            have e1 : rd_T31 L (q - 1) = la := by
              rw [← hL, show pre ++ (A0 ++ [la] ++ A2 ++ (B1 ++ y0 :: B3 ++ post)) = (pre ++ A0) ++ la :: (A2 ++ (B1 ++ y0 :: B3 ++ post)) by simp]
              exact rd31_at _ _ _ _ (by simp; omega)
            have e2 : rd_T31 L (mid + m - 1 - (q - 1)) = y0 := by
              rw [← hL, show pre ++ (A0 ++ [la] ++ A2 ++ (B1 ++ y0 :: B3 ++ post)) = (pre ++ (A0 ++ [la] ++ A2 ++ B1)) ++ y0 :: (B3 ++ post) by simp]
              exact rd31_at _ _ _ _ (by simp; omega)
            rw [e1, e2] at q3
            have hle : kc la y0 ≤ 0 := by rcases kc_cmp.le_or la y0 with k | k; exact k; omega
            intro x hx y hy
            exact kc_cmp.trans _ _ _ (kc_cmp.trans _ _ _ (up_last A0 la uA.left x hx) hle) (up_head B3 y0 uB.right y hy)
          · by_cases z1 : B1 = []
            · rw [z1]; simp
            by_cases z2 : A2 = []
            · rw [z2]; simp
            have z1' := List.length_pos_iff.2 z1
            have z2' := List.length_pos_iff.2 z2
            rcases q4 with q4 | q4
            · rcases hr3 with h | h <;> omega
            obtain ⟨B0, lb, rfl⟩ := snoc_of B1 z1
            obtain ⟨x0, A3, rfl⟩ := cons_of A2 z2
            simp only [List.length_append, List.length_cons, List.length_nil] at hB1 hm hbb
            have e1 : rd_T31 L q = x0 := by
              rw [← hL, show pre ++ (A1 ++ x0 :: A3 ++ (B0 ++ [lb] ++ B2 ++ post)) = (pre ++ A1) ++ x0 :: (A3 ++ (B0 ++ [lb] ++ B2 ++ post)) by simp]
              exact rd31_at _ _ _ _ (by simp; omega)
            have e2 : rd_T31 L (mid + m - 1 - q) = lb := by
              rw [← hL, show pre ++ (A1 ++ x0 :: A3 ++ (B0 ++ [lb] ++ B2 ++ post)) = (pre ++ (A1 ++ x0 :: A3 ++ B0)) ++ lb :: (B2 ++ post) by simp]
              exact rd31_at _ _ _ _ (by simp; omega)
            rw [e1, e2] at q4
            intro y hy x hx
            exact kc_cmp.lt_le (kc_cmp.le_lt (up_last B0 lb uB.left y hy) q4) (up_head A3 x0 uA.right x hx)
          · have e1 : a + (A1.length : Int) = q := by omega
            have e2 : m + (B1.length : Int) = mid + m - q := by omega
            rw [e1, e2] at h
            by_cases c : q < m
            · simp only [if_pos c]
              refine Ev.congr (fun k => ?_) h
              simp only [c, true_and]
            · simp only [if_neg c]
              refine Ev.congr (fun k => ?_) h
              simp only [c, false_and, decide_false]
        -- what follows behind the cut
        obtain ⟨A1, A2, B1, B2, rfl, rfl, hmid, p1, p2, hf⟩ := key pre.length (pre.length + A.length) (pre.length + A.length + B.length) rfl rfl rfl
        simp only [List.length_append] at hd hA hB hb hmid hf cA cB
        have sub : ∀ (pr X Y po : List S31), X.length + Y.length ≤ d → Up kc X → Up kc Y → (pr.length + X.length + Y.length + po.length : Int) ≤ 1000000000000 →
            ∃ M : List S31, M.length = X.length + Y.length ∧ Up kc M ∧ Same kc (X ++ Y) M ∧ (0 < X.length → 0 < Y.length → ∀ a m b : Int, a = pr.length → m = pr.length + X.length → b = pr.length + X.length + Y.length → Ev (fun k => api_Entry_65.f k (pr ++ (X ++ (Y ++ po))) a m b) (pr ++ (M ++ po))) ∧ (¬ (0 < X.length ∧ 0 < Y.length) → M = X ++ Y) := by
          intro pr X Y po h1 h2 h3 h4
          by_cases c : 0 < X.length ∧ 0 < Y.length
          · obtain ⟨M, g1, g2, g3, g4⟩ := ih pr X Y po h1 c.1 c.2 h2 h3 h4
            exact ⟨M, g1, g2, g3, fun _ _ => g4, fun h => absurd c h⟩
          · refine ⟨X ++ Y, by simp, ?_, Same.refl _, fun k1 k2 => absurd ⟨k1, k2⟩ c, fun _ => rfl⟩
            by_cases z : X = []
            · rw [z]; simpa using h3
            · have : Y = [] := by
                have := List.length_pos_iff.2 z
                exact List.eq_nil_of_length_eq_zero (by omega)
              rw [this]; simpa using h2
        obtain ⟨M1, l1, u1, s1, f1, n1⟩ := sub pre A1 B1 (A2 ++ (B2 ++ post)) (by omega) uA.left uB.left (by simp; omega)
        obtain ⟨M2, l2, u2, s2, f2, n2⟩ := sub (pre ++ M1) A2 B2 post (by omega) uA.right uB.right (by simp; omega)
        obtain ⟨uM, sM⟩ := merge_two kc_cmp uA uB p1 p2 u1 u2 s1 s2
        refine ⟨M1 ++ M2, by simp; omega, uM, by simpa [List.append_assoc] using sM, fun a m b ha hm hbb => ?_⟩
        simp only [List.length_append] at hm hbb
        subst ha
        obtain rfl : m = pre.length + ((A1.length : Nat) + A2.length : Nat) := by omega
        obtain rfl : b = pre.length + ((A1.length : Nat) + A2.length : Nat) + ((B1.length : Nat) + B2.length : Nat) := by omega
        refine hf _ ?_
        rw [← hmid]
        -- rotation
        have hj8 : Ev (fun k => api_Entry_65.j7 k (pre ++ (A1 ++ (B1 ++ (A2 ++ (B2 ++ post))))) pre.length (pre.length + ((A1.length : Nat) + A2.length : Nat) + ((B1.length : Nat) + B2.length : Nat)) (A1.length + B1.length + pre.length) (pre.length + A1.length) (pre.length + ((A1.length : Nat) + A2.length : Nat) + B1.length)) (pre ++ (M1 ++ (M2 ++ post))) := by
          have rest : ∀ (L0 : List S31), L0 = pre ++ (M1 ++ (A2 ++ (B2 ++ post))) → Ev (fun k => if ((A1.length : Int) + B1.length + pre.length) < (pre.length + ((A1.length : Nat) + A2.length : Nat) + B1.length : Int) then (if (pre.length + ((A1.length : Nat) + A2.length : Nat) + B1.length : Int) < pre.length + ((A1.length : Nat) + A2.length : Nat) + ((B1.length : Nat) + B2.length : Nat) then ((api_Entry_65.f k L0 (A1.length + B1.length + pre.length) (pre.length + ((A1.length : Nat) + A2.length : Nat) + B1.length) (pre.length + ((A1.length : Nat) + A2.length : Nat) + ((B1.length : Nat) + B2.length : Nat))).bind fun t => some t) else some L0) else some L0) (pre ++ (M1 ++ (M2 ++ post))) := by
            intro L0 hL0
            by_cases c : 0 < A2.length ∧ 0 < B2.length
            · have g := f2 c.1 c.2 (A1.length + B1.length + pre.length) (pre.length + ((A1.length : Nat) + A2.length : Nat) + B1.length) (pre.length + ((A1.length : Nat) + A2.length : Nat) + ((B1.length : Nat) + B2.length : Nat)) (by simp; omega) (by simp; omega) (by simp; omega)
              refine Ev.congr (f := fun k => (api_Entry_65.f k L0 (A1.length + B1.length + pre.length) (pre.length + ((A1.length : Nat) + A2.length : Nat) + B1.length) (pre.length + ((A1.length : Nat) + A2.length : Nat) + ((B1.length : Nat) + B2.length : Nat))).bind fun t => some t) (fun k => by rw [if_pos (by omega), if_pos (by omega)]) ?_
              refine Ev.bind (a := pre ++ (M1 ++ (M2 ++ post))) ?_ (f := fun _ t => some t) (Ev.now _)
              rw [hL0]; simpa using g
            · have := n2 c
              by_cases c1 : 0 < A2.length
              · refine Ev.congr (f := fun _ => some (pre ++ (M1 ++ (M2 ++ post)))) (fun k => ?_) (Ev.now _)
                rw [if_pos (by omega), if_neg (by omega), hL0, this]; simp only [List.append_assoc]
              · refine Ev.congr (f := fun _ => some (pre ++ (M1 ++ (M2 ++ post)))) (fun k => ?_) (Ev.now _)
                rw [if_neg (by omega), hL0, this]; simp only [List.append_assoc]
          by_cases c : 0 < A1.length ∧ 0 < B1.length
          · have g := f1 c.1 c.2 pre.length (pre.length + A1.length) (A1.length + B1.length + pre.length) rfl rfl (by omega)
            refine Ev.step (f := fun k => api_Entry_65.j8 k (pre ++ (A1 ++ (B1 ++ (A2 ++ (B2 ++ post))))) pre.length (pre.length + ((A1.length : Nat) + A2.length : Nat) + ((B1.length : Nat) + B2.length : Nat)) (A1.length + B1.length + pre.length) (pre.length + A1.length) (pre.length + ((A1.length : Nat) + A2.length : Nat) + B1.length) true) (fun k => ?_) ?_
            · rw [api_Entry_65.j7, if_pos (by omega), decide_eq_true (by omega)]
            · refine Ev.step (fun k => ?_) (Ev.bind g (f := fun k t158 => if ((A1.length : Int) + B1.length + pre.length) < (pre.length + ((A1.length : Nat) + A2.length : Nat) + B1.length : Int) then (if (pre.length + ((A1.length : Nat) + A2.length : Nat) + B1.length : Int) < pre.length + ((A1.length : Nat) + A2.length : Nat) + ((B1.length : Nat) + B2.length : Nat) then ((api_Entry_65.f k t158 (A1.length + B1.length + pre.length) (pre.length + ((A1.length : Nat) + A2.length : Nat) + B1.length) (pre.length + ((A1.length : Nat) + A2.length : Nat) + ((B1.length : Nat) + B2.length : Nat))).bind fun t => some t) else some t158) else some t158) (rest _ rfl))
              rw [api_Entry_65.j8, if_pos rfl]
          · have e := n1 c
            have hL : pre ++ (A1 ++ (B1 ++ (A2 ++ (B2 ++ post)))) = pre ++ (M1 ++ (A2 ++ (B2 ++ post))) := by rw [e]; simp
            refine Ev.step (f := fun k => api_Entry_65.j8 k (pre ++ (A1 ++ (B1 ++ (A2 ++ (B2 ++ post))))) pre.length (pre.length + ((A1.length : Nat) + A2.length : Nat) + ((B1.length : Nat) + B2.length : Nat)) (A1.length + B1.length + pre.length) (pre.length + A1.length) (pre.length + ((A1.length : Nat) + A2.length : Nat) + B1.length) false) (fun k => ?_) ?_
            · by_cases c1 : 0 < A1.length
              · rw [api_Entry_65.j7, if_pos (by omega), decide_eq_false (by omega)]
              · rw [api_Entry_65.j7, if_neg (by omega)]
            · refine Ev.step (fun k => ?_) (rest _ hL)
              rw [api_Entry_65.j8, if_neg Bool.false_ne_true]
        by_cases c : 0 < A2.length ∧ 0 < B1.length
        · have g := rotate_ev (pre ++ A1) A2 B1 (B2 ++ post) c.1 c.2 (by simp; omega) (pre.length + A1.length) (pre.length + ((A1.length : Nat) + A2.length : Nat)) (pre.length + ((A1.length : Nat) + A2.length : Nat) + B1.length) (by simp) (by simp; omega) (by simp; omega)
          simp only [List.append_assoc] at g ⊢
          refine Ev.step (fun k => ?_) (Ev.bind g (f := fun k t => api_Entry_65.j7 k t pre.length (pre.length + ((A1.length : Nat) + A2.length : Nat) + ((B1.length : Nat) + B2.length : Nat)) (A1.length + B1.length + pre.length) (pre.length + A1.length) (pre.length + ((A1.length : Nat) + A2.length : Nat) + B1.length)) hj8)
          rw [api_Entry_65.j6, if_pos (by rw [decide_eq_true_iff]; omega)]
        · have e : A2 ++ B1 = B1 ++ A2 := by
            by_cases z : A2 = []
            · rw [z]; simp
            · have := List.length_pos_iff.2 z
              have : B1 = [] := List.eq_nil_of_length_eq_zero (by omega)
              rw [this]; simp
          have hL : pre ++ (A1 ++ A2 ++ (B1 ++ B2 ++ post)) = pre ++ (A1 ++ (B1 ++ (A2 ++ (B2 ++ post)))) := by
            have : A1 ++ A2 ++ (B1 ++ B2 ++ post) = A1 ++ ((A2 ++ B1) ++ (B2 ++ post)) := by simp
            rw [this, e]; simp
          rw [hL]
          simp only [List.append_assoc]
          refine Ev.step (fun k => ?_) hj8
          rw [api_Entry_65.j6, if_neg (by rw [decide_eq_true_iff]; omega)]

/-! ### The whole sort: blocks that are inserted, then merged by twos -/
inductive Chk (n : Nat) : List S31 → Prop
  | last (X : List S31) : X.length ≤ n → Up kc X → Chk n X
  | more (X R : List S31) : X.length = n → Up kc X → Chk n R → Chk n (X ++ R)
theorem Chk.up {n : Nat} {L : List S31} (h : Chk n L) (hl : L.length ≤ n) : Up kc L := by
  cases h with
  | last X h1 h2 => exact h2
  | more X R h1 h2 h3 =>
    rw [List.length_append] at hl
    obtain rfl : R = [] := List.eq_nil_of_length_eq_zero (by omega)
    simpa using h2
theorem blocks_ev (d : Nat) : ∀ (R D : List S31), R.length ≤ d → (D.length + R.length : Int) ≤ 100000000000 → ∃ R', R'.length = R.length ∧ Chk 20 R' ∧ Same kc R R' ∧
    ∀ (n a b : Int) (res : List S31), n = D.length + R.length → a = D.length → b = D.length + 20 → Ev (fun k => api_Entry_58.l1 k (D ++ R') n 20) res → Ev (fun k => api_Entry_58.l0 k (D ++ R) n 20 a b) res := by
  induction d with
  | zero =>
    intro R D hd hb
    obtain rfl : R = [] := List.eq_nil_of_length_eq_zero (by omega)
    obtain ⟨N, l1, l2, l3, l4⟩ := insert_ev D [] [] (by simp at hb ⊢; omega)
    obtain rfl : N = [] := List.eq_nil_of_length_eq_zero l1
    refine ⟨[], rfl, Chk.last _ (by simp) l2, l3, fun n a b res hn ha hbb h => ?_⟩
    simp only [List.length_nil] at hn hb
    have g := l4 a n ha (by simp; omega)
    simp only [List.append_nil] at g h ⊢
    refine Ev.step (fun k => ?_) (Ev.bind g (f := fun k t => api_Entry_58.l1 k t n 20) h)
    rw [api_Entry_58.l0, if_neg (by omega)]
  | succ d ih =>
    intro R D hd hb
    by_cases c : 20 ≤ R.length
    · obtain ⟨S, T, rfl, hS⟩ : ∃ S T, R = S ++ T ∧ S.length = 20 := ⟨R.take 20, R.drop 20, (List.take_append_drop _ _).symm, by simp; omega⟩
      simp only [List.length_append] at hd hb
      obtain ⟨N, l1, l2, l3, l4⟩ := insert_ev D S T (by omega)
      obtain ⟨R', k1, k2, k3, k4⟩ := ih T (D ++ N) (by omega) (by simp; omega)
      refine ⟨N ++ R', by simp; omega, Chk.more N R' (by omega) l2 k2, Same.app l3 k3, fun n a b res hn ha hbb h => ?_⟩
      simp only [List.length_append] at hn
      have g := k4 n (a + 20) (b + 20) res (by simp; omega) (by simp; omega) (by simp; omega) (by simpa using h)
      refine Ev.step (fun k => ?_) (Ev.bind (l4 a b ha (by omega)) (f := fun k t => api_Entry_58.l0 k t n 20 b (b + 20)) (by rw [show b = a + 20 by omega]; rw [show b = a + 20 by omega] at g; simpa using g))
      rw [api_Entry_58.l0, if_pos (by omega), w64 (x := b + 20) (by omega) (by omega)]
    · obtain ⟨N, l1, l2, l3, l4⟩ := insert_ev D R [] (by omega)
      refine ⟨N, l1, Chk.last N (by omega) l2, l3, fun n a b res hn ha hbb h => ?_⟩
      have g := l4 a n ha hn
      simp only [List.append_nil] at g
      refine Ev.step (fun k => ?_) (Ev.bind g (f := fun k t => api_Entry_58.l1 k t n 20) h)
      rw [api_Entry_58.l0, if_neg (by omega)]
theorem pass_ev (s : Nat) (hs : 0 < s) (hs2 : s ≤ 100000000000) (d : Nat) : ∀ (R D : List S31), R.length ≤ d → Chk s R → (D.length + R.length : Int) ≤ 100000000000 → ∃ R', R'.length = R.length ∧ Chk (2 * s) R' ∧ Same kc R R' ∧
    ∀ (n a b z : Int) (res : List S31), z = s → n = D.length + R.length → a = D.length → b = D.length + 2 * s → Ev (fun k => api_Entry_58.l1 k (D ++ R') n (2 * z)) res → Ev (fun k => api_Entry_58.l2 k (D ++ R) n z a b) res := by
  induction d with
  | zero =>
    intro R D hd hc hb
    obtain rfl : R = [] := List.eq_nil_of_length_eq_zero (by omega)
    refine ⟨[], rfl, Chk.last _ (by simp) List.Pairwise.nil, Same.refl _, fun n a b z res hz hn ha hbb h => ?_⟩
    simp only [List.length_nil] at hn hb
    refine Ev.step (fun k => ?_) h
    rw [api_Entry_58.l2, if_neg (by omega), w64 (x := a + z) (by omega) (by omega), if_neg (by omega), w64 (by omega) (by omega), show z * 2 = 2 * z by omega]
  | succ d ih =>
    intro R D hd hc hb
    cases hc with
    | last X h1 h2 =>
      refine ⟨R, rfl, Chk.last _ (by omega) h2, Same.refl _, fun n a b z res hz hn ha hbb h => ?_⟩
      refine Ev.step (fun k => ?_) h
      rw [api_Entry_58.l2, if_neg (by omega), w64 (x := a + z) (by omega) (by omega), if_neg (by omega), w64 (by omega) (by omega), show z * 2 = 2 * z by omega]
    | more X R1 h1 h2 h3 =>
      simp only [List.length_append] at hd hb
      -- what stands behind the first block: a whole block, or the last one
      have two : ∃ Y R2, R1 = Y ++ R2 ∧ Up kc Y ∧ (Y.length = s ∧ Chk s R2 ∨ Y.length < s ∧ R2 = []) := by
        cases h3 with
        | last _ g1 g2 =>
          by_cases c : R1.length = s
          · exact ⟨R1, [], by simp, g2, Or.inl ⟨c, Chk.last _ (by simp) List.Pairwise.nil⟩⟩
          · exact ⟨R1, [], by simp, g2, Or.inr ⟨by omega, rfl⟩⟩
        | more Y R2 g1 g2 g3 => exact ⟨Y, R2, rfl, g2, Or.inl ⟨g1, g3⟩⟩
      obtain ⟨Y, R2, rfl, uY, hY⟩ := two
      simp only [List.length_append] at hd hb
      rcases hY with ⟨y1, y2⟩ | ⟨y1, rfl⟩
      · obtain ⟨M, m1, m2, m3, m4⟩ := sym_ev (X.length + Y.length) D X Y R2 (Nat.le_refl _) (by omega) (by omega) h2 uY (by omega)
        obtain ⟨R', k1, k2, k3, k4⟩ := ih R2 (D ++ M) (by omega) y2 (by simp; omega)
        refine ⟨M ++ R', by simp; omega, Chk.more M R' (by omega) m2 k2, ?_, fun n a b z res hz hn ha hbb h => ?_⟩
        · have := Same.app m3 k3
          simpa [List.append_assoc] using this
        · simp only [List.length_append] at hn
          have g := k4 n b (b + 2 * z) z res hz (by simp; omega) (by simp; omega) (by simp; omega) (by simpa using h)
          have g2 := m4 a (a + z) b ha (by omega) (by omega)
          refine Ev.step (fun k => ?_) (Ev.bind g2 (f := fun k t => api_Entry_58.l2 k t n z b (b + 2 * z)) (by simpa using g))
          rw [api_Entry_58.l2, if_pos (by omega), w64 (x := a + z) (by omega) (by omega), w64 (x := 2 * z) (by omega) (by omega), w64 (x := b + 2 * z) (by omega) (by omega)]
      · simp only [List.append_nil, List.length_nil] at hd hb ⊢
        by_cases c : Y = []
        · subst c
          refine ⟨X, by simp, Chk.last _ (by omega) h2, by simpa using Same.refl (c := kc) X, fun n a b z res hz hn ha hbb h => ?_⟩
          simp only [List.append_nil, List.length_nil] at hn h ⊢
          refine Ev.step (fun k => ?_) h
          rw [api_Entry_58.l2, if_neg (by omega), w64 (x := a + z) (by omega) (by omega), if_neg (by omega), w64 (by omega) (by omega), show z * 2 = 2 * z by omega]
        · have hp := List.length_pos_iff.2 c
          obtain ⟨M, m1, m2, m3, m4⟩ := sym_ev (X.length + Y.length) D X Y [] (Nat.le_refl _) (by omega) hp h2 uY (by simp; omega)
          refine ⟨M, by simp; omega, Chk.last _ (by omega) m2, m3, fun n a b z res hz hn ha hbb h => ?_⟩
          simp only [List.length_append] at hn
          have g2 := m4 a (a + z) n ha (by omega) (by omega)
          simp only [List.append_nil] at g2
          refine Ev.step (fun k => ?_) (Ev.bind g2 (f := fun k t => api_Entry_58.l1 k t n (2 * z)) h)
          rw [api_Entry_58.l2, if_neg (by omega), w64 (x := a + z) (by omega) (by omega), if_pos (by omega), w64 (x := z * 2) (by omega) (by omega), show z * 2 = 2 * z by omega]
theorem outer_ev (d : Nat) : ∀ (L : List S31) (s : Nat), 0 < s → L.length ≤ s + d → s ≤ 100000000000 → (L.length : Int) ≤ 50000000000 → Chk s L → ∃ M, M.length = L.length ∧ Up kc M ∧ Same kc L M ∧ Ev (fun k => api_Entry_58.l1 k L L.length s) M := by
  induction d with
  | zero =>
    intro L s h0 h1 h2 h3 hc
    refine ⟨L, rfl, hc.up h1, Same.refl _, Ev.step (f := fun _ => some L) (fun k => ?_) (Ev.now _)⟩
    rw [api_Entry_58.l1, if_neg (by omega)]
  | succ d ih =>
    intro L s h0 h1 h2 h3 hc
    by_cases c : s < L.length
    · obtain ⟨R', k1, k2, k3, k4⟩ := pass_ev s h0 h2 L.length L [] (Nat.le_refl _) hc (by simp; omega)
      obtain ⟨M, m1, m2, m3, m4⟩ := ih R' (2 * s) (by omega) (by omega) (by omega) (by omega) k2
      refine ⟨M, by omega, m2, k3.trans m3, ?_⟩
      rw [k1] at m4
      have g := k4 L.length 0 (2 * s) s M rfl (by simp) rfl (by simp) (by simpa using m4)
      refine Ev.step (f := fun k => api_Entry_58.l2 k L L.length s 0 (2 * s)) (fun k => ?_) (by simpa using g)
      rw [api_Entry_58.l1, if_pos (by omega), w64 (by omega) (by omega)]
    · refine ⟨L, rfl, hc.up (by omega), Same.refl _, Ev.step (f := fun _ => some L) (fun k => ?_) (Ev.now _)⟩
      rw [api_Entry_58.l1, if_neg (by omega)]
theorem stable_ev (L : List S31) (hb : L.length ≤ 1000000) : ∃ M, M.length = L.length ∧ Up kc M ∧ Same kc L M ∧ Ev (fun k => api_Entry_43.f k L) M := by
  obtain ⟨R', k1, k2, k3, k4⟩ := blocks_ev L.length L [] (Nat.le_refl _) (by simp; omega)
  obtain ⟨M, m1, m2, m3, m4⟩ := outer_ev L.length R' 20 (by omega) (by omega) (by omega) (by omega) k2
  refine ⟨M, by omega, m2, k3.trans m3, ?_⟩
  rw [k1] at m4
  have g := k4 L.length 0 20 M (by simp) rfl rfl (by simpa using m4)
  have g2 : Ev (fun k => api_Entry_58.f k L L.length) M := by
    unfold api_Entry_58.f; simpa using g
  unfold api_Entry_43.f
  exact Ev.bind g2 (f := fun _ t => some t) (Ev.now _)
theorem clone31 (l : List S31) (hb : l.length ≤ 1000000) : api_Entry_42.f l = some l := by
  unfold api_Entry_42.f
  simp only [Option.bind_some, List.length_nil, Nat.zero_add, List.nil_append]
  rw [if_pos (by omega)]

/-! ### Each key once, the first of alike ones -/
def SUp (l : List S31) : Prop := l.Pairwise (fun x y => kc x y < 0)
def IsFirst (l : List S31) (z : S31) : Prop := l.find? (fun w => kc z w == 0) = some z
theorem kc_self (z : S31) : (kc z z == 0) = true := by rw [kc_cmp.refl]; rfl
theorem sup_ext : ∀ (x y : List S31), SUp x → SUp y → (∀ z, z ∈ x ↔ z ∈ y) → x = y
  | [], y, _, _, h => by
    cases y with
    | nil => rfl
    | cons b y => have := (h b).2 (by simp); simp at this
  | a :: x, [], _, _, h => by have := (h a).1 (by simp); simp at this
  | a :: x, b :: y, hx, hy, h => by
    have hx' := List.pairwise_cons.1 hx; have hy' := List.pairwise_cons.1 hy
    have e : a = b := by
      rcases List.mem_cons.1 ((h a).1 (by simp)) with e | m1
      · exact e
      · rcases List.mem_cons.1 ((h b).2 (by simp)) with e | m2
        · exact e.symm
        · have h1 := hy'.1 a m1; have h2 := hx'.1 b m2
          have := (kc_cmp.anti a b).1 h2; omega
    subst e
    congr 1
    refine sup_ext x y hx'.2 hy'.2 (fun z => ⟨fun hz => ?_, fun hz => ?_⟩)
    · rcases List.mem_cons.1 ((h z).1 (List.mem_cons_of_mem _ hz)) with e | m
      · subst e; have := hx'.1 z hz; have := kc_cmp.refl z; omega
      · exact m
    · rcases List.mem_cons.1 ((h z).2 (List.mem_cons_of_mem _ hz)) with e | m
      · subst e; have := hy'.1 z hz; have := kc_cmp.refl z; omega
      · exact m
theorem first_same {x y : List S31} (h : Same kc x y) (z : S31) : IsFirst x z ↔ IsFirst y z := by
  unfold IsFirst
  rw [← List.head?_filter, ← List.head?_filter, h z]
theorem first_mem {l : List S31} {z : S31} (h : IsFirst l z) : z ∈ l := List.mem_of_find?_eq_some h
/-- of alike ones there is a first -/
theorem first_ex (l : List S31) (w : S31) (h : w ∈ l) : ∃ z, IsFirst l z ∧ kc z w = 0 := by
  cases e : l.find? (fun v => kc w v == 0) with
  | none =>
    have := List.find?_eq_none.1 e w h
    rw [kc_self] at this; exact absurd rfl this
  | some z =>
    have hz : kc w z = 0 := by have := List.find?_some e; simpa using this
    refine ⟨z, ?_, kc_cmp.swap0 hz⟩
    unfold IsFirst
    rw [← e]
    congr 1
    funext v
    have h1 : kc z v = 0 ↔ kc w v = 0 := ⟨fun h2 => kc_cmp.same_l (kc_cmp.swap0 hz) h2, fun h2 => kc_cmp.same_l hz h2⟩
    by_cases c : kc z v = 0
    · rw [c, h1.1 c]
    · have c2 : ¬ kc w v = 0 := fun h => c (h1.2 h)
      rw [beq_eq_false_iff_ne.2 c, beq_eq_false_iff_ne.2 c2]
/-- what is left out is not alike: the first stays -/
theorem first_skip (u v : List S31) (e z : S31) (h : kc z e ≠ 0) : IsFirst (u ++ e :: v) z ↔ IsFirst (u ++ v) z := by
  unfold IsFirst
  rw [List.find?_append, List.find?_append, List.find?_cons_of_neg (by simpa using h)]
theorem first_here (u v : List S31) (e : S31) (h : ∀ w ∈ u, kc e w ≠ 0) : IsFirst (u ++ e :: v) e := by
  unfold IsFirst
  rw [List.find?_append, List.find?_eq_none.2 (fun w hw => by simpa using h w hw), List.find?_cons_of_pos (p := fun w => kc e w == 0) (kc_self e)]; rfl
theorem first_other (u v : List S31) (e z : S31) (h : ∀ w ∈ u, kc e w ≠ 0) (hz : kc e z = 0) (hf : IsFirst (u ++ e :: v) z) : z = e := by
  have h1 := first_here u v e h
  unfold IsFirst at h1 hf
  have : (fun w => kc z w == 0) = (fun w => kc e w == 0) := by
    funext w
    by_cases c : kc z w = 0
    · rw [c, kc_cmp.same_l (kc_cmp.swap0 hz) c]
    · rw [beq_eq_false_iff_ne.2 c, beq_eq_false_iff_ne.2 (fun h2 => c (kc_cmp.same_l hz h2))]
  rw [this, h1] at hf
  injection hf with hf; exact hf.symm
/-- the firsts of so many -/
structure Firsts (l out : List S31) : Prop where
  up : SUp out
  mem : ∀ z, z ∈ out ↔ IsFirst l z
theorem Firsts.eq {l l' a b : List S31} (h : Firsts l a) (k : Firsts l' b) (s : Same kc l l') : a = b :=
  sup_ext a b h.up k.up (fun z => by rw [h.mem, k.mem, first_same s])
theorem Firsts.nil : Firsts [] [] := ⟨List.Pairwise.nil, fun z => by simp [IsFirst]⟩
theorem Firsts.alike {l a : List S31} (h : Firsts l a) {x : S31} (w : S31) (hw : w ∈ l) (e : kc x w = 0) : ∃ z ∈ a, kc x z = 0 := by
  obtain ⟨z, h1, h2⟩ := first_ex l w hw
  exact ⟨z, (h.mem z).2 h1, kc_cmp.same_l (kc_cmp.swap0 e) (kc_cmp.swap0 h2)⟩
/-- one more: it is alike to one that is there -/
theorem Firsts.keep {l a : List S31} (h : Firsts l a) {x y : S31} (hy : y ∈ a) (e : kc y x = 0) : Firsts (l ++ [x]) a := by
  refine ⟨h.up, fun z => ?_⟩
  rw [h.mem]
  by_cases c : kc z x = 0
  · have hyl := first_mem ((h.mem y).1 hy)
    have hzy : kc z y = 0 := kc_cmp.same_l (kc_cmp.swap0 c) (kc_cmp.swap0 e)
    unfold IsFirst
    rw [List.find?_append]
    cases f : l.find? (fun w => kc z w == 0) with
    | none => have := List.find?_eq_none.1 f y hyl; rw [hzy] at this; exact absurd rfl this
    | some v => simp
  · have := first_skip l [] x z c
    rw [List.append_nil] at this; exact this.symm
/-- one more: it goes in -/
theorem Firsts.put {l a b : List S31} {x : S31} (h : Firsts l (a ++ b)) (h1 : ∀ y ∈ a, kc y x < 0) (h2 : ∀ y ∈ b, kc x y < 0) : Firsts (l ++ [x]) (a ++ x :: b) := by
  have hno : ∀ w ∈ l, kc x w ≠ 0 := fun w hw e => by
    obtain ⟨z, hz, ez⟩ := h.alike w hw e
    rcases List.mem_append.1 hz with hz | hz
    · have := h1 z hz; have := kc_cmp.swap0 ez; omega
    · have := h2 z hz; omega
  refine ⟨?_, fun z => ?_⟩
  · have hu := List.pairwise_append.1 h.up
    refine List.pairwise_append.2 ⟨hu.1, List.pairwise_cons.2 ⟨h2, hu.2.1⟩, fun p hp q hq => ?_⟩
    rcases List.mem_cons.1 hq with rfl | hq
    · exact h1 p hp
    · exact hu.2.2 p hp q hq
  · by_cases c : kc z x = 0
    · constructor
      · intro hm
        rcases List.mem_append.1 hm with hm | hm
        · have := h1 z hm; omega
        · rcases List.mem_cons.1 hm with rfl | hm
          · exact first_here l [] z hno
          · have := h2 z hm; have := kc_cmp.swap0 c; omega
      · intro hf
        have := first_other l [] x z hno (kc_cmp.swap0 c) hf
        subst this; simp
    · have := first_skip l [] x z c
      rw [List.append_nil] at this
      rw [this, ← h.mem]
      constructor
      · intro hm
        rcases List.mem_append.1 hm with hm | hm
        · exact List.mem_append_left _ hm
        · rcases List.mem_cons.1 hm with rfl | hm
          · exact absurd (kc_cmp.refl z) c
          · exact List.mem_append_right _ hm
      · intro hm
        rcases List.mem_append.1 hm with hm | hm
        · exact List.mem_append_left _ hm
        · exact List.mem_append_right _ (List.mem_cons_of_mem _ hm)
theorem nodup_len : ∀ (a l : List S31), a.Nodup → a ⊆ l → a.length ≤ l.length
  | [], l, _, _ => Nat.zero_le _
  | x :: t, l, h, hs => by
    obtain ⟨u, v, rfl⟩ := List.append_of_mem (hs (List.mem_cons_self))
    have hn := List.nodup_cons.1 h
    have := nodup_len t (u ++ v) hn.2 (fun z hz => by
      have h1 := hs (List.mem_cons_of_mem _ hz)
      rcases List.mem_append.1 h1 with h1 | h1
      · exact List.mem_append_left _ h1
      · rcases List.mem_cons.1 h1 with rfl | h1
        · exact absurd hz hn.1
        · exact List.mem_append_right _ h1)
    simp at this ⊢; omega
theorem Firsts.length {l a : List S31} (h : Firsts l a) : a.length ≤ l.length := by
  have hn : a.Nodup := List.Pairwise.imp (fun {x y} hlt e => by subst e; have := kc_cmp.refl x; omega) h.up
  have hs : a ⊆ l := fun z hz => first_mem ((h.mem z).1 hz)
  exact nodup_len a l hn hs

/-! ### Make: entries in order, by numbers -/
def dg (n : Nat) : ByteArray := if n < 10 then ⟨#[UInt8.ofNat (48 + n)]⟩ else if n < 100 then ⟨#[UInt8.ofNat (48 + n / 10), UInt8.ofNat (48 + n % 10)]⟩ else ⟨#[UInt8.ofNat (48 + n / 100), UInt8.ofNat (48 + n / 10 % 10), UInt8.ofNat (48 + n % 10)]⟩
theorem dg_all : ∀ n : Nat, n < 256 → iceboxref1_Digits.f 5 (n : Int) = some (dg n) := by decide +kernel
theorem dg_size : ∀ n : Nat, n < 256 → (dg n).size ≤ 3 := by decide +kernel
theorem dg_num : ∀ n : Nat, n < 256 → (dg n).data.toList.foldl (fun a (b : UInt8) => 10 * a + (b.toNat - 48)) 0 = n := by decide +kernel
theorem dg_inj {m n : Nat} (hm : m < 256) (hn : n < 256) (h : (dg m).toList = (dg n).toList) : m = n := by
  rw [Go.ByteArray.toList_eq, Go.ByteArray.toList_eq] at h
  rw [← dg_num m hm, ← dg_num n hn, h]
theorem dg_ev (x : Int) (h0 : 0 ≤ x) (h1 : x ≤ 255) : Ev (fun k => iceboxref1_Digits.f k x) (dg x.toNat) := by
  have h := dg_all x.toNat (by omega)
  rw [Int.toNat_of_nonneg h0] at h
  exact Ev.of (fun k => iceboxref1_Digits.mono x k) h
theorem empty_tl : (⟨#[]⟩ : ByteArray).toList = [] := by rw [Go.ByteArray.toList_eq]
theorem zero_tl : (⟨#[0]⟩ : ByteArray).toList = [0] := by rw [Go.ByteArray.toList_eq]
def keyOf (n : Nat) : ByteArray := (⟨#[107, 101, 121]⟩ : ByteArray) ++ dg n
theorem toList_app (a b : ByteArray) : (a ++ b).toList = a.toList ++ b.toList := by
  rw [Go.ByteArray.toList_eq, Go.ByteArray.toList_eq, Go.ByteArray.toList_eq, ByteArray.toList_data_append]
theorem keyOf_size (n : Nat) (h : n < 256) : (keyOf n).size ≤ 6 := by
  have := dg_size n h
  unfold keyOf
  rw [ByteArray.size_append]
  have : (⟨#[107, 101, 121]⟩ : ByteArray).size = 3 := rfl
  omega
/-- what number i makes -/
def ent (ns : List Int) (sp : Int) (i : Nat) : S31 :=
  if rd ns i % 7 = 0 then ⟨⟨keyOf (rd ns i % (3 + sp % 40)).toNat, 1 + i, 2⟩, (⟨#[]⟩ : ByteArray)⟩ else ⟨⟨keyOf (rd ns i % (3 + sp % 40)).toNat, 1 + i, 1⟩, dg (rd ns i).toNat⟩
theorem below_kc (x : S31) (u : ByteArray) (s d : Int) (v : ByteArray) : Mem_below x u s d = true ↔ kc x ⟨⟨u, s, d⟩, v⟩ < 0 := by
  unfold Mem_below
  rw [ref_kc]
  simp [kc]
theorem same_kc (x : S31) (u : ByteArray) (s d : Int) (v : ByteArray) : Mem_same x u s d = true ↔ kc x ⟨⟨u, s, d⟩, v⟩ = 0 := by
  unfold Mem_same
  rw [kc_zero, Bool.and_eq_true, Bool.and_eq_true, beq_iff_eq, beq_iff_eq, beq_iff_eq]
theorem at_split (u : ByteArray) (s d : Int) (v : ByteArray) : ∀ L : List S31, ∃ A B, L = A ++ B ∧ A.length = Mem_at u s d L ∧ (∀ x ∈ A, kc x ⟨⟨u, s, d⟩, v⟩ < 0) ∧ (∀ x t, B = x :: t → ¬ kc x ⟨⟨u, s, d⟩, v⟩ < 0)
  | [] => ⟨[], [], rfl, rfl, by simp, by simp⟩
  | x :: L => by
    by_cases c : Mem_below x u s d = true
    · obtain ⟨A, B, h1, h2, h3, h4⟩ := at_split u s d v L
      refine ⟨x :: A, B, by rw [h1]; rfl, by rw [Mem_at, if_pos c, List.length_cons, h2], fun y hy => ?_, h4⟩
      rcases List.mem_cons.1 hy with rfl | hy
      · exact (below_kc _ _ _ _ _).1 c
      · exact h3 y hy
    · refine ⟨[], x :: L, rfl, by rw [Mem_at, if_neg c]; rfl, by simp, fun y t hy => ?_⟩
      injection hy with h1 h2
      subst h1
      exact fun h => c ((below_kc _ _ _ _ v).2 h)
theorem mem_put (L : List S31) (u : ByteArray) (s d : Int) (v : ByteArray) (hu : SUp L) (hn : ∀ x ∈ L, kc x ⟨⟨u, s, d⟩, v⟩ ≠ 0) (hl : L.length ≤ 1000) (hm : iceboxref1_MayEntry.f u s d v = some true) :
    ∃ M, Mem_add L u s d v = some M ∧ SUp M ∧ M.length = L.length + 1 ∧ ∀ z, z ∈ M ↔ z ∈ L ∨ z = ⟨⟨u, s, d⟩, v⟩ := by
  obtain ⟨A, B, rfl, h2, h3, h4⟩ := at_split u s d v L
  have e1 : (A ++ B).take (Mem_at u s d (A ++ B)) = A := by rw [← h2]; simp
  have e2 : (A ++ B).drop (Mem_at u s d (A ++ B)) = B := by rw [← h2]; simp
  have hp := List.pairwise_append.1 hu
  have hB : ∀ y ∈ B, kc ⟨⟨u, s, d⟩, v⟩ y < 0 := by
    intro y hy
    cases B with
    | nil => simp at hy
    | cons x t =>
      have hx := h4 x t rfl
      have hx2 := hn x (by simp)
      have hx3 : kc ⟨⟨u, s, d⟩, v⟩ x < 0 := (kc_cmp.anti _ _).2 (by omega)
      rcases List.mem_cons.1 hy with rfl | hy
      · exact hx3
      · have := (List.pairwise_cons.1 hp.2.1).1 y hy
        exact kc_cmp.lt_le hx3 (by omega)
  refine ⟨A ++ ⟨⟨u, s, d⟩, v⟩ :: B, ?_, ?_, by simp; omega, fun z => ?_⟩
  · unfold Mem_add
    rw [hm, Option.bind_some, if_pos rfl, if_pos (by omega), e1, e2]
    by_cases c : Mem_at u s d (A ++ B) < (A ++ B).length
    · rw [if_pos c]
      have hs : ¬ Mem_same (rd_T31 (A ++ B) (Mem_at u s d (A ++ B) : Int)) u s d = true := by
        obtain ⟨x, t, rfl⟩ := cons_of B (fun h => by rw [h] at c h2; simp at c h2; omega)
        rw [rd31_at A t x _ (by omega)]
        exact fun h => hn x (by simp) ((same_kc _ _ _ _ v).1 h)
      rw [if_neg hs]; simp
    · rw [if_neg c]; simp
  · refine List.pairwise_append.2 ⟨hp.1, List.pairwise_cons.2 ⟨hB, hp.2.1⟩, fun x hx y hy => ?_⟩
    rcases List.mem_cons.1 hy with rfl | hy
    · exact h3 x hx
    · exact hp.2.2 x hx y hy
  · constructor
    · intro h
      rcases List.mem_append.1 h with h | h
      · exact Or.inl (List.mem_append_left _ h)
      · rcases List.mem_cons.1 h with h | h
        · exact Or.inr h
        · exact Or.inl (List.mem_append_right _ h)
    · rintro (h | h)
      · rcases List.mem_append.1 h with h | h
        · exact List.mem_append_left _ h
        · exact List.mem_append_right _ (List.mem_cons_of_mem _ h)
      · rw [h]; exact List.mem_append_right _ List.mem_cons_self
theorem may_ent (u : ByteArray) (s d : Int) (v : ByteArray) (hu : u.size ≤ 64) (h0 : 0 ≤ s) (h1 : s ≤ 1000000) (hv : v.size ≤ 512) (hd : d = 1 ∨ (d = 2 ∧ v.toList = [])) : iceboxref1_MayEntry.f u s d v = some true := by
  unfold iceboxref1_MayEntry.f iceboxref1_MayKey.f iceboxref1_Number.f
  rw [if_pos (by omega), if_pos h0]
  simp only [Option.bind_some]
  rw [if_pos (by simp; omega)]
  rcases hd with rfl | ⟨rfl, hd⟩
  · simp only [if_true, Option.bind_some]
    rw [if_pos (by omega)]
  · simp only [show ¬ ((2 : Int) = 1) by decide, if_false, beq_self_eq_true, Option.bind_some, if_true]
    rw [if_pos (by omega), hd]; rfl
theorem seq_ne {x y : S31} (h : x.f0.f1 ≠ y.f0.f1) : kc x y ≠ 0 := fun e => h ((kc_zero x y).1 e).2.1
theorem make_loop (ns : List Int) (sp : Int) (hns : ∀ x ∈ ns, 0 ≤ x ∧ x ≤ 255) (hl : ns.length ≤ 200) (hs0 : 0 ≤ sp) (hs1 : sp ≤ 255) (d : Nat) : ∀ (i : Nat) (L : List S31), i + d = ns.length → SUp L → L.length = i → (∀ z, z ∈ L ↔ ∃ j, j < i ∧ z = ent ns sp j) →
    ∃ M, SUp M ∧ M.length = ns.length ∧ (∀ z, z ∈ M ↔ ∃ j, j < ns.length ∧ z = ent ns sp j) ∧ Ev (fun k => iceboxlaw12_Make.l0 k ns sp L (i : Int)) M := by
  induction d with
  | zero =>
    intro i L hd hu hlen hm
    obtain rfl : i = ns.length := by omega
    refine ⟨L, hu, hlen, hm, Ev.step (f := fun _ => some L) (fun k => ?_) (Ev.now _)⟩
    rw [iceboxlaw12_Make.l0, if_neg (by omega)]
  | succ d ih =>
    intro i L hd hu hlen hm
    have hi : i < ns.length := by omega
    have hr : rd ns (i : Int) = ns[i] := by
      unfold rd
      rw [Int.toNat_natCast, List.getD_eq_getElem?_getD, List.getElem?_eq_getElem hi]; rfl
    have hn := hns _ (List.getElem_mem hi)
    rw [← hr] at hn
    have hnew : ∀ (e : S31), e.f0.f1 = 1 + i → ∀ x ∈ L, kc x e ≠ 0 := by
      intro e he x hx
      obtain ⟨j, hj, rfl⟩ := (hm x).1 hx
      refine seq_ne ?_
      rw [he]; unfold ent
      split <;> simp <;> omega
    obtain ⟨n, hnn⟩ : ∃ n, n = rd ns (i : Int) := ⟨_, rfl⟩
    have he : ent ns sp i = if n % 7 = 0 then ⟨⟨keyOf (n % (3 + sp % 40)).toNat, 1 + i, 2⟩, (⟨#[]⟩ : ByteArray)⟩ else ⟨⟨keyOf (n % (3 + sp % 40)).toNat, 1 + i, 1⟩, dg n.toNat⟩ := by rw [hnn]; rfl
    rw [← hnn] at hn
    have hmod0 : 0 ≤ n % (3 + sp % 40) := Int.emod_nonneg _ (by omega)
    have hmod1 : n % (3 + sp % 40) < 3 + sp % 40 := Int.emod_lt_of_pos _ (by omega)
    have hd1 := dg_ev (n % (3 + sp % 40)) hmod0 (by omega)
    have hd2 := dg_ev n hn.1 hn.2
    have hk : (keyOf (n % (3 + sp % 40)).toNat).size ≤ 6 := keyOf_size _ (by omega)
    have hv := dg_size n.toNat (by omega)
    have hdd := dg_size (n % (3 + sp % 40)).toNat (by omega)
    obtain ⟨M, hM, hM1, hM2, hM3⟩ : ∃ M, (if n % 7 = 0 then Mem_add L (keyOf (n % (3 + sp % 40)).toNat) (1 + i) 2 (⟨#[]⟩ : ByteArray) else Mem_add L (keyOf (n % (3 + sp % 40)).toNat) (1 + i) 1 (dg n.toNat)) = some M ∧ SUp M ∧ M.length = L.length + 1 ∧ ∀ z, z ∈ M ↔ z ∈ L ∨ z = ent ns sp i := by
      by_cases c : n % 7 = 0
      · rw [if_pos c, he, if_pos c]
        exact mem_put L _ _ _ _ hu (hnew _ rfl) (by omega) (may_ent _ _ _ _ (by omega) (by omega) (by omega) (by decide) (Or.inr ⟨rfl, empty_tl⟩))
      · rw [if_neg c, he, if_neg c]
        exact mem_put L _ _ _ _ hu (hnew _ rfl) (by omega) (may_ent _ _ _ _ (by omega) (by omega) (by omega) (by omega) (Or.inl rfl))
    obtain ⟨R, r1, r2, r3, r4⟩ := ih (i + 1) M (by omega) hM1 (by omega) (fun z => by
      rw [hM3, hm]
      constructor
      · rintro (⟨j, hj, h⟩ | h)
        · exact ⟨j, by omega, h⟩
        · exact ⟨i, by omega, h⟩
      · rintro ⟨j, hj, h⟩
        by_cases c : j = i
        · subst c; exact Or.inr h
        · exact Or.inl ⟨j, by omega, h⟩)
    refine ⟨R, r1, r2, r3, ?_⟩
    have p0 : (i : Int) < (ns.length : Int) := by omega
    have p1 : 0 ≤ (i : Int) ∧ (i : Int) < 9223372036854775000 ∧ 0 ≤ rd ns i ∧ rd ns i ≤ 255 ∧ 0 ≤ sp ∧ sp ≤ 255 := by rw [← hnn]; omega
    have p2 : (dg (n % (3 + sp % 40)).toNat).size ≤ 1000 := by omega
    have g : Ev (fun k => (if n % 7 = 0 then Mem_add L (keyOf (n % (3 + sp % 40)).toNat) (1 + i) 2 (⟨#[]⟩ : ByteArray) else Mem_add L (keyOf (n % (3 + sp % 40)).toNat) (1 + i) 1 (dg n.toNat)).bind fun y => iceboxlaw12_Make.l0 k ns sp y ((i : Int) + 1)) R := by
      rw [hM]
      exact r4
    refine Ev.step (fun k => ?_) (Ev.bind hd1 (f := fun k d1 => (if d1.size ≤ 1000 then ((iceboxref1_Digits.f k n).bind fun d2 => ((if n % 7 = 0 then Mem_add L ((⟨#[107, 101, 121]⟩ : ByteArray) ++ d1) (1 + i) 2 (⟨#[]⟩ : ByteArray) else Mem_add L ((⟨#[107, 101, 121]⟩ : ByteArray) ++ d1) (1 + i) 1 d2).bind fun y => iceboxlaw12_Make.l0 k ns sp y ((i : Int) + 1))) else none)) (Ev.congr (fun k => by rw [if_pos p2]; rfl) (Ev.bind hd2 (f := fun k d2 => ((if n % 7 = 0 then Mem_add L (keyOf (n % (3 + sp % 40)).toNat) (1 + i) 2 (⟨#[]⟩ : ByteArray) else Mem_add L (keyOf (n % (3 + sp % 40)).toNat) (1 + i) 1 d2).bind fun y => iceboxlaw12_Make.l0 k ns sp y ((i : Int) + 1))) g)))
    rw [iceboxlaw12_Make.l0, if_pos p0, if_pos p1, ← hnn]
theorem make_ev (ns : List Int) (sp : Int) (hns : ∀ x ∈ ns, 0 ≤ x ∧ x ≤ 255) (hl : ns.length ≤ 200) (hs0 : 0 ≤ sp) (hs1 : sp ≤ 255) :
    ∃ M, SUp M ∧ M.length = ns.length ∧ (∀ z, z ∈ M ↔ ∃ j, j < ns.length ∧ z = ent ns sp j) ∧ Ev (fun k => iceboxlaw12_Make.f k ns sp) M := by
  obtain ⟨M, h1, h2, h3, h4⟩ := make_loop ns sp hns hl hs0 hs1 ns.length 0 [] (by omega) List.Pairwise.nil rfl (by simp)
  exact ⟨M, h1, h2, h3, h4⟩

theorem awake14_ev : Ev iceboxlaw14_awake.f true := Ev.of (fun k => iceboxlaw14_awake.mono k) (k := 60) (by decide +kernel)
theorem same_up {L M : List S31} (h : SUp L) (hu : Up kc M) (hs : Same kc L M) : M = L := by
  have hne : M.Pairwise (fun x y => kc x y ≠ 0) := by
    rw [List.pairwise_iff_forall_sublist]
    intro a b hab e
    have h1 : [a, b].filter (fun w => kc a w == 0) = [a, b] := by
      simp [kc_self, e]
    have h2 := hab.filter (fun w => kc a w == 0)
    rw [h1, hs a] at h2
    have h3 : [a, b].Sublist L := h2.trans List.filter_sublist
    have h4 := (List.pairwise_iff_forall_sublist.1 h) h3
    omega
  have hup : SUp M := (List.pairwise_iff_forall_sublist).2 (fun {a b} hab => by
    have h1 := (List.pairwise_iff_forall_sublist.1 hu) hab
    have h2 := (List.pairwise_iff_forall_sublist.1 hne) hab
    have h3 : kc a b ≤ 0 := h1
    omega)
  exact sup_ext M L hup h (fun z => hs.mem kc_cmp z)
theorem nodup_ev (M : List S31) (h : SUp M) : Ev (fun k => some (noDup k M)) true := by
  have key : ∀ m : Nat, m ≤ M.length - 1 → ∃ K, ∀ k, K ≤ k → (List.range m).all (fun n => seek_New_2.f k (rd_T31 M ((n : Int) + 1)).f0.f0 (rd_T31 M ((n : Int) + 1)).f0.f1 (rd_T31 M ((n : Int) + 1)).f0.f2 (rd_T31 M ((n : Int) + 1)).f1 (rd_T31 M (n : Int)).f0.f0 (rd_T31 M (n : Int)).f0.f1 (rd_T31 M (n : Int)).f0.f2 (rd_T31 M (n : Int)).f1 == some false) = true := by
    intro m
    induction m with
    | zero => exact fun _ => ⟨0, fun _ _ => rfl⟩
    | succ m ih =>
      intro hm
      obtain ⟨K, hK⟩ := ih (by omega)
      obtain ⟨K2, hK2⟩ := key_kc (rd_T31 M ((m : Int) + 1)).f0.f0 (rd_T31 M ((m : Int) + 1)).f0.f1 (rd_T31 M ((m : Int) + 1)).f0.f2 (rd_T31 M (m : Int)).f0.f0 (rd_T31 M (m : Int)).f0.f1 (rd_T31 M (m : Int)).f0.f2
      refine ⟨max K K2, fun k hk => ?_⟩
      rw [List.range_succ, List.all_append, hK k (by omega), Bool.true_and, List.all_cons, List.all_nil, Bool.and_true]
      have e1 : rd_T31 M ((m : Int) + 1) = M[m + 1]'(by omega) := by
        unfold rd_T31
        rw [show ((m : Int) + 1).toNat = m + 1 by omega, List.getD_eq_getElem?_getD, List.getElem?_eq_getElem (by omega)]; rfl
      have e0 : rd_T31 M (m : Int) = M[m]'(by omega) := by
        unfold rd_T31
        rw [Int.toNat_natCast, List.getD_eq_getElem?_getD, List.getElem?_eq_getElem (by omega)]; rfl
      have hlt : kc (rd_T31 M (m : Int)) (rd_T31 M ((m : Int) + 1)) < 0 := by
        rw [e0, e1]; exact List.pairwise_iff_getElem.1 h m (m + 1) (by omega) (by omega) (by omega)
      have hne : kc (rd_T31 M ((m : Int) + 1)) (rd_T31 M (m : Int)) ≠ 0 := fun e => by have := kc_cmp.swap0 e; omega
      unfold seek_New_2.f
      have hk2 := hK2 k (by omega)
      dsimp only at hk2
      rw [hk2, Option.bind_some]
      have : (kcr (rd_T31 M ((m : Int) + 1)).f0.f0 (rd_T31 M ((m : Int) + 1)).f0.f1 (rd_T31 M ((m : Int) + 1)).f0.f2 (rd_T31 M (m : Int)).f0.f0 (rd_T31 M (m : Int)).f0.f1 (rd_T31 M (m : Int)).f0.f2 == 0) = false := beq_eq_false_iff_ne.2 hne
      rw [this]; rfl
  obtain ⟨K, hK⟩ := key (M.length - 1) (Nat.le_refl _)
  exact ⟨K, fun k hk => congrArg some (show noDup k M = true from hK k hk)⟩
theorem new_ev (L : List S31) (h : SUp L) (hl : L.length ≤ 1000) : Ev (fun k => seek_New.f k L) L := by
  obtain ⟨M, m1, m2, m3, m4⟩ := stable_ev L (by omega)
  have e : M = L := same_up h m2 m3
  subst e
  obtain ⟨K, hK⟩ := nodup_ev M h
  obtain ⟨K2, hK2⟩ := m4
  refine ⟨max K K2, fun k hk => ?_⟩
  show seek_New.f k M = some M
  unfold seek_New.f
  have h1 : noDup k M = true := Option.some.inj (hK k (by omega))
  have hk2 := hK2 k (by omega)
  dsimp only at hk2
  rw [clone31 M (by omega), Option.bind_some, hk2, Option.bind_some, if_pos ⟨hl, h1⟩]

/-! ### SeekFinds: behind Seek one stands at the first that is not below -/
theorem at_spec (u : ByteArray) (s d : Int) (L : List S31) (hu : SUp L) (i : Nat) (hi : i < L.length) : kc (L[i]) ⟨⟨u, s, d⟩, (⟨#[]⟩ : ByteArray)⟩ < 0 ↔ i < Mem_at u s d L := by
  obtain ⟨A, B, rfl, h2, h3, h4⟩ := at_split u s d (⟨#[]⟩ : ByteArray) L
  rw [← h2]
  constructor
  · intro h
    rcases Nat.lt_or_ge i A.length with c | c
    · exact c
    exfalso
    rw [List.getElem_append_right c] at h
    have hb : i - A.length < B.length := by rw [List.length_append] at hi; omega
    cases B with
    | nil => simp at hb
    | cons x t =>
      have hx := h4 x t rfl
      cases e : i - A.length with
      | zero => simp only [e, List.getElem_cons_zero] at h; exact hx h
      | succ j =>
        simp only [e, List.getElem_cons_succ] at h
        have hj : j < t.length := by rw [e, List.length_cons] at hb; omega
        have hp := (List.pairwise_append.1 hu).2.1
        have h5 := (List.pairwise_cons.1 hp).1 (t[j]) (List.getElem_mem hj)
        exact hx (kc_cmp.lt_le h5 (by omega))
  · intro h
    rw [List.getElem_append_left h]
    exact h3 _ (List.getElem_mem h)
theorem rd31_getE (M : List S31) (n : Nat) (h : n < M.length) : rd_T31 M (n : Int) = M[n] := by
  unfold rd_T31
  rw [Int.toNat_natCast, List.getD_eq_getElem?_getD, List.getElem?_eq_getElem h]; rfl
theorem seekok_ev (M : List S31) (h : SUp M) (u : ByteArray) (s d : Int) : Ev (fun k => some (seekOk k M u s d)) true := by
  have key : ∀ m : Nat, m ≤ M.length → ∃ K, ∀ k, K ≤ k → (List.range m).all (fun i => match key_Cmp.f k (rd_T31 M (i : Int)).f0.f0 (rd_T31 M (i : Int)).f0.f1 (rd_T31 M (i : Int)).f0.f2 u s d with
      | some c => decide (0 ≤ c) == decide (Mem_at u s d M ≤ i)
      | none => false) = true := by
    intro m
    induction m with
    | zero => exact fun _ => ⟨0, fun _ _ => rfl⟩
    | succ m ih =>
      intro hm
      obtain ⟨K, hK⟩ := ih (by omega)
      obtain ⟨K2, hK2⟩ := key_kc (rd_T31 M (m : Int)).f0.f0 (rd_T31 M (m : Int)).f0.f1 (rd_T31 M (m : Int)).f0.f2 u s d
      refine ⟨max K K2, fun k hk => ?_⟩
      have hk2 := hK2 k (by omega)
      dsimp only at hk2
      rw [List.range_succ, List.all_append, hK k (by omega), Bool.true_and, List.all_cons, List.all_nil, Bool.and_true, hk2]
      have h1 := at_spec u s d M h m (by omega)
      rw [← rd31_getE M m (by omega)] at h1
      have h2 : kc (rd_T31 M (m : Int)) ⟨⟨u, s, d⟩, (⟨#[]⟩ : ByteArray)⟩ = kcr (rd_T31 M (m : Int)).f0.f0 (rd_T31 M (m : Int)).f0.f1 (rd_T31 M (m : Int)).f0.f2 u s d := rfl
      rw [h2] at h1
      generalize kcr (rd_T31 M (m : Int)).f0.f0 (rd_T31 M (m : Int)).f0.f1 (rd_T31 M (m : Int)).f0.f2 u s d = q at h1
      show (decide (0 ≤ q) == decide (Mem_at u s d M ≤ m)) = true
      by_cases c : m < Mem_at u s d M
      · have := h1.2 c
        rw [decide_eq_false (show ¬ (0 ≤ q) by omega), decide_eq_false (show ¬ (Mem_at u s d M ≤ m) by omega)]; rfl
      · have : ¬ q < 0 := fun hq => c (h1.1 hq)
        rw [decide_eq_true (show 0 ≤ q by omega), decide_eq_true (show Mem_at u s d M ≤ m by omega)]; rfl
  obtain ⟨K, hK⟩ := key M.length (Nat.le_refl _)
  exact ⟨K, fun k hk => congrArg some (show seekOk k M u s d = true from hK k hk)⟩
theorem finds_ok (M : List S31) (u : ByteArray) (s d : Int) (n : Nat) (h : M.length = n) : findsOk M u s d n = true := by
  unfold findsOk
  have hle := Mem_at_le u s d M
  simp only [Bool.and_eq_true, Bool.or_eq_true, decide_eq_true_eq, Bool.not_eq_true']
  refine ⟨⟨?_, ?_⟩, by omega⟩
  · rcases Nat.lt_or_ge (Mem_at u s d M) M.length with c | c
    · exact Or.inr (Mem_at_eq u s d M c)
    · exact Or.inl c
  · rcases Nat.eq_zero_or_pos (Mem_at u s d M) with c | c
    · exact Or.inl c
    · refine Or.inr ?_
      have := Mem_at_lt u s d M (Mem_at u s d M - 1) (by omega)
      rw [show ((Mem_at u s d M - 1 : Nat) : Int) = (Mem_at u s d M : Int) - 1 by omega] at this
      exact this
theorem SeekFinds : iceboxlaw14_SeekFinds.Pure := by
  intro ns a1 a2 _ _ hns h1 h2
  apply Ev.rounds
  unfold iceboxlaw14_SeekFinds.f
  by_cases c1 : (ns.length : Int) > 80
  · exact Ev.congr (fun k => by rw [if_pos c1]) awake14_ev
  have hns' : ∀ x ∈ ns, 0 ≤ x ∧ x ≤ 255 := fun x hx => by have := wf_u8 (hns x hx); omega
  have w1 := wf_u8 h1
  have w2 := wf_u8 h2
  obtain ⟨L, m1, m2, m3, m4⟩ := make_ev ns 9 hns' (by omega) (by omega) (by omega)
  have hg : 0 ≤ a1 ∧ a1 ≤ 255 ∧ 0 ≤ a2 ∧ a2 ≤ 255 := by omega
  have hd := dg_ev (a1 % 15) (by omega) (by omega)
  have hs := dg_size (a1 % 15).toNat (by omega)
  obtain ⟨K, hK⟩ := seekok_ev L m1 (keyD (dg (a1 % 15).toNat)) a2 1
  have hf := finds_ok L (keyD (dg (a1 % 15).toNat)) a2 1 ns.length m2
  refine Ev.congr (fun k => by rw [if_neg c1, if_pos hg]) (Ev.bind m4 (f := fun k L => (seek_New.f k L).bind fun M => (iceboxref1_Digits.f k (a1 % 15)).bind fun D => if M.length ≤ 200 ∧ D.size ≤ 1000 ∧ seekOk k M (keyD D) a2 1 = true ∧ findsOk M (keyD D) a2 1 ns.length = true then iceboxlaw14_awake.f k else none) ?_)
  refine Ev.bind (new_ev L m1 (by omega)) (f := fun k M => (iceboxref1_Digits.f k (a1 % 15)).bind fun D => if M.length ≤ 200 ∧ D.size ≤ 1000 ∧ seekOk k M (keyD D) a2 1 = true ∧ findsOk M (keyD D) a2 1 ns.length = true then iceboxlaw14_awake.f k else none) ?_
  refine Ev.bind hd (f := fun k D => if L.length ≤ 200 ∧ D.size ≤ 1000 ∧ seekOk k L (keyD D) a2 1 = true ∧ findsOk L (keyD D) a2 1 ns.length = true then iceboxlaw14_awake.f k else none) ?_
  obtain ⟨K2, hK2⟩ := awake14_ev
  refine ⟨max K K2, fun k hk => ?_⟩
  have h3 : seekOk k L (keyD (dg (a1 % 15).toNat)) a2 1 = true := Option.some.inj (hK k (by omega))
  show (if _ then _ else _) = _
  rw [if_pos ⟨by omega, by omega, h3, hf⟩]
  exact hK2 k (by omega)

end Go.Proofs.Ytoomipmndapgnaa.Pure
