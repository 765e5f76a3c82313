/- The pure statement of the law BatchMay: over the Lean functions that the Go code was shown to compute, the law answers true for every input within the statement's own bounds. No further conditions. -/
import Derived.Test.YtgannkfpfhdhjaaPBatchMayx2
import Derived.Test.YtgannkfpfhdhjaaPBatchMayx3
import Derived.Test.YtgannkfpfhdhjaaPBatchMayx4
import Derived.Test.YtgannkfpfhdhjaaPBatchMayx5
import Derived.Test.YtgannkfpfhdhjaaPBatchMayx6
namespace Go.Proofs.Ytgannkfpfhdhjaa.Pure
open Go.RowKit Go.Proofs.Ytgannkfpfhdhjaa.PBatchMay Go.Proofs.YtgannkfpfhdhjaaW.PrintWords Go.Proofs.YtgannkfpfhdhjaaW.PrintLast Go.Proofs.YtgannkfpfhdhjaaW.PrintMore
set_option linter.unusedVariables false
set_option linter.unusedSimpArgs false

theorem w64 {x : Int} (h0 : -9223372036854775808 ≤ x) (h1 : x < 9223372036854775808) : wrap64 x = x := by
  unfold wrap64; omega
theorem bits_xor_nat (k : IntKind) (j : Nat) (hj : j ≤ k.bits) (hk : ∀ n : Int, 0 ≤ n → n < 2 ^ j → k.wrap n = n) (a b : Nat) (ha : a < 2 ^ j) (hb : b < 2 ^ j) :
    Go.bits .xor k a b = ((a ^^^ b : Nat) : Int) := by
  have hp : 2 ^ j ≤ 2 ^ k.bits := Nat.pow_le_pow_right (by decide) hj
  have ha' : a % 2 ^ k.bits = a := Nat.mod_eq_of_lt (Nat.lt_of_lt_of_le ha hp)
  have hb' : b % 2 ^ k.bits = b := Nat.mod_eq_of_lt (Nat.lt_of_lt_of_le hb hp)
  simp only [Go.bits, BitVec.ofInt_natCast, BitVec.toNat_xor, BitVec.toNat_ofNat, ha', hb']
  exact hk _ (Int.natCast_nonneg _) (by exact_mod_cast Nat.xor_lt_two_pow ha hb)
theorem wr_u32 (n : Int) (h₀ : 0 ≤ n) (h₁ : n < 2 ^ 32) : IntKind.u32.wrap n = n := by rw [IntKind.wrap_u32]; omega
theorem wr_u8 (n : Int) (h₀ : 0 ≤ n) (h₁ : n < 2 ^ 8) : IntKind.u8.wrap n = n := by rw [IntKind.wrap_u8]; omega
theorem wr_i64 (n : Int) (h₀ : 0 ≤ n) (h₁ : n < 2 ^ 63) : IntKind.i64.wrap n = n := by rw [IntKind.wrap_i64]; omega
theorem wr_u64 (n : Int) : IntKind.u64.wrap n = n % 18446744073709551616 := by simp [IntKind.wrap, IntKind.bits, IntKind.signed]
theorem bx_u32 (a b : Nat) (ha : a < 2 ^ 32) (hb : b < 2 ^ 32) : Go.bits .xor .u32 a b = ((a ^^^ b : Nat) : Int) := bits_xor_nat .u32 32 (by decide) wr_u32 a b ha hb
theorem bx_u8 (a b : Nat) (ha : a < 2 ^ 8) (hb : b < 2 ^ 8) : Go.bits .xor .u8 a b = ((a ^^^ b : Nat) : Int) := bits_xor_nat .u8 8 (by decide) wr_u8 a b ha hb
theorem bx_i64 (a b : Nat) (ha : a < 2 ^ 63) (hb : b < 2 ^ 63) : Go.bits .xor .i64 a b = ((a ^^^ b : Nat) : Int) := bits_xor_nat .i64 63 (by decide) wr_i64 a b ha hb
theorem bo_i64 (a b : Nat) (ha : a < 2 ^ 63) (hb : b < 2 ^ 63) : Go.bits .or .i64 a b = ((a ||| b : Nat) : Int) := (bits_nat .i64 63 (by decide) wr_i64 a b ha hb).2
theorem bo_u8 (a b : Nat) (ha : a < 2 ^ 8) (hb : b < 2 ^ 8) : Go.bits .or .u8 a b = ((a ||| b : Nat) : Int) := (bits_nat .u8 8 (by decide) wr_u8 a b ha hb).2
theorem ba_u8 (a b : Nat) (ha : a < 2 ^ 8) (hb : b < 2 ^ 8) : Go.bits .and .u8 a b = ((a &&& b : Nat) : Int) := (bits_nat .u8 8 (by decide) wr_u8 a b ha hb).1
theorem ba_u32 (a b : Nat) (ha : a < 2 ^ 32) (hb : b < 2 ^ 32) : Go.bits .and .u32 a b = ((a &&& b : Nat) : Int) := (bits_nat .u32 32 (by decide) wr_u32 a b ha hb).1
theorem max_u32 : IntKind.u32.max = ((4294967295 : Nat) : Int) := by decide
theorem wf_u8 {x : Int} (h : (Lit.int .u8 x).wf = true) : 0 ≤ x ∧ x < 256 := by
  simp [Lit.wf, IntKind.min, IntKind.max, IntKind.signed, IntKind.bits] at h; omega
theorem wf_u16 {x : Int} (h : (Lit.int .u16 x).wf = true) : 0 ≤ x ∧ x < 65536 := by
  simp [Lit.wf, IntKind.min, IntKind.max, IntKind.signed, IntKind.bits] at h; omega
theorem wf_u32 {x : Int} (h : (Lit.int .u32 x).wf = true) : 0 ≤ x ∧ x < 4294967296 := by
  simp [Lit.wf, IntKind.min, IntKind.max, IntKind.signed, IntKind.bits] at h; omega
theorem wf_u64 {x : Int} (h : (Lit.int .u64 x).wf = true) : 0 ≤ x ∧ x < 18446744073709551616 := by
  simp [Lit.wf, IntKind.min, IntKind.max, IntKind.signed, IntKind.bits] at h; omega
theorem wf_i64 {x : Int} (h : (Lit.int .i64 x).wf = true) : -9223372036854775808 ≤ x ∧ x < 9223372036854775808 := by
  simp [Lit.wf, IntKind.min, IntKind.max, IntKind.signed, IntKind.bits] at h; omega

theorem bless_irrefl : ∀ x : List UInt8, Op.bytesLess x x = false
  | [] => rfl
  | a :: x => by simp [Op.bytesLess, bless_irrefl x]
theorem bless_trans : ∀ x y z : List UInt8, Op.bytesLess x y = true → Op.bytesLess y z = true → Op.bytesLess x z = true
  | _, [], _, h, _ => by simp [Op.bytesLess] at h
  | _, _ :: _, [], _, h => by simp [Op.bytesLess] at h
  | [], _ :: _, _ :: _, _, _ => rfl
  | a :: x, b :: y, c :: z, h1, h2 => by
    simp only [Op.bytesLess, Bool.or_eq_true, decide_eq_true_eq, Bool.and_eq_true, beq_iff_eq] at h1 h2 ⊢
    rcases h1 with h1 | ⟨rfl, h1⟩
    · rcases h2 with h2 | ⟨rfl, h2⟩
      · exact Or.inl (UInt8.lt_trans h1 h2)
      · exact Or.inl h1
    · rcases h2 with h2 | ⟨rfl, h2⟩
      · exact Or.inl h2
      · exact Or.inr ⟨rfl, bless_trans x y z h1 h2⟩
theorem bless_total : ∀ x y : List UInt8, Op.bytesLess x y = true ∨ x = y ∨ Op.bytesLess y x = true
  | [], [] => Or.inr (Or.inl rfl)
  | [], _ :: _ => Or.inl rfl
  | _ :: _, [] => Or.inr (Or.inr rfl)
  | a :: x, b :: y => by
    simp only [Op.bytesLess, Bool.or_eq_true, decide_eq_true_eq, Bool.and_eq_true, beq_iff_eq, List.cons.injEq]
    rcases UInt8.lt_or_lt_of_ne (a := a) (b := b) |> fun h => (Classical.em (a = b)) with h | h
    · subst h
      rcases bless_total x y with h | h | h
      · exact Or.inl (Or.inr ⟨rfl, h⟩)
      · exact Or.inr (Or.inl ⟨rfl, h⟩)
      · exact Or.inr (Or.inr (Or.inr ⟨rfl, h⟩))
    · rcases UInt8.lt_or_lt_of_ne h with h | h
      · exact Or.inl (Or.inl h)
      · exact Or.inr (Or.inr (Or.inl h))

/-! ### What Norm comes to: of each key the last one, by rising key -/
def kk (l : List S27) (i : Nat) : List UInt8 := (rd_T27 l (i : Int)).f1.toList
theorem rd27_getE (l : List S27) (n : Nat) (h : n < l.length) : rd_T27 l (n : Int) = l[n] := by
  unfold rd_T27
  rw [Int.toNat_natCast, List.getD_eq_getElem?_getD, List.getElem?_eq_getElem h]; rfl
def SUp27 (l : List S27) : Prop := l.Pairwise (fun x y => Op.bytesLess x.f1.toList y.f1.toList = true)
theorem s27_ext : ∀ (x y : List S27), SUp27 x → SUp27 y → (∀ z, z ∈ x ↔ z ∈ y) → x = y
  | [], [], _, _, _ => rfl
  | [], b :: y, _, _, h => by have := (h b).2 (by simp); simp at this
  | a :: x, [], _, _, h => by have := (h a).1 (by simp); simp at this
  | a :: x, b :: y, h1, h2, h => by
    have p1 := List.pairwise_cons.1 h1
    have p2 := List.pairwise_cons.1 h2
    have e : a = b := by
      rcases List.mem_cons.1 ((h a).1 (by simp)) with e | ha
      · exact e
      rcases List.mem_cons.1 ((h b).2 (by simp)) with e | hb
      · exact e.symm
      have := nm_trans _ _ _ (p1.1 b hb) (p2.1 a ha)
      rw [bl_irrefl] at this; cases this
    subst e
    rw [s27_ext x y p1.2 p2.2 (fun z => ?_)]
    constructor
    · intro hz
      rcases List.mem_cons.1 ((h z).1 (List.mem_cons_of_mem _ hz)) with e | hz'
      · subst e
        have := p1.1 z hz
        rw [bl_irrefl] at this; cases this
      · exact hz'
    · intro hz
      rcases List.mem_cons.1 ((h z).2 (List.mem_cons_of_mem _ hz)) with e | hz'
      · subst e
        have := p2.1 z hz
        rw [bl_irrefl] at this; cases this
      · exact hz'
theorem at_idx (l : List S27) (m : Nat) (h : m < l.length) : (l.length : Int) - 1 - m = ((l.length - 1 - m : Nat) : Int) := by omega
theorem at_seen (l : List S27) : ∀ m, m ≤ l.length → ∀ s : ByteArray, Norm_seen (Norm_at l m) s = true ↔ ∃ i, i < l.length ∧ l.length ≤ i + m ∧ kk l i = s.toList
  | 0, _, s => by
    constructor
    · intro h; cases h
    · rintro ⟨i, h1, h2, _⟩; omega
  | m + 1, hm, s => by
    have ih := at_seen l m (by omega)
    rw [Norm_at, at_idx l m (by omega)]
    have ex : kk l (l.length - 1 - m) = (rd_T27 l ((l.length - 1 - m : Nat) : Int)).f1.toList := rfl
    by_cases c : Norm_seen (Norm_at l m) (rd_T27 l ((l.length - 1 - m : Nat) : Int)).f1 = true
    · rw [if_pos c]
      constructor
      · intro h
        obtain ⟨i, h1, h2, h3⟩ := (ih s).1 h
        exact ⟨i, h1, by omega, h3⟩
      · rintro ⟨i, h1, h2, h3⟩
        by_cases e : i = l.length - 1 - m
        · subst e
          obtain ⟨i', g1, g2, g3⟩ := (ih _).1 c
          exact (ih s).2 ⟨i', g1, g2, by rw [g3, ← ex, h3]⟩
        · exact (ih s).2 ⟨i, h1, by omega, h3⟩
    · rw [if_neg c, Norm_seen_snoc, Bool.or_eq_true, beq_iff_eq]
      constructor
      · rintro (h | h)
        · obtain ⟨i, h1, h2, h3⟩ := (ih s).1 h
          exact ⟨i, h1, by omega, h3⟩
        · exact ⟨l.length - 1 - m, by omega, by omega, h⟩
      · rintro ⟨i, h1, h2, h3⟩
        by_cases e : i = l.length - 1 - m
        · subst e; exact Or.inr h3
        · exact Or.inl ((ih s).2 ⟨i, h1, by omega, h3⟩)
theorem at_mem (l : List S27) : ∀ m, m ≤ l.length → ∀ z, z ∈ Norm_at l m ↔ ∃ i, i < l.length ∧ l.length ≤ i + m ∧ rd_T27 l (i : Int) = z ∧ ∀ j, i < j → j < l.length → kk l j ≠ z.f1.toList
  | 0, _, z => by
    constructor
    · intro h; cases h
    · rintro ⟨i, h1, h2, _⟩; omega
  | m + 1, hm, z => by
    have ih := at_mem l m (by omega)
    have hs := at_seen l m (by omega)
    rw [Norm_at, at_idx l m (by omega)]
    by_cases c : Norm_seen (Norm_at l m) (rd_T27 l ((l.length - 1 - m : Nat) : Int)).f1 = true
    · rw [if_pos c]
      constructor
      · intro h
        obtain ⟨i, h1, h2, h3, h4⟩ := (ih z).1 h
        exact ⟨i, h1, by omega, h3, h4⟩
      · rintro ⟨i, h1, h2, h3, h4⟩
        by_cases e : i = l.length - 1 - m
        · subst e
          obtain ⟨i', g1, g2, g3⟩ := (hs _).1 c
          rw [h3] at g3
          exact absurd g3 (h4 i' (by omega) g1)
        · exact (ih z).2 ⟨i, h1, by omega, h3, h4⟩
    · rw [if_neg c, List.mem_append, List.mem_singleton]
      constructor
      · rintro (h | h)
        · obtain ⟨i, h1, h2, h3, h4⟩ := (ih z).1 h
          exact ⟨i, h1, by omega, h3, h4⟩
        · refine ⟨l.length - 1 - m, by omega, by omega, h.symm, fun j hj hjl hk => c ((hs _).2 ⟨j, hjl, by omega, ?_⟩)⟩
          rw [hk, h]
      · rintro ⟨i, h1, h2, h3, h4⟩
        by_cases e : i = l.length - 1 - m
        · subst e; exact Or.inr h3.symm
        · exact Or.inl ((ih z).2 ⟨i, h1, by omega, h3, h4⟩)
/-- z is the last one of its key. -/
def LastOne (l : List S27) (z : S27) : Prop := ∃ i, i < l.length ∧ rd_T27 l (i : Int) = z ∧ ∀ j, i < j → j < l.length → kk l j ≠ z.f1.toList
def Normed (l N : List S27) : Prop := SUp27 N ∧ ∀ z, z ∈ N ↔ LastOne l z
theorem sort_sup (l : List S27) (hd : l.Pairwise (fun x y => (x.f1.toList == y.f1.toList) = false)) : SUp27 (Norm_sort l) := by
  have h1 := Norm_sort_up l
  have h2 : (Norm_sort l).Pairwise (fun x y => (x.f1.toList == y.f1.toList) = false) := (Norm_sort_perm l).symm.pairwise hd (fun h => by rw [beq_eq_false_iff_ne] at h ⊢; exact fun e => h e.symm)
  refine (h1.and h2).imp ?_
  intro a b h
  cases e : Op.bytesLess a.f1.toList b.f1.toList with
  | true => rfl
  | false =>
    have e1 : a.f1.toList = b.f1.toList := nm_eq e h.1
    exact absurd e1 (beq_eq_false_iff_ne.1 h.2)
def NormOf (l : List S27) : List S27 := Norm_sort (Norm_at l l.length)
theorem normed_of (l : List S27) : Normed l (NormOf l) := by
  refine ⟨sort_sup _ (Norm_at_apart l _), fun z => ?_⟩
  unfold NormOf
  rw [(Norm_sort_perm _).mem_iff, at_mem l l.length (Nat.le_refl _)]
  constructor
  · rintro ⟨i, h1, _, h3, h4⟩; exact ⟨i, h1, h3, h4⟩
  · rintro ⟨i, h1, h3, h4⟩; exact ⟨i, h1, by omega, h3, h4⟩
theorem Normed.eq {l N N' : List S27} (h : Normed l N) (h' : Normed l N') : N = N' := s27_ext N N' h.1 h'.1 (fun z => (h.2 z).trans (h'.2 z).symm)
theorem Normed.self {N : List S27} (h : SUp27 N) : Normed N N := by
  refine ⟨h, fun z => ?_⟩
  constructor
  · intro hz
    obtain ⟨i, hi, rfl⟩ := List.getElem_of_mem hz
    refine ⟨i, hi, rd27_getE N i hi, fun j hj hjl e => ?_⟩
    unfold kk at e
    rw [rd27_getE N j hjl] at e
    have := List.pairwise_iff_getElem.1 h i j hi hjl hj
    rw [e, bl_irrefl] at this; cases this
  · rintro ⟨i, hi, h1, _⟩
    rw [← h1, rd27_getE N i hi]; exact List.getElem_mem hi
theorem normOf_self {N : List S27} (h : SUp27 N) : NormOf N = N := (normed_of N).eq (Normed.self h)
theorem normOf_len (l : List S27) : (NormOf l).length ≤ l.length := by
  unfold NormOf
  rw [(Norm_sort_perm _).length_eq]; exact Norm_at_len l _
theorem LastOne.mem {l : List S27} {z : S27} (h : LastOne l z) : z ∈ l := by
  obtain ⟨i, hi, h1, _⟩ := h
  rw [← h1, rd27_getE l i hi]; exact List.getElem_mem hi
/-- Each key has a last one. -/
theorem last_ex (l : List S27) (i : Nat) (hi : i < l.length) : ∃ z, LastOne l z ∧ z.f1.toList = kk l i := by
  suffices h : ∀ d i, i + d + 1 = l.length → ∃ z, LastOne l z ∧ z.f1.toList = kk l i from h (l.length - 1 - i) i (by omega)
  intro d
  induction d using Nat.strongRecOn with
  | ind d ih =>
    intro i hd
    by_cases c : ∃ j, i < j ∧ j < l.length ∧ kk l j = kk l i
    · obtain ⟨j, h1, h2, h3⟩ := c
      obtain ⟨z, hz, e⟩ := ih (l.length - 1 - j) (by omega) j (by omega)
      exact ⟨z, hz, e.trans h3⟩
    · exact ⟨rd_T27 l (i : Int), ⟨i, by omega, rfl, fun j h1 h2 h3 => c ⟨j, h1, h2, h3⟩⟩, rfl⟩
theorem norm_ev (l : List S27) (hl : l.length ≤ 1000) (hk : ∀ x ∈ l, x.f1.size ≤ 1000000) (k : Nat) : batch_Norm.f k l = some (NormOf l) := by
  unfold batch_Norm.f NormOf
  rw [if_pos ⟨hl, List.all_eq_true.2 fun x hx => decide_eq_true (hk x hx)⟩]

/-! ### awake, SameOps -/
theorem awake8_ev : Ev iceboxlaw8_awake.f true := Ev.of (fun k => iceboxlaw8_awake.mono k) (k := 60) (by decide +kernel)

/-! ### May: what operations are told -/
def mayP (a : Int) (u v : ByteArray) : Int := if a = 1 ∨ a = 2 then (if u.size > 64 ∨ v.size > 512 then 4 else if a = 2 ∧ v.toList ≠ [] then 1 else 0) else 1
theorem may_j1 (a : Int) (u v : ByteArray) (b : Bool) (h : b = true ∨ a = 1 ∨ a = 2) : Ev (fun k => batch_may.j1 k b a u v) (if b = true then 4 else if a = 2 ∧ v.toList ≠ [] then 1 else 0) := by
  refine Ev.step (f := fun _ => some (if b = true then 4 else if a = 2 ∧ v.toList ≠ [] then 1 else 0)) (fun k => ?_) (Ev.now _)
  rw [batch_may.j1]
  by_cases c : b = true
  · rw [if_pos c, if_pos c]
  · rw [if_neg c, if_neg c]
    by_cases c2 : a = 2
    · by_cases c3 : v.toList = []
      · rw [if_pos c2, if_pos c3, if_neg (fun h => h.2 c3)]
      · rw [if_pos c2, if_neg c3, if_pos ⟨c2, c3⟩]
    · rw [if_neg c2, if_neg (fun h => c2 h.1)]
theorem may_ev (a : Int) (u v : ByteArray) : Ev (fun k => batch_may.f k a u v) (mayP a u v) := by
  have key : ∀ b : Bool, (b = false → a = 1 ∨ a = 2) → (b = true → ¬ (a = 1 ∨ a = 2)) → Ev (fun k => batch_may.j0 k b a u v) (mayP a u v) := by
    intro b h1 h2
    cases b with
    | true =>
      refine Ev.step (f := fun _ => some (mayP a u v)) (fun k => ?_) (Ev.now _)
      rw [batch_may.j0, if_pos rfl, mayP, if_neg (h2 rfl)]
    | false =>
      have h := h1 rfl
      by_cases c1 : u.size > 64
      · have := may_j1 a u v true (Or.inl rfl)
        refine Ev.step (fun k => ?_) (show Ev (fun k => batch_may.j1 k true a u v) (mayP a u v) by rw [mayP, if_pos h, if_pos (Or.inl c1)]; rw [if_pos rfl] at this; exact this)
        rw [batch_may.j0, if_neg Bool.false_ne_true, if_pos (by omega)]
      · have := may_j1 a u v (decide ((v.size : Int) > 512)) (Or.inr h)
        refine Ev.step (fun k => ?_) (show Ev (fun k => batch_may.j1 k (decide ((v.size : Int) > 512)) a u v) (mayP a u v) by
          rw [mayP, if_pos h]
          by_cases c2 : v.size > 512
          · rw [if_pos (Or.inr c2)]
            rw [decide_eq_true (show (v.size : Int) > 512 by omega)] at this ⊢
            rw [if_pos rfl] at this; exact this
          · rw [if_neg (fun hh => hh.elim c1 c2)]
            rw [decide_eq_false (show ¬ (v.size : Int) > 512 by omega)] at this ⊢
            rw [if_neg Bool.false_ne_true] at this; exact this)
        rw [batch_may.j0, if_neg Bool.false_ne_true, if_neg (by omega)]
  unfold batch_may.f
  by_cases c : a = 1
  · exact Ev.congr (fun k => by rw [if_pos c]) (key false (fun _ => Or.inl c) (fun h => by cases h))
  · refine Ev.congr (fun k => by rw [if_neg c]) (key (a != 2) (fun h => ?_) (fun h => ?_))
    · exact Or.inr (by simpa using h)
    · have : a ≠ 2 := by simpa using h
      exact fun hh => hh.elim c this
def mayGo : List S27 → Int
  | [] => 0
  | x :: t => if mayP x.f0 x.f1 x.f2 = 0 then mayGo t else mayP x.f0 x.f1 x.f2
def mayL (l : List S27) : Int := if l.length = 0 then 1 else if l.length > 32 then 4 else mayGo l
theorem mayL_l0 (l : List S27) (hl : l.length ≤ 1000000) : ∀ (d i : Nat), i + d = l.length → Ev (fun k => batch_May.l0 k l (l.length : Int) (i : Int)) (mayGo (l.drop i))
  | 0, i, hd => by
    obtain rfl : i = l.length := by omega
    rw [List.drop_length]
    refine Ev.step (f := fun _ => some 0) (fun k => ?_) (Ev.now _)
    rw [batch_May.l0, if_neg (by omega)]
  | d + 1, i, hd => by
    have hi : i < l.length := by omega
    have ew : wrap64 ((i : Int) + 1) = ((i + 1 : Nat) : Int) := by rw [w64 (by omega) (by omega)]; omega
    have ih := mayL_l0 l hl d (i + 1) (by omega)
    have e : l.drop i = rd_T27 l (i : Int) :: l.drop (i + 1) := by rw [rd27_getE l i hi, List.drop_eq_getElem_cons hi]
    rw [e, mayGo]
    refine Ev.step (fun k => by rw [batch_May.l0, if_pos (by omega), if_pos (by omega), if_pos (by omega)]) (Ev.bind (may_ev (rd_T27 l (i : Int)).f0 (rd_T27 l (i : Int)).f1 (rd_T27 l (i : Int)).f2) (f := fun k t229 => if t229 = 0 then (batch_May.l0 k l (l.length : Int) (wrap64 ((i : Int) + 1))) else (some t229)) ?_)
    by_cases c : mayP (rd_T27 l (i : Int)).f0 (rd_T27 l (i : Int)).f1 (rd_T27 l (i : Int)).f2 = 0
    · rw [if_pos c]
      exact Ev.congr (fun k => by rw [if_pos c, ew]) ih
    · rw [if_neg c]
      exact Ev.congr (fun k => by rw [if_neg c]) (Ev.now _)
theorem mayL_ev (l : List S27) (hl : l.length ≤ 1000000) : Ev (fun k => batch_May.f k l) (mayL l) := by
  unfold batch_May.f mayL
  by_cases c : l.length = 0
  · rw [if_pos c]
    exact Ev.congr (fun k => by rw [if_pos (by omega)]) (Ev.now _)
  · rw [if_neg c]
    by_cases c2 : l.length > 32
    · rw [if_pos c2]
      exact Ev.congr (fun k => by rw [if_neg (by omega), if_pos (by omega)]) (Ev.now _)
    · rw [if_neg c2]
      have h := mayL_l0 l hl l.length 0 (by omega)
      rw [List.drop_zero] at h
      exact Ev.congr (fun k => by rw [if_neg (by omega), if_neg (by omega)]; rfl) h

def kv : S27 := ⟨1, (⟨#[107]⟩ : ByteArray), (⟨#[118]⟩ : ByteArray)⟩
theorem may_kv : mayP kv.f0 kv.f1 kv.f2 = 0 := by
  have h1 : kv.f0 = 1 := rfl
  have h2 : kv.f1.size = 1 := rfl
  have h3 : kv.f2.size = 1 := rfl
  unfold mayP
  rw [h1, h2, h3]
  rw [if_pos (Or.inl rfl), if_neg (by omega), if_neg (fun h => by have := h.1; omega)]
theorem mayGo_kv : ∀ n, mayGo (List.replicate n kv) = 0
  | 0 => rfl
  | n + 1 => by rw [List.replicate_succ, mayGo, if_pos may_kv]; exact mayGo_kv n
theorem mayGo_set (x : S27) : ∀ n i, i < n → mayGo ((List.replicate n kv).set i x) = mayP x.f0 x.f1 x.f2
  | n + 1, 0, _ => by
    rw [List.replicate_succ, List.set_cons_zero, mayGo, mayGo_kv]
    by_cases c : mayP x.f0 x.f1 x.f2 = 0
    · rw [if_pos c, c]
    · rw [if_neg c]
  | n + 1, i + 1, h => by
    rw [List.replicate_succ, List.set_cons_succ, mayGo, if_pos may_kv]; exact mayGo_set x n i (by omega)
theorem awk (P : Nat → Option Bool) (h : ∀ k, P k = (iceboxlaw8_awake.f k).bind fun t => some t) : Ev P true :=
  Ev.congr h (Ev.bind awake8_ev (f := fun k t => some t) (Ev.now _))
theorem bm_j5 (t : Int) (b : Bool) (h : t = if b = true then 1 else 0) : Ev (fun k => iceboxlaw8_BatchMay.j5 k t 0 b) true := by
  refine Ev.step (f := fun k => (iceboxlaw8_awake.f k).bind fun t => some t) (fun k => ?_) (Ev.bind awake8_ev (f := fun k t => some t) (Ev.now _))
  rw [iceboxlaw8_BatchMay.j5]
  unfold iceboxlaw1_Num.f
  simp only [Option.bind_some]
  cases b with
  | true => rw [if_pos rfl] at h ⊢; rw [if_pos h]
  | false => rw [if_neg Bool.false_ne_true] at h ⊢; rw [if_pos h]
theorem bm_j4 (l : List S27) (i : Nat) (hi : i < l.length) (t : Int) (b : Bool) (ha : (rd_T27 l (i : Int)).f0 = 1 ∨ (rd_T27 l (i : Int)).f0 = 2) (h : t = if b = true then 4 else if (rd_T27 l (i : Int)).f0 = 2 ∧ (rd_T27 l (i : Int)).f2.toList ≠ [] then 1 else 0) : Ev (fun k => iceboxlaw8_BatchMay.j4 k l (i : Int) t 0 b) true := by
  cases b with
  | true =>
    rw [if_pos rfl] at h
    refine Ev.step (f := fun k => (iceboxlaw8_awake.f k).bind fun t => some t) (fun k => ?_) (Ev.bind awake8_ev (f := fun k t => some t) (Ev.now _))
    rw [iceboxlaw8_BatchMay.j4, if_pos rfl]
    unfold iceboxlaw1_Num.f
    simp only [Option.bind_some]
    rw [if_pos h]
  | false =>
    rw [if_neg Bool.false_ne_true] at h
    by_cases c : (rd_T27 l (i : Int)).f0 = 2
    · refine Ev.step (fun k => ?_) (bm_j5 t ((rd_T27 l (i : Int)).f2.toList != ([] : List UInt8)) ?_)
      · rw [iceboxlaw8_BatchMay.j4, if_neg Bool.false_ne_true, if_pos (by omega), if_pos (by omega), if_pos c]
      · by_cases c2 : (rd_T27 l (i : Int)).f2.toList = []
        · rw [if_neg (fun hh => hh.2 c2)] at h
          rw [h, c2]; rfl
        · rw [if_pos ⟨c, c2⟩] at h
          rw [h, if_pos (by simpa using c2)]
    · refine Ev.step (fun k => ?_) (bm_j5 t false ?_)
      · rw [iceboxlaw8_BatchMay.j4, if_neg Bool.false_ne_true, if_pos (by omega), if_pos (by omega), if_neg c]
      · rw [if_neg (fun hh => c hh.1)] at h; exact h
theorem bm_j3 (l : List S27) (i : Nat) (hi : i < l.length) (t : Int) (b : Bool) (hb : b = true ↔ ¬ ((rd_T27 l (i : Int)).f0 = 1 ∨ (rd_T27 l (i : Int)).f0 = 2)) (h : t = mayP (rd_T27 l (i : Int)).f0 (rd_T27 l (i : Int)).f1 (rd_T27 l (i : Int)).f2) : Ev (fun k => iceboxlaw8_BatchMay.j3 k l (i : Int) t 0 b) true := by
  unfold mayP at h
  cases b with
  | true =>
    rw [if_neg (hb.1 rfl)] at h
    refine Ev.step (f := fun k => (iceboxlaw8_awake.f k).bind fun t => some t) (fun k => ?_) (Ev.bind awake8_ev (f := fun k t => some t) (Ev.now _))
    rw [iceboxlaw8_BatchMay.j3, if_pos rfl]
    unfold iceboxlaw1_Num.f
    simp only [Option.bind_some]
    rw [if_pos h]
  | false =>
    have ha : (rd_T27 l (i : Int)).f0 = 1 ∨ (rd_T27 l (i : Int)).f0 = 2 := Classical.byContradiction fun hn => Bool.false_ne_true (hb.2 hn)
    rw [if_pos ha] at h
    by_cases c : (rd_T27 l (i : Int)).f1.size > 64
    · rw [if_pos (Or.inl c)] at h
      refine Ev.step (fun k => ?_) (bm_j4 l i hi t true ha (by rw [if_pos rfl]; exact h))
      rw [iceboxlaw8_BatchMay.j3, if_neg Bool.false_ne_true, if_pos (by omega), if_pos (by omega), if_pos (by omega)]
    · refine Ev.step (fun k => ?_) (bm_j4 l i hi t (decide (((rd_T27 l (i : Int)).f2.size : Int) > 512)) ha ?_)
      · rw [iceboxlaw8_BatchMay.j3, if_neg Bool.false_ne_true, if_pos (by omega), if_pos (by omega), if_neg (by omega)]
      · by_cases c2 : (rd_T27 l (i : Int)).f2.size > 512
        · rw [if_pos (Or.inr c2)] at h
          rw [if_pos (decide_eq_true (by omega))]; exact h
        · rw [if_neg (fun hh => hh.elim c c2)] at h
          rw [if_neg (by rw [decide_eq_false (by omega)]; exact Bool.false_ne_true)]; exact h
theorem bm_j2 (x1 x2 x3 x4 : Int) (q : Nat) (h1 : 0 ≤ x1 ∧ x1 < 256) (h2 : 0 ≤ x2 ∧ x2 < 65536) (h3 : 0 ≤ x3 ∧ x3 < 256) (h4 : 0 ≤ x4 ∧ x4 < 256) (hq : q < 40) (b : Bool) (hb : b = true ↔ q = 0 ∨ q > 32) : Ev (fun k => iceboxlaw8_BatchMay.j2 k x1 x2 x3 x4 (q : Int) (List.replicate q kv) b) true := by
  cases b with
  | true =>
    refine Ev.step (f := fun k => (iceboxlaw8_awake.f k).bind fun t => some t) (fun k => ?_) (Ev.bind awake8_ev (f := fun k t => some t) (Ev.now _))
    rw [iceboxlaw8_BatchMay.j2, if_pos rfl]
  | false =>
    have hq2 : ¬ (q = 0 ∨ q > 32) := fun h => Bool.false_ne_true (hb.2 h)
    have e1 : Int.tmod (wrap64 x1) 80 = ((x1.toNat % 80 : Nat) : Int) := by rw [w64 (by omega) (by omega), Int.tmod_eq_emod_of_nonneg (by omega)]; omega
    have e2 : Int.tmod (wrap64 x2) 600 = ((x2.toNat % 600 : Nat) : Int) := by rw [w64 (by omega) (by omega), Int.tmod_eq_emod_of_nonneg (by omega)]; omega
    have e3 : Int.tmod (wrap64 x3) 4 = ((x3.toNat % 4 : Nat) : Int) := by rw [w64 (by omega) (by omega), Int.tmod_eq_emod_of_nonneg (by omega)]; omega
    have e4 : Int.tmod (wrap64 x4) (q : Int) = ((x4.toNat % q : Nat) : Int) := by
      rw [w64 (by omega) (by omega), Int.tmod_eq_emod_of_nonneg (by omega), Int.natCast_emod, Int.toNat_of_nonneg h4.1]
    obtain ⟨i, ei⟩ : ∃ i, i = x4.toNat % q := ⟨_, rfl⟩
    have hi : i < q := by rw [ei]; exact Nat.mod_lt _ (by omega)
    obtain ⟨X, eX⟩ : ∃ X : S27, X = ⟨((x3.toNat % 4 : Nat) : Int), strOfNums (List.replicate (x1.toNat % 80) 0), strOfNums (List.replicate (x2.toNat % 600) 0)⟩ := ⟨_, rfl⟩
    obtain ⟨Y, eY⟩ : ∃ Y, Y = (List.replicate q kv).set i X := ⟨_, rfl⟩
    have hYl : Y.length = q := by rw [eY, List.length_set, List.length_replicate]
    have hYi : rd_T27 Y (i : Int) = X := by
      rw [rd27_getE Y i (by omega)]
      simp only [eY, List.getElem_set_self]
    have hm : mayL Y = mayP X.f0 X.f1 X.f2 := by
      unfold mayL
      rw [if_neg (by omega), if_neg (by omega), eY]; exact mayGo_set X q i hi
    have hmE := mayL_ev Y (by omega)
    rw [hm] at hmE
    refine Ev.step (f := fun k => (batch_May.f k Y).bind fun t305 => (if ((rd_T27 Y (i : Int)).f0) = 0 then (iceboxlaw8_BatchMay.j3 k Y (i : Int) t305 0 true) else (iceboxlaw8_BatchMay.j3 k Y (i : Int) t305 0 (((rd_T27 Y (i : Int)).f0) == 3)))) (fun k => ?_) ?_
    · rw [iceboxlaw8_BatchMay.j2, if_neg Bool.false_ne_true, if_neg (by omega), e1, e2, e3, e4, ← ei]
      rw [if_pos (by omega), if_pos (by omega), if_pos (by omega), if_pos (by omega), if_pos (by omega), if_pos (by rw [List.length_replicate]; omega), Option.bind_some, Int.toNat_natCast, Int.toNat_natCast, Int.toNat_natCast, ← eX, ← eY]
    refine Ev.bind hmE (f := fun k t305 => (if ((rd_T27 Y (i : Int)).f0) = 0 then (iceboxlaw8_BatchMay.j3 k Y (i : Int) t305 0 true) else (iceboxlaw8_BatchMay.j3 k Y (i : Int) t305 0 (((rd_T27 Y (i : Int)).f0) == 3)))) ?_
    have hX0 : X.f0 = ((x3.toNat % 4 : Nat) : Int) := by rw [eX]
    have hr : X.f0 = 0 ∨ X.f0 = 1 ∨ X.f0 = 2 ∨ X.f0 = 3 := by rw [hX0]; omega
    by_cases c : X.f0 = 0
    · refine Ev.congr (fun k => by rw [hYi, if_pos c]) (bm_j3 Y i (by omega) _ true ?_ (by rw [hYi]))
      rw [hYi]; exact ⟨fun _ => by omega, fun _ => rfl⟩
    · refine Ev.congr (fun k => by rw [hYi, if_neg c]) (bm_j3 Y i (by omega) _ (X.f0 == 3) ?_ (by rw [hYi]))
      rw [hYi, beq_iff_eq]
      omega
theorem bm_l0 (x1 x2 x3 x4 : Int) (q : Nat) (h1 : 0 ≤ x1 ∧ x1 < 256) (h2 : 0 ≤ x2 ∧ x2 < 65536) (h3 : 0 ≤ x3 ∧ x3 < 256) (h4 : 0 ≤ x4 ∧ x4 < 256) (hq : q < 40) : ∀ (d i : Nat), i + d = q → Ev (fun k => iceboxlaw8_BatchMay.l0 k x1 x2 x3 x4 (q : Int) (List.replicate i kv) (i : Int)) true
  | d + 1, i, hd => by
    have ih := bm_l0 x1 x2 x3 x4 q h1 h2 h3 h4 hq d (i + 1) (by omega)
    have ew : wrap64 ((i : Int) + 1) = ((i + 1 : Nat) : Int) := by rw [w64 (by omega) (by omega)]; omega
    refine Ev.step (fun k => ?_) ih
    rw [iceboxlaw8_BatchMay.l0, if_pos (by omega), if_pos (by rw [List.length_replicate]; omega), ew, List.replicate_succ']; rfl
  | 0, i, hd => by
    obtain rfl : i = q := by omega
    have hm := mayL_ev (List.replicate i kv) (by rw [List.length_replicate]; omega)
    have hml : mayL (List.replicate i kv) = if i = 0 then 1 else if i > 32 then 4 else 0 := by
      unfold mayL; rw [List.length_replicate, mayGo_kv]
    rw [hml] at hm
    have hj1 : Ev (fun k => iceboxlaw8_BatchMay.j1 k x1 x2 x3 x4 (i : Int) (List.replicate i kv) false) true := by
      by_cases c : i = 0
      · refine Ev.step (fun k => ?_) (bm_j2 x1 x2 x3 x4 i h1 h2 h3 h4 hq true ⟨fun _ => Or.inl c, fun _ => rfl⟩)
        rw [iceboxlaw8_BatchMay.j1, if_neg Bool.false_ne_true, if_pos (by omega)]
      · refine Ev.step (fun k => ?_) (bm_j2 x1 x2 x3 x4 i h1 h2 h3 h4 hq (decide ((i : Int) > 32)) ?_)
        · rw [iceboxlaw8_BatchMay.j1, if_neg Bool.false_ne_true, if_neg (by omega)]
        · rw [decide_eq_true_eq]; omega
    obtain ⟨K, hK⟩ := hm
    obtain ⟨K2, hK2⟩ := hj1
    refine ⟨max K K2 + 1, fun k hk => ?_⟩
    obtain ⟨k', rfl⟩ : ∃ k', k = k' + 1 := ⟨k - 1, by omega⟩
    have e1 := hK k' (by omega)
    have e2 := hK2 k' (by omega)
    dsimp only at e1 e2
    show iceboxlaw8_BatchMay.l0 (k' + 1) x1 x2 x3 x4 (i : Int) (List.replicate i kv) (i : Int) = some true
    rw [iceboxlaw8_BatchMay.l0, if_neg (by omega), e1, Option.bind_some]
    unfold iceboxlaw1_Num.f
    simp only [Option.bind_some]
    by_cases c0 : i = 0
    · subst c0
      rw [if_neg (by decide), if_pos rfl, if_neg (by decide), if_pos (by decide), if_pos rfl, if_neg (by decide)]
      exact e2
    · rw [if_neg c0] at e1 ⊢
      rw [if_pos (by omega)]
      by_cases c32 : i > 32
      · rw [if_pos c32, decide_eq_false (show ¬ (i : Int) ≤ 32 by omega), if_neg (by decide), if_neg (by omega), if_pos (by omega)]
        exact e2
      · rw [if_neg c32, decide_eq_true (show (i : Int) ≤ 32 by omega), if_neg (by decide), if_neg (by omega), if_neg (by omega)]
        exact e2
theorem BatchMay : iceboxlaw8_BatchMay.Pure := by
  intro a0 a1 a2 a3 a4 w0 w1 w2 w3 w4
  have g0 := wf_u8 w0
  apply Ev.rounds
  unfold iceboxlaw8_BatchMay.f
  have e : Int.tmod (wrap64 a0) 40 = ((a0.toNat % 40 : Nat) : Int) := by rw [w64 (by omega) (by omega), Int.tmod_eq_emod_of_nonneg (by omega)]; omega
  rw [e]
  exact bm_l0 a1 a2 a3 a4 (a0.toNat % 40) (wf_u8 w1) (wf_u16 w2) (wf_u8 w3) (wf_u8 w4) (by omega) (a0.toNat % 40) 0 (by omega)

end Go.Proofs.Ytgannkfpfhdhjaa.Pure
