/- The pure statement of the law BatchNorm: over the Lean functions that the Go code was shown to compute, the law answers true for every input within the statement's own bounds. No further conditions. -/
import Derived.Test.YtgannkfpfhdhjaaPBatchNormx2
import Derived.Test.YtgannkfpfhdhjaaPBatchNormx3
import Derived.Test.YtgannkfpfhdhjaaPBatchNormx4
import Derived.Test.YtgannkfpfhdhjaaPBatchNormx5
namespace Go.Proofs.Ytgannkfpfhdhjaa.Pure
open Go.RowKit Go.Proofs.Ytgannkfpfhdhjaa.PBatchNorm Go.Proofs.YtgannkfpfhdhjaaW.PrintWords Go.Proofs.YtgannkfpfhdhjaaW.PrintLast Go.Proofs.YtgannkfpfhdhjaaW.PrintMore
set_option linter.unusedVariables false
set_option linter.unusedSimpArgs false

theorem w64 {x : Int} (h0 : -9223372036854775808 ≤ x) (h1 : x < 9223372036854775808) : wrap64 x = x := by
  unfold wrap64; omega
theorem bits_xor_nat (k : IntKind) (j : Nat) (hj : j ≤ k.bits) (hk : ∀ n : Int, 0 ≤ n → n < 2 ^ j → k.wrap n = n) (a b : Nat) (ha : a < 2 ^ j) (hb : b < 2 ^ j) :
    Go.bits .xor k a b = ((a ^^^ b : Nat) : Int) := by
  have hp : 2 ^ j ≤ 2 ^ k.bits := Nat.pow_le_pow_right (by decide) hj
  have ha' : a % 2 ^ k.bits = a := Nat.mod_eq_of_lt (Nat.lt_of_lt_of_le ha hp)
  have hb' : b % 2 ^ k.bits = b := Nat.mod_eq_of_lt (Nat.lt_of_lt_of_le hb hp)
  simp only [Go.bits, BitVec.ofInt_natCast, BitVec.toNat_xor, BitVec.toNat_ofNat, ha', hb']
  exact hk _ (Int.natCast_nonneg _) (by exact_mod_cast Nat.xor_lt_two_pow ha hb)
theorem wr_u32 (n : Int) (h₀ : 0 ≤ n) (h₁ : n < 2 ^ 32) : IntKind.u32.wrap n = n := by rw [IntKind.wrap_u32]; omega
theorem wr_u8 (n : Int) (h₀ : 0 ≤ n) (h₁ : n < 2 ^ 8) : IntKind.u8.wrap n = n := by rw [IntKind.wrap_u8]; omega
theorem wr_i64 (n : Int) (h₀ : 0 ≤ n) (h₁ : n < 2 ^ 63) : IntKind.i64.wrap n = n := by rw [IntKind.wrap_i64]; omega
theorem wr_u64 (n : Int) : IntKind.u64.wrap n = n % 18446744073709551616 := by simp [IntKind.wrap, IntKind.bits, IntKind.signed]
theorem bx_u32 (a b : Nat) (ha : a < 2 ^ 32) (hb : b < 2 ^ 32) : Go.bits .xor .u32 a b = ((a ^^^ b : Nat) : Int) := bits_xor_nat .u32 32 (by decide) wr_u32 a b ha hb
theorem bx_u8 (a b : Nat) (ha : a < 2 ^ 8) (hb : b < 2 ^ 8) : Go.bits .xor .u8 a b = ((a ^^^ b : Nat) : Int) := bits_xor_nat .u8 8 (by decide) wr_u8 a b ha hb
theorem bx_i64 (a b : Nat) (ha : a < 2 ^ 63) (hb : b < 2 ^ 63) : Go.bits .xor .i64 a b = ((a ^^^ b : Nat) : Int) := bits_xor_nat .i64 63 (by decide) wr_i64 a b ha hb
theorem bo_i64 (a b : Nat) (ha : a < 2 ^ 63) (hb : b < 2 ^ 63) : Go.bits .or .i64 a b = ((a ||| b : Nat) : Int) := (bits_nat .i64 63 (by decide) wr_i64 a b ha hb).2
theorem bo_u8 (a b : Nat) (ha : a < 2 ^ 8) (hb : b < 2 ^ 8) : Go.bits .or .u8 a b = ((a ||| b : Nat) : Int) := (bits_nat .u8 8 (by decide) wr_u8 a b ha hb).2
theorem ba_u8 (a b : Nat) (ha : a < 2 ^ 8) (hb : b < 2 ^ 8) : Go.bits .and .u8 a b = ((a &&& b : Nat) : Int) := (bits_nat .u8 8 (by decide) wr_u8 a b ha hb).1
theorem ba_u32 (a b : Nat) (ha : a < 2 ^ 32) (hb : b < 2 ^ 32) : Go.bits .and .u32 a b = ((a &&& b : Nat) : Int) := (bits_nat .u32 32 (by decide) wr_u32 a b ha hb).1
theorem max_u32 : IntKind.u32.max = ((4294967295 : Nat) : Int) := by decide
theorem wf_u8 {x : Int} (h : (Lit.int .u8 x).wf = true) : 0 ≤ x ∧ x < 256 := by
  simp [Lit.wf, IntKind.min, IntKind.max, IntKind.signed, IntKind.bits] at h; omega
theorem wf_u16 {x : Int} (h : (Lit.int .u16 x).wf = true) : 0 ≤ x ∧ x < 65536 := by
  simp [Lit.wf, IntKind.min, IntKind.max, IntKind.signed, IntKind.bits] at h; omega
theorem wf_u32 {x : Int} (h : (Lit.int .u32 x).wf = true) : 0 ≤ x ∧ x < 4294967296 := by
  simp [Lit.wf, IntKind.min, IntKind.max, IntKind.signed, IntKind.bits] at h; omega
theorem wf_u64 {x : Int} (h : (Lit.int .u64 x).wf = true) : 0 ≤ x ∧ x < 18446744073709551616 := by
  simp [Lit.wf, IntKind.min, IntKind.max, IntKind.signed, IntKind.bits] at h; omega
theorem wf_i64 {x : Int} (h : (Lit.int .i64 x).wf = true) : -9223372036854775808 ≤ x ∧ x < 9223372036854775808 := by
  simp [Lit.wf, IntKind.min, IntKind.max, IntKind.signed, IntKind.bits] at h; omega

theorem bless_irrefl : ∀ x : List UInt8, Op.bytesLess x x = false
  | [] => rfl
  | a :: x => by simp [Op.bytesLess, bless_irrefl x]
theorem bless_trans : ∀ x y z : List UInt8, Op.bytesLess x y = true → Op.bytesLess y z = true → Op.bytesLess x z = true
  | _, [], _, h, _ => by simp [Op.bytesLess] at h
  | _, _ :: _, [], _, h => by simp [Op.bytesLess] at h
  | [], _ :: _, _ :: _, _, _ => rfl
  | a :: x, b :: y, c :: z, h1, h2 => by
    simp only [Op.bytesLess, Bool.or_eq_true, decide_eq_true_eq, Bool.and_eq_true, beq_iff_eq] at h1 h2 ⊢
    rcases h1 with h1 | ⟨rfl, h1⟩
    · rcases h2 with h2 | ⟨rfl, h2⟩
      · exact Or.inl (UInt8.lt_trans h1 h2)
      · exact Or.inl h1
    · rcases h2 with h2 | ⟨rfl, h2⟩
      · exact Or.inl h2
      · exact Or.inr ⟨rfl, bless_trans x y z h1 h2⟩
theorem bless_total : ∀ x y : List UInt8, Op.bytesLess x y = true ∨ x = y ∨ Op.bytesLess y x = true
  | [], [] => Or.inr (Or.inl rfl)
  | [], _ :: _ => Or.inl rfl
  | _ :: _, [] => Or.inr (Or.inr rfl)
  | a :: x, b :: y => by
    simp only [Op.bytesLess, Bool.or_eq_true, decide_eq_true_eq, Bool.and_eq_true, beq_iff_eq, List.cons.injEq]
    rcases UInt8.lt_or_lt_of_ne (a := a) (b := b) |> fun h => (Classical.em (a = b)) with h | h
    · subst h
      rcases bless_total x y with h | h | h
      · exact Or.inl (Or.inr ⟨rfl, h⟩)
      · exact Or.inr (Or.inl ⟨rfl, h⟩)
      · exact Or.inr (Or.inr (Or.inr ⟨rfl, h⟩))
    · rcases UInt8.lt_or_lt_of_ne h with h | h
      · exact Or.inl (Or.inl h)
      · exact Or.inr (Or.inr (Or.inl h))

/-! ### What Norm comes to: of each key the last one, by rising key -/
def kk (l : List S27) (i : Nat) : List UInt8 := (rd_T27 l (i : Int)).f1.toList
theorem rd27_getE (l : List S27) (n : Nat) (h : n < l.length) : rd_T27 l (n : Int) = l[n] := by
  unfold rd_T27
  rw [Int.toNat_natCast, List.getD_eq_getElem?_getD, List.getElem?_eq_getElem h]; rfl
def SUp27 (l : List S27) : Prop := l.Pairwise (fun x y => Op.bytesLess x.f1.toList y.f1.toList = true)
theorem s27_ext : ∀ (x y : List S27), SUp27 x → SUp27 y → (∀ z, z ∈ x ↔ z ∈ y) → x = y
  | [], [], _, _, _ => rfl
  | [], b :: y, _, _, h => by have := (h b).2 (by simp); simp at this
  | a :: x, [], _, _, h => by have := (h a).1 (by simp); simp at this
  | a :: x, b :: y, h1, h2, h => by
    have p1 := List.pairwise_cons.1 h1
    have p2 := List.pairwise_cons.1 h2
    have e : a = b := by
      rcases List.mem_cons.1 ((h a).1 (by simp)) with e | ha
      · exact e
      rcases List.mem_cons.1 ((h b).2 (by simp)) with e | hb
      · exact e.symm
      have := nm_trans _ _ _ (p1.1 b hb) (p2.1 a ha)
      rw [bl_irrefl] at this; cases this
    subst e
    rw [s27_ext x y p1.2 p2.2 (fun z => ?_)]
    constructor
    · intro hz
      rcases List.mem_cons.1 ((h z).1 (List.mem_cons_of_mem _ hz)) with e | hz'
      · subst e
        have := p1.1 z hz
        rw [bl_irrefl] at this; cases this
      · exact hz'
    · intro hz
      rcases List.mem_cons.1 ((h z).2 (List.mem_cons_of_mem _ hz)) with e | hz'
      · subst e
        have := p2.1 z hz
        rw [bl_irrefl] at this; cases this
      · exact hz'
theorem at_idx (l : List S27) (m : Nat) (h : m < l.length) : (l.length : Int) - 1 - m = ((l.length - 1 - m : Nat) : Int) := by omega
theorem at_seen (l : List S27) : ∀ m, m ≤ l.length → ∀ s : ByteArray, Norm_seen (Norm_at l m) s = true ↔ ∃ i, i < l.length ∧ l.length ≤ i + m ∧ kk l i = s.toList
  | 0, _, s => by
    constructor
    · intro h; cases h
    · rintro ⟨i, h1, h2, _⟩; omega
  | m + 1, hm, s => by
    have ih := at_seen l m (by omega)
    rw [Norm_at, at_idx l m (by omega)]
    have ex : kk l (l.length - 1 - m) = (rd_T27 l ((l.length - 1 - m : Nat) : Int)).f1.toList := rfl
    by_cases c : Norm_seen (Norm_at l m) (rd_T27 l ((l.length - 1 - m : Nat) : Int)).f1 = true
    · rw [if_pos c]
      constructor
      · intro h
        obtain ⟨i, h1, h2, h3⟩ := (ih s).1 h
        exact ⟨i, h1, by omega, h3⟩
      · rintro ⟨i, h1, h2, h3⟩
        by_cases e : i = l.length - 1 - m
        · subst e
          obtain ⟨i', g1, g2, g3⟩ := (ih _).1 c
          exact (ih s).2 ⟨i', g1, g2, by rw [g3, ← ex, h3]⟩
        · exact (ih s).2 ⟨i, h1, by omega, h3⟩
    · rw [if_neg c, Norm_seen_snoc, Bool.or_eq_true, beq_iff_eq]
      constructor
      · rintro (h | h)
        · obtain ⟨i, h1, h2, h3⟩ := (ih s).1 h
          exact ⟨i, h1, by omega, h3⟩
        · exact ⟨l.length - 1 - m, by omega, by omega, h⟩
      · rintro ⟨i, h1, h2, h3⟩
        by_cases e : i = l.length - 1 - m
        · subst e; exact Or.inr h3
        · exact Or.inl ((ih s).2 ⟨i, h1, by omega, h3⟩)
theorem at_mem (l : List S27) : ∀ m, m ≤ l.length → ∀ z, z ∈ Norm_at l m ↔ ∃ i, i < l.length ∧ l.length ≤ i + m ∧ rd_T27 l (i : Int) = z ∧ ∀ j, i < j → j < l.length → kk l j ≠ z.f1.toList
  | 0, _, z => by
    constructor
    · intro h; cases h
    · rintro ⟨i, h1, h2, _⟩; omega
  | m + 1, hm, z => by
    have ih := at_mem l m (by omega)
    have hs := at_seen l m (by omega)
    rw [Norm_at, at_idx l m (by omega)]
    by_cases c : Norm_seen (Norm_at l m) (rd_T27 l ((l.length - 1 - m : Nat) : Int)).f1 = true
    · rw [if_pos c]
      constructor
      · intro h
        obtain ⟨i, h1, h2, h3, h4⟩ := (ih z).1 h
        exact ⟨i, h1, by omega, h3, h4⟩
      · rintro ⟨i, h1, h2, h3, h4⟩
        by_cases e : i = l.length - 1 - m
        · subst e
          obtain ⟨i', g1, g2, g3⟩ := (hs _).1 c
          rw [h3] at g3
          exact absurd g3 (h4 i' (by omega) g1)
        · exact (ih z).2 ⟨i, h1, by omega, h3, h4⟩
    · rw [if_neg c, List.mem_append, List.mem_singleton]
      constructor
      · rintro (h | h)
        · obtain ⟨i, h1, h2, h3, h4⟩ := (ih z).1 h
          exact ⟨i, h1, by omega, h3, h4⟩
        · refine ⟨l.length - 1 - m, by omega, by omega, h.symm, fun j hj hjl hk => c ((hs _).2 ⟨j, hjl, by omega, ?_⟩)⟩
          rw [hk, h]
      · rintro ⟨i, h1, h2, h3, h4⟩
        by_cases e : i = l.length - 1 - m
        · subst e; exact Or.inr h3.symm
        · exact Or.inl ((ih z).2 ⟨i, h1, by omega, h3, h4⟩)
/-- z is the last one of its key. -/
def LastOne (l : List S27) (z : S27) : Prop := ∃ i, i < l.length ∧ rd_T27 l (i : Int) = z ∧ ∀ j, i < j → j < l.length → kk l j ≠ z.f1.toList
def Normed (l N : List S27) : Prop := SUp27 N ∧ ∀ z, z ∈ N ↔ LastOne l z
theorem sort_sup (l : List S27) (hd : l.Pairwise (fun x y => (x.f1.toList == y.f1.toList) = false)) : SUp27 (Norm_sort l) := by
  have h1 := Norm_sort_up l
  have h2 : (Norm_sort l).Pairwise (fun x y => (x.f1.toList == y.f1.toList) = false) := (Norm_sort_perm l).symm.pairwise hd (fun h => by rw [beq_eq_false_iff_ne] at h ⊢; exact fun e => h e.symm)
  refine (h1.and h2).imp ?_
  intro a b h
  cases e : Op.bytesLess a.f1.toList b.f1.toList with
  | true => rfl
  | false =>
    have e1 : a.f1.toList = b.f1.toList := nm_eq e h.1
    exact absurd e1 (beq_eq_false_iff_ne.1 h.2)
def NormOf (l : List S27) : List S27 := Norm_sort (Norm_at l l.length)
theorem normed_of (l : List S27) : Normed l (NormOf l) := by
  refine ⟨sort_sup _ (Norm_at_apart l _), fun z => ?_⟩
  unfold NormOf
  rw [(Norm_sort_perm _).mem_iff, at_mem l l.length (Nat.le_refl _)]
  constructor
  · rintro ⟨i, h1, _, h3, h4⟩; exact ⟨i, h1, h3, h4⟩
  · rintro ⟨i, h1, h3, h4⟩; exact ⟨i, h1, by omega, h3, h4⟩
theorem Normed.eq {l N N' : List S27} (h : Normed l N) (h' : Normed l N') : N = N' := s27_ext N N' h.1 h'.1 (fun z => (h.2 z).trans (h'.2 z).symm)
theorem Normed.self {N : List S27} (h : SUp27 N) : Normed N N := by
  refine ⟨h, fun z => ?_⟩
  constructor
  · intro hz
    obtain ⟨i, hi, rfl⟩ := List.getElem_of_mem hz
    refine ⟨i, hi, rd27_getE N i hi, fun j hj hjl e => ?_⟩
    unfold kk at e
    rw [rd27_getE N j hjl] at e
    have := List.pairwise_iff_getElem.1 h i j hi hjl hj
    rw [e, bl_irrefl] at this; cases this
  · rintro ⟨i, hi, h1, _⟩
    rw [← h1, rd27_getE N i hi]; exact List.getElem_mem hi
theorem normOf_self {N : List S27} (h : SUp27 N) : NormOf N = N := (normed_of N).eq (Normed.self h)
theorem normOf_len (l : List S27) : (NormOf l).length ≤ l.length := by
  unfold NormOf
  rw [(Norm_sort_perm _).length_eq]; exact Norm_at_len l _
theorem LastOne.mem {l : List S27} {z : S27} (h : LastOne l z) : z ∈ l := by
  obtain ⟨i, hi, h1, _⟩ := h
  rw [← h1, rd27_getE l i hi]; exact List.getElem_mem hi
/-- Each key has a last one. -/
theorem last_ex (l : List S27) (i : Nat) (hi : i < l.length) : ∃ z, LastOne l z ∧ z.f1.toList = kk l i := by
  suffices h : ∀ d i, i + d + 1 = l.length → ∃ z, LastOne l z ∧ z.f1.toList = kk l i from h (l.length - 1 - i) i (by omega)
  intro d
  induction d using Nat.strongRecOn with
  | ind d ih =>
    intro i hd
    by_cases c : ∃ j, i < j ∧ j < l.length ∧ kk l j = kk l i
    · obtain ⟨j, h1, h2, h3⟩ := c
      obtain ⟨z, hz, e⟩ := ih (l.length - 1 - j) (by omega) j (by omega)
      exact ⟨z, hz, e.trans h3⟩
    · exact ⟨rd_T27 l (i : Int), ⟨i, by omega, rfl, fun j h1 h2 h3 => c ⟨j, h1, h2, h3⟩⟩, rfl⟩
theorem norm_ev (l : List S27) (hl : l.length ≤ 1000) (hk : ∀ x ∈ l, x.f1.size ≤ 1000000) (k : Nat) : batch_Norm.f k l = some (NormOf l) := by
  unfold batch_Norm.f NormOf
  rw [if_pos ⟨hl, List.all_eq_true.2 fun x hx => decide_eq_true (hk x hx)⟩]

/-! ### Great: more than a statement goes through? -/
theorem great_no (l : List S27) (i : Nat) (h : ¬ ((i : Int) < (l.length : Int) ∧ (i : Int) < 80)) : Ev (fun k => iceboxlaw8_Great.l0 k l (i : Int)) (decide ((l.length : Int) > 60)) := by
  refine Ev.step (f := fun k => iceboxlaw8_Great.j1 k l (i : Int) false) (fun k => ?_) (Ev.step (f := fun _ => some (decide ((l.length : Int) > 60))) (fun k => by rw [iceboxlaw8_Great.j1, if_neg Bool.false_ne_true]) (Ev.now _))
  by_cases p2 : (i : Int) < (l.length : Int)
  · rw [iceboxlaw8_Great.l0, if_pos p2, decide_eq_false (fun c => h ⟨p2, c⟩)]
  · rw [iceboxlaw8_Great.l0, if_neg p2]
theorem great_at (l : List S27) : ∀ (d i : Nat), i + d = 80 → (Ev (fun k => iceboxlaw8_Great.l0 k l (i : Int)) true) ∨ (Ev (fun k => iceboxlaw8_Great.l0 k l (i : Int)) false ∧ l.length ≤ 60 ∧ ∀ j : Nat, i ≤ j → j < l.length → (rd_T27 l (j : Int)).f1.size ≤ 1000 ∧ (rd_T27 l (j : Int)).f2.size ≤ 1000)
  | 0, i, hd => by
    have h := great_no l i (by omega)
    by_cases c : (l.length : Int) > 60
    · rw [decide_eq_true c] at h; exact Or.inl h
    · rw [decide_eq_false c] at h; exact Or.inr ⟨h, by omega, fun j h1 h2 => by omega⟩
  | d + 1, i, hd => by
    by_cases p2 : (i : Int) < (l.length : Int)
    case neg =>
      have h := great_no l i (fun h => p2 h.1)
      by_cases c : (l.length : Int) > 60
      · rw [decide_eq_true c] at h; exact Or.inl h
      · rw [decide_eq_false c] at h; exact Or.inr ⟨h, by omega, fun j h1 h2 => by omega⟩
    have q1 : i + 1 + d = 80 := by omega
    have p1 : (0 : Int) ≤ (i : Int) := by omega
    have c : (i : Int) < 80 := by omega
    have e2 : wrap64 ((i : Int) + 1) = ((i + 1 : Nat) : Int) := by rw [w64 (by omega) (by omega)]; omega
    have hb := great_at l d (i + 1) q1
    by_cases c1 : ((rd_T27 l (i : Int)).f1.size : Int) > 1000
    · refine Or.inl (Ev.step (f := fun k => iceboxlaw8_Great.j1 k l (i : Int) true) (fun k => by rw [iceboxlaw8_Great.l0, if_pos p2, decide_eq_true c]) (Ev.step (f := fun _ => some true) (fun k => ?_) (Ev.now _)))
      rw [iceboxlaw8_Great.j1, if_pos rfl, if_pos p1, if_pos p2, if_pos c1]
    · by_cases c2 : ((rd_T27 l (i : Int)).f2.size : Int) > 1000
      · refine Or.inl (Ev.step (f := fun k => iceboxlaw8_Great.j1 k l (i : Int) true) (fun k => by rw [iceboxlaw8_Great.l0, if_pos p2, decide_eq_true c]) (Ev.step (f := fun _ => some true) (fun k => ?_) (Ev.now _)))
        rw [iceboxlaw8_Great.j1, if_pos rfl, if_pos p1, if_pos p2, if_neg c1, if_pos c2]
      · have st : ∀ b, Ev (fun k => iceboxlaw8_Great.l0 k l ((i + 1 : Nat) : Int)) b → Ev (fun k => iceboxlaw8_Great.l0 k l (i : Int)) b := by
          intro b hb
          refine Ev.step (f := fun k => iceboxlaw8_Great.j1 k l (i : Int) true) (fun k => by rw [iceboxlaw8_Great.l0, if_pos p2, decide_eq_true c]) (Ev.step (fun k => ?_) hb)
          rw [iceboxlaw8_Great.j1, if_pos rfl, if_pos p1, if_pos p2, if_neg c1, if_neg c2, e2]
        rcases hb with hb | ⟨hb, h1, h2⟩
        · exact Or.inl (st _ hb)
        · refine Or.inr ⟨st _ hb, h1, fun j g1 g2 => ?_⟩
          rcases Nat.eq_or_lt_of_le g1 with e | e
          · subst e; omega
          · exact h2 j e g2
theorem great27 (l : List S27) : (Ev (fun k => iceboxlaw8_Great.f k l) true) ∨ (Ev (fun k => iceboxlaw8_Great.f k l) false ∧ l.length ≤ 60 ∧ ∀ x ∈ l, x.f1.size ≤ 1000 ∧ x.f2.size ≤ 1000) := by
  rcases great_at l 80 0 (by omega) with h | ⟨h, h1, h2⟩
  · exact Or.inl h
  · refine Or.inr ⟨h, h1, fun x hx => ?_⟩
    obtain ⟨i, hi, rfl⟩ := List.getElem_of_mem hx
    have := h2 i (Nat.zero_le _) hi
    rw [rd27_getE l i hi] at this
    exact this

/-! ### awake, SameOps -/
theorem awake8_ev : Ev iceboxlaw8_awake.f true := Ev.of (fun k => iceboxlaw8_awake.mono k) (k := 60) (by decide +kernel)

theorem same27_ev (l : List S27) (hb : l.length ≤ 1000000) (d : Nat) : ∀ (i : Nat), i + d = l.length → Ev (fun k => iceboxref1_SameOps.l0 k l l (i : Int)) true := by
  induction d with
  | zero =>
    intro i hd
    refine Ev.step (f := fun _ => some true) (fun k => ?_) (Ev.now _)
    rw [iceboxref1_SameOps.l0, if_neg (by omega)]
  | succ d ih =>
    intro i hd
    have p0 : (0 : Int) ≤ (i : Int) := by omega
    have p1 : (i : Int) < (l.length : Int) := by omega
    have h := ih (i + 1) (by omega)
    refine Ev.step (fun k => ?_) h
    have ew : wrap64 ((i : Int) + 1) = ((i + 1 : Nat) : Int) := by rw [w64 (by omega) (by omega)]; omega
    rw [iceboxref1_SameOps.l0, if_pos p1, if_pos p0, if_pos p1]
    simp only [beq_self_eq_true, Bool.not_true, Bool.or_self]
    rw [if_neg Bool.false_ne_true, ew]
theorem same27f_ev (l : List S27) (hb : l.length ≤ 1000000) : Ev (fun k => iceboxref1_SameOps.f k l l) true := by
  refine Ev.congr (fun k => ?_) (same27_ev l hb l.length 0 (by omega))
  rw [iceboxref1_SameOps.f, if_pos rfl]; rfl

def lastI (l : List S27) (s : List UInt8) : Nat → Int
  | 0 => -1
  | m + 1 => if kk l m = s then (m : Int) else lastI l s m
theorem lastI_spec (l : List S27) (s : List UInt8) (i : Nat) (hi : kk l i = s) (hl : ∀ j, i < j → j < l.length → kk l j ≠ s) : ∀ m, i < m → m ≤ l.length → lastI l s m = (i : Int)
  | 0, h, _ => by omega
  | m + 1, h, hm => by
    rw [lastI]
    by_cases e : m = i
    · subst e; rw [if_pos hi]
    · rw [if_neg (hl m (by omega) (by omega)), lastI_spec l s i hi hl m (by omega) (by omega)]
theorem bn_l1 (l N : List S27) (hl : l.length ≤ 60) (i : Nat) (hi : i < N.length) (h : Ev (fun k => iceboxlaw8_BatchNorm.l1 k l N (i : Int) (lastI l (kk N i) l.length) (l.length : Int)) true) : ∀ (d m : Nat), m + d = l.length → Ev (fun k => iceboxlaw8_BatchNorm.l1 k l N (i : Int) (lastI l (kk N i) m) (m : Int)) true
  | 0, m, hd => by
    obtain rfl : m = l.length := by omega
    exact h
  | d + 1, m, hd => by
    have ih := bn_l1 l N hl i hi h d (m + 1) (by omega)
    have p1 : (m : Int) < (l.length : Int) := by omega
    have ew : wrap64 ((m : Int) + 1) = ((m + 1 : Nat) : Int) := by rw [w64 (by omega) (by omega)]; omega
    refine Ev.step (fun k => ?_) ih
    rw [iceboxlaw8_BatchNorm.l1, if_pos p1, if_pos (by omega), if_pos (by omega), if_pos (by omega), ew]
    show (if kk l m = kk N i then _ else _) = _
    rw [lastI]
    by_cases e : kk l m = kk N i
    · rw [if_pos e, if_pos e]
    · rw [if_neg e, if_neg e]
theorem bn_l0 (l N : List S27) (hl : l.length ≤ 60) (hN : Normed l N) (hNl : N.length ≤ 60) (h : Ev (fun k => iceboxlaw8_BatchNorm.l2 k l N 0) true) : ∀ (d i : Nat), i + d = N.length → Ev (fun k => iceboxlaw8_BatchNorm.l0 k l N (i : Int)) true
  | 0, i, hd => by
    refine Ev.step (fun k => ?_) h
    rw [iceboxlaw8_BatchNorm.l0, if_neg (by omega)]
  | d + 1, i, hd => by
    have ih := bn_l0 l N hl hN hNl h d (i + 1) (by omega)
    have hi : i < N.length := by omega
    have p1 : (i : Int) < (N.length : Int) := by omega
    have ew : wrap64 ((i : Int) + 1) = ((i + 1 : Nat) : Int) := by rw [w64 (by omega) (by omega)]; omega
    obtain ⟨x, hx, e1, e2⟩ := (hN.2 (rd_T27 N (i : Int))).1 (by rw [rd27_getE N i hi]; exact List.getElem_mem hi)
    have ek : kk l x = kk N i := by unfold kk; rw [e1]
    have el := lastI_spec l (kk N i) x ek (fun j h1 h2 => e2 j h1 h2) l.length hx (Nat.le_refl _)
    refine Ev.step (fun k => ?_) (bn_l1 l N hl i hi ?_ l.length 0 (by omega))
    · rw [iceboxlaw8_BatchNorm.l0, if_pos p1]; rfl
    · refine Ev.step (fun k => ?_) ih
      rw [el, iceboxlaw8_BatchNorm.l1, if_neg (Int.lt_irrefl _)]
      by_cases c : (i : Int) > 0
      · have ew2 : wrap64 ((i : Int) - 1) = ((i - 1 : Nat) : Int) := by rw [w64 (by omega) (by omega)]; omega
        have hb : Op.bytesLess (rd_T27 N ((i - 1 : Nat) : Int)).f1.toList (rd_T27 N (i : Int)).f1.toList = true := by
          rw [rd27_getE N (i - 1) (by omega), rd27_getE N i hi]
          exact List.pairwise_iff_getElem.1 hN.1 (i - 1) i (by omega) hi (by omega)
        rw [if_pos c, ew2, if_pos (by omega), if_pos (by omega), if_pos (by omega), if_pos p1, if_pos hb, if_neg (by omega), if_pos (by omega), if_pos (by omega), e1, ew]
        simp only [beq_self_eq_true, Bool.not_true, Bool.or_self]
        rw [if_neg Bool.false_ne_true]
      · rw [if_neg c, if_neg (by omega), if_pos (by omega), if_pos (by omega), if_pos (by omega), if_pos p1, e1, ew]
        simp only [beq_self_eq_true, Bool.not_true, Bool.or_self]
        rw [if_neg Bool.false_ne_true]
theorem bn_l3 (l N : List S27) (hl : l.length ≤ 60) (hNl : N.length ≤ 60) (m : Nat) (hm : m < l.length) (h : Ev (fun k => iceboxlaw8_BatchNorm.l2 k l N ((m + 1 : Nat) : Int)) true) : ∀ (d i : Nat) (b : Bool), i + d = N.length → (b = true ∨ ∃ j, i ≤ j ∧ j < N.length ∧ kk N j = kk l m) → Ev (fun k => iceboxlaw8_BatchNorm.l3 k l N (m : Int) b (i : Int)) true
  | 0, i, b, hd, hb => by
    have eb : b = true := by
      rcases hb with hb | ⟨j, h1, h2, _⟩
      · exact hb
      · omega
    have ew : wrap64 ((m : Int) + 1) = ((m + 1 : Nat) : Int) := by rw [w64 (by omega) (by omega)]; omega
    refine Ev.step (fun k => ?_) h
    rw [iceboxlaw8_BatchNorm.l3, if_neg (by omega), if_pos eb, ew]
  | d + 1, i, b, hd, hb => by
    have p1 : (i : Int) < (N.length : Int) := by omega
    have ew : wrap64 ((i : Int) + 1) = ((i + 1 : Nat) : Int) := by rw [w64 (by omega) (by omega)]; omega
    cases b with
    | true =>
      refine Ev.step (fun k => ?_) (bn_l3 l N hl hNl m hm h d (i + 1) true (by omega) (Or.inl rfl))
      rw [iceboxlaw8_BatchNorm.l3, if_pos p1, if_pos rfl, ew]
    | false =>
      refine Ev.step (fun k => ?_) (bn_l3 l N hl hNl m hm h d (i + 1) ((rd_T27 N (i : Int)).f1.toList == (rd_T27 l (m : Int)).f1.toList) (by omega) ?_)
      · rw [iceboxlaw8_BatchNorm.l3, if_pos p1, if_neg Bool.false_ne_true, if_pos (by omega), if_pos (by omega), if_pos (by omega), ew]
      · rcases hb with hb | ⟨j, h1, h2, h3⟩
        · cases hb
        by_cases e : j = i
        · subst e; exact Or.inl (beq_iff_eq.2 h3)
        · exact Or.inr ⟨j, by omega, h2, h3⟩
theorem bn_l2 (l N : List S27) (hl : l.length ≤ 60) (hN : Normed l N) (hNl : N.length ≤ 60) (hs : ∀ x ∈ N, x.f1.size ≤ 1000000) : ∀ (d m : Nat), m + d = l.length → Ev (fun k => iceboxlaw8_BatchNorm.l2 k l N (m : Int)) true
  | 0, m, hd => by
    have en : NormOf N = N := normOf_self hN.1
    refine Ev.step (f := fun k => (batch_Norm.f k N).bind fun t303 => ((iceboxref1_SameOps.f k t303 N).bind fun t306 => (if t306 = true then ((iceboxlaw8_awake.f k).bind fun t307 => (some t307)) else (some false)))) (fun k => ?_) ?_
    · rw [iceboxlaw8_BatchNorm.l2, if_neg (by omega)]
    refine Ev.congr (fun k => by rw [norm_ev N (by omega) hs k, en, Option.bind_some]) ?_
    refine Ev.bind (same27f_ev N (by omega)) (f := fun k t306 => if t306 = true then ((iceboxlaw8_awake.f k).bind fun t307 => (some t307)) else (some false)) ?_
    refine Ev.congr (fun k => by rw [if_pos rfl]) (Ev.bind awake8_ev (f := fun k t => some t) (Ev.now _))
  | d + 1, m, hd => by
    have ih := bn_l2 l N hl hN hNl hs d (m + 1) (by omega)
    obtain ⟨z, hz, ez⟩ := last_ex l m (by omega)
    have hzN := (hN.2 z).2 hz
    obtain ⟨j, hj, ej⟩ := List.getElem_of_mem hzN
    have hk : kk N j = kk l m := by unfold kk; rw [rd27_getE N j hj, ej, ez]; rfl
    refine Ev.step (fun k => ?_) (bn_l3 l N hl hNl m (by omega) ih N.length 0 false (by omega) (Or.inr ⟨j, Nat.zero_le _, hj, hk⟩))
    rw [iceboxlaw8_BatchNorm.l2, if_pos (by omega)]; rfl
theorem BatchNorm : iceboxlaw8_BatchNorm.Pure := by
  intro l _ hwf
  apply Ev.rounds
  unfold iceboxlaw8_BatchNorm.f
  rcases great27 l with hg | ⟨hg, hl, hk⟩
  · refine Ev.bind hg (f := fun k t290 => if t290 = true then ((iceboxlaw8_awake.f k).bind fun t291 => (some t291)) else ((batch_Norm.f k l).bind fun t292 => (iceboxlaw8_BatchNorm.l0 k l t292 0))) ?_
    exact Ev.congr (fun k => by rw [if_pos rfl]) (Ev.bind awake8_ev (f := fun k t => some t) (Ev.now _))
  · have hN := normed_of l
    have hNl : (NormOf l).length ≤ 60 := Nat.le_trans (normOf_len l) hl
    have hs : ∀ x ∈ NormOf l, x.f1.size ≤ 1000000 := fun x hx => by have := hk x ((hN.2 x).1 hx).mem; omega
    refine Ev.bind hg (f := fun k t290 => if t290 = true then ((iceboxlaw8_awake.f k).bind fun t291 => (some t291)) else ((batch_Norm.f k l).bind fun t292 => (iceboxlaw8_BatchNorm.l0 k l t292 0))) ?_
    refine Ev.congr (fun k => ?_) (bn_l0 l (NormOf l) hl hN hNl (bn_l2 l (NormOf l) hl hN hNl hs l.length 0 (by omega)) (NormOf l).length 0 (by omega))
    rw [if_neg Bool.false_ne_true, norm_ev l (by omega) (fun x hx => by have := hk x hx; omega) k, Option.bind_some]; rfl

end Go.Proofs.Ytgannkfpfhdhjaa.Pure
