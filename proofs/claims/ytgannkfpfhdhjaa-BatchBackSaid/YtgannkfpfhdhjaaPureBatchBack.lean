/- The pure statement of the law BatchBack: over the Lean functions that the Go code was shown to compute, the law answers true for every input within the statement's own bounds. No further conditions. -/
import Derived.Test.YtgannkfpfhdhjaaPBatchBackx2
import Derived.Test.YtgannkfpfhdhjaaPBatchBackx3
import Derived.Test.YtgannkfpfhdhjaaPBatchBackx4
import Derived.Test.YtgannkfpfhdhjaaPBatchBackx5
import Derived.Test.YtgannkfpfhdhjaaPBatchBackx6
import Derived.Test.YtgannkfpfhdhjaaPBatchBackx7
namespace Go.Proofs.Ytgannkfpfhdhjaa.Pure
open Go.RowKit Go.Proofs.Ytgannkfpfhdhjaa.PBatchBack Go.Proofs.YtgannkfpfhdhjaaW.PrintWords Go.Proofs.YtgannkfpfhdhjaaW.PrintLast Go.Proofs.YtgannkfpfhdhjaaW.PrintMore
set_option linter.unusedVariables false
set_option linter.unusedSimpArgs false

theorem w64 {x : Int} (h0 : -9223372036854775808 ≤ x) (h1 : x < 9223372036854775808) : wrap64 x = x := by
  unfold wrap64; omega
theorem bits_xor_nat (k : IntKind) (j : Nat) (hj : j ≤ k.bits) (hk : ∀ n : Int, 0 ≤ n → n < 2 ^ j → k.wrap n = n) (a b : Nat) (ha : a < 2 ^ j) (hb : b < 2 ^ j) :
    Go.bits .xor k a b = ((a ^^^ b : Nat) : Int) := by
  have hp : 2 ^ j ≤ 2 ^ k.bits := Nat.pow_le_pow_right (by decide) hj
  have ha' : a % 2 ^ k.bits = a := Nat.mod_eq_of_lt (Nat.lt_of_lt_of_le ha hp)
  have hb' : b % 2 ^ k.bits = b := Nat.mod_eq_of_lt (Nat.lt_of_lt_of_le hb hp)
  simp only [Go.bits, BitVec.ofInt_natCast, BitVec.toNat_xor, BitVec.toNat_ofNat, ha', hb']
  exact hk _ (Int.natCast_nonneg _) (by exact_mod_cast Nat.xor_lt_two_pow ha hb)
theorem wr_u32 (n : Int) (h₀ : 0 ≤ n) (h₁ : n < 2 ^ 32) : IntKind.u32.wrap n = n := by rw [IntKind.wrap_u32]; omega
theorem wr_u8 (n : Int) (h₀ : 0 ≤ n) (h₁ : n < 2 ^ 8) : IntKind.u8.wrap n = n := by rw [IntKind.wrap_u8]; omega
theorem wr_i64 (n : Int) (h₀ : 0 ≤ n) (h₁ : n < 2 ^ 63) : IntKind.i64.wrap n = n := by rw [IntKind.wrap_i64]; omega
theorem wr_u64 (n : Int) : IntKind.u64.wrap n = n % 18446744073709551616 := by simp [IntKind.wrap, IntKind.bits, IntKind.signed]
theorem bx_u32 (a b : Nat) (ha : a < 2 ^ 32) (hb : b < 2 ^ 32) : Go.bits .xor .u32 a b = ((a ^^^ b : Nat) : Int) := bits_xor_nat .u32 32 (by decide) wr_u32 a b ha hb
theorem bx_u8 (a b : Nat) (ha : a < 2 ^ 8) (hb : b < 2 ^ 8) : Go.bits .xor .u8 a b = ((a ^^^ b : Nat) : Int) := bits_xor_nat .u8 8 (by decide) wr_u8 a b ha hb
theorem bx_i64 (a b : Nat) (ha : a < 2 ^ 63) (hb : b < 2 ^ 63) : Go.bits .xor .i64 a b = ((a ^^^ b : Nat) : Int) := bits_xor_nat .i64 63 (by decide) wr_i64 a b ha hb
theorem bo_i64 (a b : Nat) (ha : a < 2 ^ 63) (hb : b < 2 ^ 63) : Go.bits .or .i64 a b = ((a ||| b : Nat) : Int) := (bits_nat .i64 63 (by decide) wr_i64 a b ha hb).2
theorem bo_u8 (a b : Nat) (ha : a < 2 ^ 8) (hb : b < 2 ^ 8) : Go.bits .or .u8 a b = ((a ||| b : Nat) : Int) := (bits_nat .u8 8 (by decide) wr_u8 a b ha hb).2
theorem ba_u8 (a b : Nat) (ha : a < 2 ^ 8) (hb : b < 2 ^ 8) : Go.bits .and .u8 a b = ((a &&& b : Nat) : Int) := (bits_nat .u8 8 (by decide) wr_u8 a b ha hb).1
theorem ba_u32 (a b : Nat) (ha : a < 2 ^ 32) (hb : b < 2 ^ 32) : Go.bits .and .u32 a b = ((a &&& b : Nat) : Int) := (bits_nat .u32 32 (by decide) wr_u32 a b ha hb).1
theorem max_u32 : IntKind.u32.max = ((4294967295 : Nat) : Int) := by decide
theorem wf_u8 {x : Int} (h : (Lit.int .u8 x).wf = true) : 0 ≤ x ∧ x < 256 := by
  simp [Lit.wf, IntKind.min, IntKind.max, IntKind.signed, IntKind.bits] at h; omega
theorem wf_u16 {x : Int} (h : (Lit.int .u16 x).wf = true) : 0 ≤ x ∧ x < 65536 := by
  simp [Lit.wf, IntKind.min, IntKind.max, IntKind.signed, IntKind.bits] at h; omega
theorem wf_u32 {x : Int} (h : (Lit.int .u32 x).wf = true) : 0 ≤ x ∧ x < 4294967296 := by
  simp [Lit.wf, IntKind.min, IntKind.max, IntKind.signed, IntKind.bits] at h; omega
theorem wf_u64 {x : Int} (h : (Lit.int .u64 x).wf = true) : 0 ≤ x ∧ x < 18446744073709551616 := by
  simp [Lit.wf, IntKind.min, IntKind.max, IntKind.signed, IntKind.bits] at h; omega
theorem wf_i64 {x : Int} (h : (Lit.int .i64 x).wf = true) : -9223372036854775808 ≤ x ∧ x < 9223372036854775808 := by
  simp [Lit.wf, IntKind.min, IntKind.max, IntKind.signed, IntKind.bits] at h; omega

theorem bless_irrefl : ∀ x : List UInt8, Op.bytesLess x x = false
  | [] => rfl
  | a :: x => by simp [Op.bytesLess, bless_irrefl x]
theorem bless_trans : ∀ x y z : List UInt8, Op.bytesLess x y = true → Op.bytesLess y z = true → Op.bytesLess x z = true
  | _, [], _, h, _ => by simp [Op.bytesLess] at h
  | _, _ :: _, [], _, h => by simp [Op.bytesLess] at h
  | [], _ :: _, _ :: _, _, _ => rfl
  | a :: x, b :: y, c :: z, h1, h2 => by
    simp only [Op.bytesLess, Bool.or_eq_true, decide_eq_true_eq, Bool.and_eq_true, beq_iff_eq] at h1 h2 ⊢
    rcases h1 with h1 | ⟨rfl, h1⟩
    · rcases h2 with h2 | ⟨rfl, h2⟩
      · exact Or.inl (UInt8.lt_trans h1 h2)
      · exact Or.inl h1
    · rcases h2 with h2 | ⟨rfl, h2⟩
      · exact Or.inl h2
      · exact Or.inr ⟨rfl, bless_trans x y z h1 h2⟩
theorem bless_total : ∀ x y : List UInt8, Op.bytesLess x y = true ∨ x = y ∨ Op.bytesLess y x = true
  | [], [] => Or.inr (Or.inl rfl)
  | [], _ :: _ => Or.inl rfl
  | _ :: _, [] => Or.inr (Or.inr rfl)
  | a :: x, b :: y => by
    simp only [Op.bytesLess, Bool.or_eq_true, decide_eq_true_eq, Bool.and_eq_true, beq_iff_eq, List.cons.injEq]
    rcases UInt8.lt_or_lt_of_ne (a := a) (b := b) |> fun h => (Classical.em (a = b)) with h | h
    · subst h
      rcases bless_total x y with h | h | h
      · exact Or.inl (Or.inr ⟨rfl, h⟩)
      · exact Or.inr (Or.inl ⟨rfl, h⟩)
      · exact Or.inr (Or.inr (Or.inr ⟨rfl, h⟩))
    · rcases UInt8.lt_or_lt_of_ne h with h | h
      · exact Or.inl (Or.inl h)
      · exact Or.inr (Or.inr (Or.inl h))

def ints (l : List Nat) : List Int := l.map fun n : Nat => (n : Int)
theorem ints_length (l : List Nat) : (ints l).length = l.length := by unfold ints; simp
theorem ints_append (a b : List Nat) : ints (a ++ b) = ints a ++ ints b := by unfold ints; simp
def nats (l : List Int) : List Nat := l.map Int.toNat
def Bytes (l : List Int) : Prop := ∀ x ∈ l, 0 ≤ x ∧ x < 256
theorem bytes_wf {l : List Int} (h : ∀ x ∈ l, (Lit.int .u8 x).wf = true) : Bytes l := fun x hx => wf_u8 (h x hx)
theorem nats_length (l : List Int) : (nats l).length = l.length := by unfold nats; simp
theorem nats_ints (l : List Nat) : nats (ints l) = l := by
  unfold nats ints; rw [List.map_map]
  conv => rhs; rw [← List.map_id l]
  apply List.map_congr_left; intro a _; simp
theorem ints_nats {l : List Int} (h : Bytes l) : ints (nats l) = l := by
  unfold nats ints; rw [List.map_map]
  conv => rhs; rw [← List.map_id l]
  apply List.map_congr_left; intro a ha
  have := h a ha
  simp; omega
theorem nats_lt {l : List Int} (h : Bytes l) : ∀ c ∈ nats l, c < 256 := by
  intro c hc
  obtain ⟨x, hx, rfl⟩ := List.mem_map.1 hc
  have := h x hx; omega
theorem ints_bytes {l : List Nat} (h : ∀ c ∈ l, c < 256) : Bytes (ints l) := by
  intro x hx
  obtain ⟨c, hc, rfl⟩ := List.mem_map.1 hx
  have := h c hc; omega
theorem nats_append (a b : List Int) : nats (a ++ b) = nats a ++ nats b := by unfold nats; simp
theorem nats_take (l : List Int) (n : Nat) : nats (l.take n) = (nats l).take n := by unfold nats; rw [List.map_take]
theorem nats_drop (l : List Int) (n : Nat) : nats (l.drop n) = (nats l).drop n := by unfold nats; rw [List.map_drop]
theorem rd_at {l : List Int} {i : Nat} (h : i < l.length) : rd l (i : Int) = l[i] := by
  unfold rd; simp [h]
theorem rd_byte {l : List Int} {i : Nat} (h : i < l.length) (hb : Bytes l) : ∃ c : Nat, rd l (i : Int) = c ∧ c < 256 ∧ (nats l).drop i = c :: (nats l).drop (i + 1) := by
  have := hb l[i] (List.getElem_mem h)
  have h2 : i < (nats l).length := by rw [nats_length]; exact h
  refine ⟨l[i].toNat, by rw [rd_at h]; omega, by omega, ?_⟩
  rw [List.drop_eq_getElem_cons h2]
  have h4 : i < (l.map Int.toNat).length := h2
  have h3 : (l.map Int.toNat)[i]'h4 = l[i].toNat := by rw [List.getElem_map]
  rw [← h3]; rfl

/-! ### What Norm comes to: of each key the last one, by rising key -/
def kk (l : List S27) (i : Nat) : List UInt8 := (rd_T27 l (i : Int)).f1.toList
theorem rd27_getE (l : List S27) (n : Nat) (h : n < l.length) : rd_T27 l (n : Int) = l[n] := by
  unfold rd_T27
  rw [Int.toNat_natCast, List.getD_eq_getElem?_getD, List.getElem?_eq_getElem h]; rfl
def SUp27 (l : List S27) : Prop := l.Pairwise (fun x y => Op.bytesLess x.f1.toList y.f1.toList = true)
theorem s27_ext : ∀ (x y : List S27), SUp27 x → SUp27 y → (∀ z, z ∈ x ↔ z ∈ y) → x = y
  | [], [], _, _, _ => rfl
  | [], b :: y, _, _, h => by have := (h b).2 (by simp); simp at this
  | a :: x, [], _, _, h => by have := (h a).1 (by simp); simp at this
  | a :: x, b :: y, h1, h2, h => by
    have p1 := List.pairwise_cons.1 h1
    have p2 := List.pairwise_cons.1 h2
    have e : a = b := by
      rcases List.mem_cons.1 ((h a).1 (by simp)) with e | ha
      · exact e
      rcases List.mem_cons.1 ((h b).2 (by simp)) with e | hb
      · exact e.symm
      have := nm_trans _ _ _ (p1.1 b hb) (p2.1 a ha)
      rw [bl_irrefl] at this; cases this
    subst e
    rw [s27_ext x y p1.2 p2.2 (fun z => ?_)]
    constructor
    · intro hz
      rcases List.mem_cons.1 ((h z).1 (List.mem_cons_of_mem _ hz)) with e | hz'
      · subst e
        have := p1.1 z hz
        rw [bl_irrefl] at this; cases this
      · exact hz'
    · intro hz
      rcases List.mem_cons.1 ((h z).2 (List.mem_cons_of_mem _ hz)) with e | hz'
      · subst e
        have := p2.1 z hz
        rw [bl_irrefl] at this; cases this
      · exact hz'
theorem at_idx (l : List S27) (m : Nat) (h : m < l.length) : (l.length : Int) - 1 - m = ((l.length - 1 - m : Nat) : Int) := by omega
theorem at_seen (l : List S27) : ∀ m, m ≤ l.length → ∀ s : ByteArray, Norm_seen (Norm_at l m) s = true ↔ ∃ i, i < l.length ∧ l.length ≤ i + m ∧ kk l i = s.toList
  | 0, _, s => by
    constructor
    · intro h; cases h
    · rintro ⟨i, h1, h2, _⟩; omega
  | m + 1, hm, s => by
    have ih := at_seen l m (by omega)
    rw [Norm_at, at_idx l m (by omega)]
    have ex : kk l (l.length - 1 - m) = (rd_T27 l ((l.length - 1 - m : Nat) : Int)).f1.toList := rfl
    by_cases c : Norm_seen (Norm_at l m) (rd_T27 l ((l.length - 1 - m : Nat) : Int)).f1 = true
    · rw [if_pos c]
      constructor
      · intro h
        obtain ⟨i, h1, h2, h3⟩ := (ih s).1 h
        exact ⟨i, h1, by omega, h3⟩
      · rintro ⟨i, h1, h2, h3⟩
        by_cases e : i = l.length - 1 - m
        · subst e
          obtain ⟨i', g1, g2, g3⟩ := (ih _).1 c
          exact (ih s).2 ⟨i', g1, g2, by rw [g3, ← ex, h3]⟩
        · exact (ih s).2 ⟨i, h1, by omega, h3⟩
    · rw [if_neg c, Norm_seen_snoc, Bool.or_eq_true, beq_iff_eq]
      constructor
      · rintro (h | h)
        · obtain ⟨i, h1, h2, h3⟩ := (ih s).1 h
          exact ⟨i, h1, by omega, h3⟩
        · exact ⟨l.length - 1 - m, by omega, by omega, h⟩
      · rintro ⟨i, h1, h2, h3⟩
        by_cases e : i = l.length - 1 - m
        · subst e; exact Or.inr h3
        · exact Or.inl ((ih s).2 ⟨i, h1, by omega, h3⟩)
theorem at_mem (l : List S27) : ∀ m, m ≤ l.length → ∀ z, z ∈ Norm_at l m ↔ ∃ i, i < l.length ∧ l.length ≤ i + m ∧ rd_T27 l (i : Int) = z ∧ ∀ j, i < j → j < l.length → kk l j ≠ z.f1.toList
  | 0, _, z => by
    constructor
    · intro h; cases h
    · rintro ⟨i, h1, h2, _⟩; omega
  | m + 1, hm, z => by
    have ih := at_mem l m (by omega)
    have hs := at_seen l m (by omega)
    rw [Norm_at, at_idx l m (by omega)]
    by_cases c : Norm_seen (Norm_at l m) (rd_T27 l ((l.length - 1 - m : Nat) : Int)).f1 = true
    · rw [if_pos c]
      constructor
      · intro h
        obtain ⟨i, h1, h2, h3, h4⟩ := (ih z).1 h
        exact ⟨i, h1, by omega, h3, h4⟩
      · rintro ⟨i, h1, h2, h3, h4⟩
        by_cases e : i = l.length - 1 - m
        · subst e
          obtain ⟨i', g1, g2, g3⟩ := (hs _).1 c
          rw [h3] at g3
          exact absurd g3 (h4 i' (by omega) g1)
        · exact (ih z).2 ⟨i, h1, by omega, h3, h4⟩
    · rw [if_neg c, List.mem_append, List.mem_singleton]
      constructor
      · rintro (h | h)
        · obtain ⟨i, h1, h2, h3, h4⟩ := (ih z).1 h
          exact ⟨i, h1, by omega, h3, h4⟩
        · refine ⟨l.length - 1 - m, by omega, by omega, h.symm, fun j hj hjl hk => c ((hs _).2 ⟨j, hjl, by omega, ?_⟩)⟩
          rw [hk, h]
      · rintro ⟨i, h1, h2, h3, h4⟩
        by_cases e : i = l.length - 1 - m
        · subst e; exact Or.inr h3.symm
        · exact Or.inl ((ih z).2 ⟨i, h1, by omega, h3, h4⟩)
/-- z is the last one of its key. -/
def LastOne (l : List S27) (z : S27) : Prop := ∃ i, i < l.length ∧ rd_T27 l (i : Int) = z ∧ ∀ j, i < j → j < l.length → kk l j ≠ z.f1.toList
def Normed (l N : List S27) : Prop := SUp27 N ∧ ∀ z, z ∈ N ↔ LastOne l z
theorem sort_sup (l : List S27) (hd : l.Pairwise (fun x y => (x.f1.toList == y.f1.toList) = false)) : SUp27 (Norm_sort l) := by
  have h1 := Norm_sort_up l
  have h2 : (Norm_sort l).Pairwise (fun x y => (x.f1.toList == y.f1.toList) = false) := (Norm_sort_perm l).symm.pairwise hd (fun h => by rw [beq_eq_false_iff_ne] at h ⊢; exact fun e => h e.symm)
  refine (h1.and h2).imp ?_
  intro a b h
  cases e : Op.bytesLess a.f1.toList b.f1.toList with
  | true => rfl
  | false =>
    have e1 : a.f1.toList = b.f1.toList := nm_eq e h.1
    exact absurd e1 (beq_eq_false_iff_ne.1 h.2)
def NormOf (l : List S27) : List S27 := Norm_sort (Norm_at l l.length)
theorem normed_of (l : List S27) : Normed l (NormOf l) := by
  refine ⟨sort_sup _ (Norm_at_apart l _), fun z => ?_⟩
  unfold NormOf
  rw [(Norm_sort_perm _).mem_iff, at_mem l l.length (Nat.le_refl _)]
  constructor
  · rintro ⟨i, h1, _, h3, h4⟩; exact ⟨i, h1, h3, h4⟩
  · rintro ⟨i, h1, h3, h4⟩; exact ⟨i, h1, by omega, h3, h4⟩
theorem Normed.eq {l N N' : List S27} (h : Normed l N) (h' : Normed l N') : N = N' := s27_ext N N' h.1 h'.1 (fun z => (h.2 z).trans (h'.2 z).symm)
theorem Normed.self {N : List S27} (h : SUp27 N) : Normed N N := by
  refine ⟨h, fun z => ?_⟩
  constructor
  · intro hz
    obtain ⟨i, hi, rfl⟩ := List.getElem_of_mem hz
    refine ⟨i, hi, rd27_getE N i hi, fun j hj hjl e => ?_⟩
    unfold kk at e
    rw [rd27_getE N j hjl] at e
    have := List.pairwise_iff_getElem.1 h i j hi hjl hj
    rw [e, bl_irrefl] at this; cases this
  · rintro ⟨i, hi, h1, _⟩
    rw [← h1, rd27_getE N i hi]; exact List.getElem_mem hi
theorem normOf_self {N : List S27} (h : SUp27 N) : NormOf N = N := (normed_of N).eq (Normed.self h)
theorem normOf_len (l : List S27) : (NormOf l).length ≤ l.length := by
  unfold NormOf
  rw [(Norm_sort_perm _).length_eq]; exact Norm_at_len l _
theorem LastOne.mem {l : List S27} {z : S27} (h : LastOne l z) : z ∈ l := by
  obtain ⟨i, hi, h1, _⟩ := h
  rw [← h1, rd27_getE l i hi]; exact List.getElem_mem hi
/-- Each key has a last one. -/
theorem last_ex (l : List S27) (i : Nat) (hi : i < l.length) : ∃ z, LastOne l z ∧ z.f1.toList = kk l i := by
  suffices h : ∀ d i, i + d + 1 = l.length → ∃ z, LastOne l z ∧ z.f1.toList = kk l i from h (l.length - 1 - i) i (by omega)
  intro d
  induction d using Nat.strongRecOn with
  | ind d ih =>
    intro i hd
    by_cases c : ∃ j, i < j ∧ j < l.length ∧ kk l j = kk l i
    · obtain ⟨j, h1, h2, h3⟩ := c
      obtain ⟨z, hz, e⟩ := ih (l.length - 1 - j) (by omega) j (by omega)
      exact ⟨z, hz, e.trans h3⟩
    · exact ⟨rd_T27 l (i : Int), ⟨i, by omega, rfl, fun j h1 h2 h3 => c ⟨j, h1, h2, h3⟩⟩, rfl⟩
theorem norm_ev (l : List S27) (hl : l.length ≤ 1000) (hk : ∀ x ∈ l, x.f1.size ≤ 1000000) (k : Nat) : batch_Norm.f k l = some (NormOf l) := by
  unfold batch_Norm.f NormOf
  rw [if_pos ⟨hl, List.all_eq_true.2 fun x hx => decide_eq_true (hk x hx)⟩]

/-! ### Great: more than a statement goes through? -/
theorem great_no (l : List S27) (i : Nat) (h : ¬ ((i : Int) < (l.length : Int) ∧ (i : Int) < 80)) : Ev (fun k => iceboxlaw8_Great.l0 k l (i : Int)) (decide ((l.length : Int) > 60)) := by
  refine Ev.step (f := fun k => iceboxlaw8_Great.j1 k l (i : Int) false) (fun k => ?_) (Ev.step (f := fun _ => some (decide ((l.length : Int) > 60))) (fun k => by rw [iceboxlaw8_Great.j1, if_neg Bool.false_ne_true]) (Ev.now _))
  by_cases p2 : (i : Int) < (l.length : Int)
  · rw [iceboxlaw8_Great.l0, if_pos p2, decide_eq_false (fun c => h ⟨p2, c⟩)]
  · rw [iceboxlaw8_Great.l0, if_neg p2]
theorem great_at (l : List S27) : ∀ (d i : Nat), i + d = 80 → (Ev (fun k => iceboxlaw8_Great.l0 k l (i : Int)) true) ∨ (Ev (fun k => iceboxlaw8_Great.l0 k l (i : Int)) false ∧ l.length ≤ 60 ∧ ∀ j : Nat, i ≤ j → j < l.length → (rd_T27 l (j : Int)).f1.size ≤ 1000 ∧ (rd_T27 l (j : Int)).f2.size ≤ 1000)
  | 0, i, hd => by
    have h := great_no l i (by omega)
    by_cases c : (l.length : Int) > 60
    · rw [decide_eq_true c] at h; exact Or.inl h
    · rw [decide_eq_false c] at h; exact Or.inr ⟨h, by omega, fun j h1 h2 => by omega⟩
  | d + 1, i, hd => by
    by_cases p2 : (i : Int) < (l.length : Int)
    case neg =>
      have h := great_no l i (fun h => p2 h.1)
      by_cases c : (l.length : Int) > 60
      · rw [decide_eq_true c] at h; exact Or.inl h
      · rw [decide_eq_false c] at h; exact Or.inr ⟨h, by omega, fun j h1 h2 => by omega⟩
    have q1 : i + 1 + d = 80 := by omega
    have p1 : (0 : Int) ≤ (i : Int) := by omega
    have c : (i : Int) < 80 := by omega
    have e2 : wrap64 ((i : Int) + 1) = ((i + 1 : Nat) : Int) := by rw [w64 (by omega) (by omega)]; omega
    have hb := great_at l d (i + 1) q1
    by_cases c1 : ((rd_T27 l (i : Int)).f1.size : Int) > 1000
    · refine Or.inl (Ev.step (f := fun k => iceboxlaw8_Great.j1 k l (i : Int) true) (fun k => by rw [iceboxlaw8_Great.l0, if_pos p2, decide_eq_true c]) (Ev.step (f := fun _ => some true) (fun k => ?_) (Ev.now _)))
      rw [iceboxlaw8_Great.j1, if_pos rfl, if_pos p1, if_pos p2, if_pos c1]
    · by_cases c2 : ((rd_T27 l (i : Int)).f2.size : Int) > 1000
      · refine Or.inl (Ev.step (f := fun k => iceboxlaw8_Great.j1 k l (i : Int) true) (fun k => by rw [iceboxlaw8_Great.l0, if_pos p2, decide_eq_true c]) (Ev.step (f := fun _ => some true) (fun k => ?_) (Ev.now _)))
        rw [iceboxlaw8_Great.j1, if_pos rfl, if_pos p1, if_pos p2, if_neg c1, if_pos c2]
      · have st : ∀ b, Ev (fun k => iceboxlaw8_Great.l0 k l ((i + 1 : Nat) : Int)) b → Ev (fun k => iceboxlaw8_Great.l0 k l (i : Int)) b := by
          intro b hb
          refine Ev.step (f := fun k => iceboxlaw8_Great.j1 k l (i : Int) true) (fun k => by rw [iceboxlaw8_Great.l0, if_pos p2, decide_eq_true c]) (Ev.step (fun k => ?_) hb)
          rw [iceboxlaw8_Great.j1, if_pos rfl, if_pos p1, if_pos p2, if_neg c1, if_neg c2, e2]
        rcases hb with hb | ⟨hb, h1, h2⟩
        · exact Or.inl (st _ hb)
        · refine Or.inr ⟨st _ hb, h1, fun j g1 g2 => ?_⟩
          rcases Nat.eq_or_lt_of_le g1 with e | e
          · subst e; omega
          · exact h2 j e g2
theorem great27 (l : List S27) : (Ev (fun k => iceboxlaw8_Great.f k l) true) ∨ (Ev (fun k => iceboxlaw8_Great.f k l) false ∧ l.length ≤ 60 ∧ ∀ x ∈ l, x.f1.size ≤ 1000 ∧ x.f2.size ≤ 1000) := by
  rcases great_at l 80 0 (by omega) with h | ⟨h, h1, h2⟩
  · exact Or.inl h
  · refine Or.inr ⟨h, h1, fun x hx => ?_⟩
    obtain ⟨i, hi, rfl⟩ := List.getElem_of_mem hx
    have := h2 i (Nat.zero_le _) hi
    rw [rd27_getE l i hi] at this
    exact this

/-! ### awake, SameOps -/
theorem awake8_ev : Ev iceboxlaw8_awake.f true := Ev.of (fun k => iceboxlaw8_awake.mono k) (k := 60) (by decide +kernel)

theorem same27_ev (l : List S27) (hb : l.length ≤ 1000000) (d : Nat) : ∀ (i : Nat), i + d = l.length → Ev (fun k => iceboxref1_SameOps.l0 k l l (i : Int)) true := by
  induction d with
  | zero =>
    intro i hd
    refine Ev.step (f := fun _ => some true) (fun k => ?_) (Ev.now _)
    rw [iceboxref1_SameOps.l0, if_neg (by omega)]
  | succ d ih =>
    intro i hd
    have p0 : (0 : Int) ≤ (i : Int) := by omega
    have p1 : (i : Int) < (l.length : Int) := by omega
    have h := ih (i + 1) (by omega)
    refine Ev.step (fun k => ?_) h
    have ew : wrap64 ((i : Int) + 1) = ((i + 1 : Nat) : Int) := by rw [w64 (by omega) (by omega)]; omega
    rw [iceboxref1_SameOps.l0, if_pos p1, if_pos p0, if_pos p1]
    simp only [beq_self_eq_true, Bool.not_true, Bool.or_self]
    rw [if_neg Bool.false_ne_true, ew]
theorem same27f_ev (l : List S27) (hb : l.length ≤ 1000000) : Ev (fun k => iceboxref1_SameOps.f k l l) true := by
  refine Ev.congr (fun k => ?_) (same27_ev l hb l.length 0 (by omega))
  rw [iceboxref1_SameOps.f, if_pos rfl]; rfl

/-! ### May: what operations are told -/
def mayP (a : Int) (u v : ByteArray) : Int := if a = 1 ∨ a = 2 then (if u.size > 64 ∨ v.size > 512 then 4 else if a = 2 ∧ v.toList ≠ [] then 1 else 0) else 1
theorem may_j1 (a : Int) (u v : ByteArray) (b : Bool) (h : b = true ∨ a = 1 ∨ a = 2) : Ev (fun k => batch_may.j1 k b a u v) (if b = true then 4 else if a = 2 ∧ v.toList ≠ [] then 1 else 0) := by
  refine Ev.step (f := fun _ => some (if b = true then 4 else if a = 2 ∧ v.toList ≠ [] then 1 else 0)) (fun k => ?_) (Ev.now _)
  rw [batch_may.j1]
  by_cases c : b = true
  · rw [if_pos c, if_pos c]
  · rw [if_neg c, if_neg c]
    by_cases c2 : a = 2
    · by_cases c3 : v.toList = []
      · rw [if_pos c2, if_pos c3, if_neg (fun h => h.2 c3)]
      · rw [if_pos c2, if_neg c3, if_pos ⟨c2, c3⟩]
    · rw [if_neg c2, if_neg (fun h => c2 h.1)]
theorem may_ev (a : Int) (u v : ByteArray) : Ev (fun k => batch_may.f k a u v) (mayP a u v) := by
  have key : ∀ b : Bool, (b = false → a = 1 ∨ a = 2) → (b = true → ¬ (a = 1 ∨ a = 2)) → Ev (fun k => batch_may.j0 k b a u v) (mayP a u v) := by
    intro b h1 h2
    cases b with
    | true =>
      refine Ev.step (f := fun _ => some (mayP a u v)) (fun k => ?_) (Ev.now _)
      rw [batch_may.j0, if_pos rfl, mayP, if_neg (h2 rfl)]
    | false =>
      have h := h1 rfl
      by_cases c1 : u.size > 64
      · have := may_j1 a u v true (Or.inl rfl)
        refine Ev.step (fun k => ?_) (show Ev (fun k => batch_may.j1 k true a u v) (mayP a u v) by rw [mayP, if_pos h, if_pos (Or.inl c1)]; rw [if_pos rfl] at this; exact this)
        rw [batch_may.j0, if_neg Bool.false_ne_true, if_pos (by omega)]
      · have := may_j1 a u v (decide ((v.size : Int) > 512)) (Or.inr h)
        refine Ev.step (fun k => ?_) (show Ev (fun k => batch_may.j1 k (decide ((v.size : Int) > 512)) a u v) (mayP a u v) by
          rw [mayP, if_pos h]
          by_cases c2 : v.size > 512
          · rw [if_pos (Or.inr c2)]
            rw [decide_eq_true (show (v.size : Int) > 512 by omega)] at this ⊢
            rw [if_pos rfl] at this; exact this
          · rw [if_neg (fun hh => hh.elim c1 c2)]
            rw [decide_eq_false (show ¬ (v.size : Int) > 512 by omega)] at this ⊢
            rw [if_neg Bool.false_ne_true] at this; exact this)
        rw [batch_may.j0, if_neg Bool.false_ne_true, if_neg (by omega)]
  unfold batch_may.f
  by_cases c : a = 1
  · exact Ev.congr (fun k => by rw [if_pos c]) (key false (fun _ => Or.inl c) (fun h => by cases h))
  · refine Ev.congr (fun k => by rw [if_neg c]) (key (a != 2) (fun h => ?_) (fun h => ?_))
    · exact Or.inr (by simpa using h)
    · have : a ≠ 2 := by simpa using h
      exact fun hh => hh.elim c this
def mayGo : List S27 → Int
  | [] => 0
  | x :: t => if mayP x.f0 x.f1 x.f2 = 0 then mayGo t else mayP x.f0 x.f1 x.f2
def mayL (l : List S27) : Int := if l.length = 0 then 1 else if l.length > 32 then 4 else mayGo l
theorem mayL_l0 (l : List S27) (hl : l.length ≤ 1000000) : ∀ (d i : Nat), i + d = l.length → Ev (fun k => batch_May.l0 k l (l.length : Int) (i : Int)) (mayGo (l.drop i))
  | 0, i, hd => by
    obtain rfl : i = l.length := by omega
    rw [List.drop_length]
    refine Ev.step (f := fun _ => some 0) (fun k => ?_) (Ev.now _)
    rw [batch_May.l0, if_neg (by omega)]
  | d + 1, i, hd => by
    have hi : i < l.length := by omega
    have ew : wrap64 ((i : Int) + 1) = ((i + 1 : Nat) : Int) := by rw [w64 (by omega) (by omega)]; omega
    have ih := mayL_l0 l hl d (i + 1) (by omega)
    have e : l.drop i = rd_T27 l (i : Int) :: l.drop (i + 1) := by rw [rd27_getE l i hi, List.drop_eq_getElem_cons hi]
    rw [e, mayGo]
    refine Ev.step (fun k => by rw [batch_May.l0, if_pos (by omega), if_pos (by omega), if_pos (by omega)]) (Ev.bind (may_ev (rd_T27 l (i : Int)).f0 (rd_T27 l (i : Int)).f1 (rd_T27 l (i : Int)).f2) (f := fun k t229 => if t229 = 0 then (batch_May.l0 k l (l.length : Int) (wrap64 ((i : Int) + 1))) else (some t229)) ?_)
    by_cases c : mayP (rd_T27 l (i : Int)).f0 (rd_T27 l (i : Int)).f1 (rd_T27 l (i : Int)).f2 = 0
    · rw [if_pos c]
      exact Ev.congr (fun k => by rw [if_pos c, ew]) ih
    · rw [if_neg c]
      exact Ev.congr (fun k => by rw [if_neg c]) (Ev.now _)
theorem mayL_ev (l : List S27) (hl : l.length ≤ 1000000) : Ev (fun k => batch_May.f k l) (mayL l) := by
  unfold batch_May.f mayL
  by_cases c : l.length = 0
  · rw [if_pos c]
    exact Ev.congr (fun k => by rw [if_pos (by omega)]) (Ev.now _)
  · rw [if_neg c]
    by_cases c2 : l.length > 32
    · rw [if_pos c2]
      exact Ev.congr (fun k => by rw [if_neg (by omega), if_pos (by omega)]) (Ev.now _)
    · rw [if_neg c2]
      have h := mayL_l0 l hl l.length 0 (by omega)
      rw [List.drop_zero] at h
      exact Ev.congr (fun k => by rw [if_neg (by omega), if_neg (by omega)]; rfl) h

def putN (n : Nat) : List Nat := if h : n < 128 then [n] else (n % 128 + 128) :: putN (n / 128)
termination_by n
decreasing_by omega
theorem putN_small {n : Nat} (h : n < 128) : putN n = [n] := by unfold putN; rw [dif_pos h]
theorem putN_more {n : Nat} (h : ¬ n < 128) : putN n = (n % 128 + 128) :: putN (n / 128) := by rw [putN]; rw [dif_neg h]
theorem putN_len : ∀ (m n : Nat), n < 128 ^ (m + 1) → 1 ≤ (putN n).length ∧ (putN n).length ≤ m + 1
  | 0, n, h => by rw [putN_small (by omega)]; simp
  | m + 1, n, h => by
    by_cases h1 : n < 128
    · rw [putN_small h1]; simp
    · rw [putN_more h1]
      have hd : n / 128 < 128 ^ (m + 1) := by rw [Nat.div_lt_iff_lt_mul (by decide)]; rw [Nat.pow_succ] at h; exact h
      have := putN_len m (n / 128) hd
      rw [List.length_cons]
      clear h hd
      omega
theorem putN_len9 {n : Nat} (h : n < 9223372036854775808) : 1 ≤ (putN n).length ∧ (putN n).length ≤ 9 := putN_len 8 n h
theorem putN_lt : ∀ (k n : Nat), n ≤ k → ∀ c ∈ putN n, c < 256
  | 0, n, h, c, hc => by rw [putN_small (by omega)] at hc; simp at hc; omega
  | k + 1, n, h, c, hc => by
    by_cases h1 : n < 128
    · rw [putN_small h1] at hc; simp at hc; omega
    · rw [putN_more h1] at hc
      rcases List.mem_cons.1 hc with rfl | hc
      · omega
      · exact putN_lt k (n / 128) (by omega) c hc
theorem or128 (n : Nat) : Go.bits .or .u8 ((n : Int) % 256) 128 = ((n % 128 + 128 : Nat) : Int) := by
  have e : (n : Int) % 256 = ((n % 256 : Nat) : Int) := by omega
  have h := bo_u8 (n % 256) 128 (by omega) (by omega)
  rw [e]
  refine h.trans ?_
  congr 1
  have h1 : n % 128 < 2 ^ 7 := by omega
  have e2 : 128 + n % 128 = 128 ||| n % 128 := Nat.two_pow_add_eq_or_of_lt h1 1
  by_cases h2 : n % 256 < 128
  · have e3 : n % 256 = n % 128 := by omega
    rw [e3, Nat.or_comm]
    omega
  · have e3 : n % 256 = 128 ||| (n % 128) := by omega
    have e4 : 128 ||| (n % 128) = 128 + n % 128 := by omega
    rw [e3, Nat.or_assoc, Nat.or_comm (n % 128), ← Nat.or_assoc, Nat.or_self, e4]
    omega
theorem put_l0 : ∀ (m n : Nat) (acc : List Int), n < 128 ^ (m + 1) → acc.length + (m + 1) < 140737488355328 →
    Ev (fun k => num_Put.l0 k (n : Int) acc) (acc ++ ints (putN n)) := by
  intro m
  induction m with
  | zero =>
    intro n acc h hl
    have h1 : n < 128 := by omega
    rw [putN_small h1]
    refine Ev.step (f := fun _ => some _) (fun k => ?_) (Ev.now _)
    simp only [num_Put.l0]
    rw [if_neg (by omega), if_pos (by omega), show (n : Int) % 256 = n by omega]; rfl
  | succ m ih =>
    intro n acc h hl
    by_cases h1 : n < 128
    · rw [putN_small h1]
      refine Ev.step (f := fun _ => some _) (fun k => ?_) (Ev.now _)
      simp only [num_Put.l0]
      clear h
      rw [if_neg (by omega), if_pos (by omega), show (n : Int) % 256 = n by omega]; rfl
    · have hd : n / 128 < 128 ^ (m + 1) := by rw [Nat.div_lt_iff_lt_mul (by decide)]; rw [Nat.pow_succ] at h; exact h
      have h2 := ih (n / 128) (acc ++ [((n % 128 + 128 : Nat) : Int)]) hd (by rw [List.length_append, List.length_singleton]; omega)
      rw [putN_more h1]
      rw [List.append_assoc] at h2
      refine Ev.step (fun k => ?_) h2
      simp only [num_Put.l0]
      clear h hd
      rw [if_pos (by omega), if_pos (by omega), or128]
      rfl
theorem put_ev (n : Nat) (h : n < 9223372036854775808) : Ev (fun k => num_Put.f k (n : Int)) (ints (putN n)) := by
  have := put_l0 8 n [] h (by decide)
  refine Ev.congr (fun k => ?_) this
  unfold num_Put.f; rw [if_neg (by omega)]

def getN : Nat → List Nat → Option (Nat × Nat)
  | 0, _ => none
  | _ + 1, [] => none
  | m + 1, c :: r => if c > 127 then (getN m r).map (fun p => (c - 128 + 128 * p.1, p.2 + 1)) else if c = 0 ∧ m ≠ 8 then none else some (c, 1)
def tell (acc i at_ : Nat) : Option (Nat × Nat) → Int × Int × Bool
  | none => (0, 0, false)
  | some (v, n) => (((acc + 2 ^ (7 * i) * v : Nat) : Int), ((at_ + i + n : Nat) : Int), true)
theorem and127 (c : Nat) (h : c < 256) : Go.bits .and .u8 (c : Int) 127 = ((c % 128 : Nat) : Int) := by
  have := ba_u8 c 127 h (by decide)
  rw [show (127 : Nat) = 2 ^ 7 - 1 from rfl, Nat.and_two_pow_sub_one_eq_mod] at this
  exact this
theorem acc_or (acc d i : Nat) (h : acc < 2 ^ (7 * i)) (hd : d < 128) (hi : i ≤ 8) :
    Go.bits .or .i64 (acc : Int) (shl .i64 (wrap64 (d : Int)) (wrap64 (7 * (i : Int)))) = ((acc + 2 ^ (7 * i) * d : Nat) : Int) := by
  have e1 : wrap64 (d : Int) = d := w64 (by omega) (by omega)
  have e2 : wrap64 (7 * (i : Int)) = ((7 * i : Nat) : Int) := by unfold wrap64; omega
  have hP : 2 ^ (7 * i) ≤ 2 ^ 56 := Nat.pow_le_pow_right (by decide) (by omega)
  have hm : 2 ^ (7 * i) * d < 2 ^ 63 := by
    have h1 : 2 ^ (7 * i) * d ≤ 2 ^ 56 * 127 := Nat.mul_le_mul hP (by omega)
    exact Nat.lt_of_le_of_lt h1 (by decide)
  have ha : acc < 2 ^ 63 := Nat.lt_of_lt_of_le h (Nat.le_trans hP (by decide))
  have e3 : shl .i64 (d : Int) ((7 * i : Nat) : Int) = ((2 ^ (7 * i) * d : Nat) : Int) := by
    unfold shl
    rw [Int.toNat_natCast, Nat.min_eq_left (by show 7 * i ≤ 64; omega)]
    have : (d : Int) * 2 ^ (7 * i) = ((2 ^ (7 * i) * d : Nat) : Int) := by rw [Int.natCast_mul, Int.mul_comm]; simp
    rw [this]
    exact wr_i64 _ (Int.natCast_nonneg _) (by exact_mod_cast hm)
  rw [e1, e2, e3, bo_i64 _ _ ha hm]
  congr 1
  have := Nat.two_pow_add_eq_or_of_lt h d
  rw [Nat.or_comm, ← this, Nat.add_comm]
theorem acc_lt (acc d i : Nat) (h : acc < 2 ^ (7 * i)) (hd : d < 128) : acc + 2 ^ (7 * i) * d < 2 ^ (7 * (i + 1)) := by
  have e : 2 ^ (7 * (i + 1)) = 2 ^ (7 * i) * 128 := by rw [Nat.mul_add, Nat.pow_add]
  rw [e]
  generalize 2 ^ (7 * i) = P at h ⊢
  have : P * d ≤ P * 127 := Nat.mul_le_mul_left _ (by omega)
  omega
theorem tell_more (acc i at_ d : Nat) (o : Option (Nat × Nat)) : tell acc i at_ (o.map (fun p => (d + 128 * p.1, p.2 + 1))) = tell (acc + 2 ^ (7 * i) * d) (i + 1) at_ o := by
  cases o with
  | none => rfl
  | some p =>
    obtain ⟨v, n⟩ := p
    simp only [tell, Option.map_some]
    have e : 2 ^ (7 * (i + 1)) = 2 ^ (7 * i) * 128 := by rw [Nat.mul_add, Nat.pow_add]
    rw [e, Nat.mul_add, ← Nat.mul_assoc, ← Nat.add_assoc, show at_ + (i + 1) + n = at_ + i + (n + 1) by omega]
theorem get_l0 (l : List Int) (hb : Bytes l) (hl : l.length < 2 ^ 48) (at_ : Nat) (hat : at_ < 2 ^ 62) : ∀ (m i acc : Nat), i + m = 9 → acc < 2 ^ (7 * i) →
    Ev (fun k => num_Get.l0 k l (at_ : Int) (acc : Int) (i : Int)) (tell acc i at_ (getN m ((nats l).drop (at_ + i)))) := by
  intro m
  induction m with
  | zero =>
    intro i acc hi ha
    refine Ev.step (f := fun _ => some _) (fun k => ?_) (Ev.now _)
    simp only [num_Get.l0]
    have p : ¬ (i : Int) < 9 := by omega
    rw [if_neg p]; simp only [getN, tell]
  | succ m ih =>
    intro i acc hi ha
    have p1 : (i : Int) < 9 := by omega
    by_cases hin : at_ + i < l.length
    · have p2 : ¬ (at_ : Int) ≥ wrap64 ((l.length : Int) - (i : Int)) := by unfold wrap64; omega
      have p3 : wrap64 ((at_ : Int) + (i : Int)) = ((at_ + i : Nat) : Int) := by unfold wrap64; omega
      have p4 : (0 : Int) ≤ ((at_ + i : Nat) : Int) := by omega
      have p5 : ((at_ + i : Nat) : Int) < (l.length : Int) := by omega
      have p6 : 0 ≤ wrap64 (7 * (i : Int)) := by rw [w64 (by omega) (by omega)]; omega
      have p7 : wrap64 ((i : Int) + 1) = ((i + 1 : Nat) : Int) := by unfold wrap64; omega
      have p8 : wrap64 (((at_ + i : Nat) : Int) + 1) = ((at_ + i + 1 : Nat) : Int) := by unfold wrap64; omega
      have him : (m = 8) = (i = 0) := by rw [eq_iff_iff]; omega
      obtain ⟨c, hc, hc1, hc2⟩ := rd_byte (l := l) (i := at_ + i) hin hb
      have hor := acc_or acc (c % 128) i ha (Nat.mod_lt _ (by decide)) (by omega)
      have hlt := acc_lt acc (c % 128) i ha (Nat.mod_lt _ (by decide))
      rw [hc2]
      have head : ∀ k, num_Get.l0 (k + 1) l (at_ : Int) (acc : Int) (i : Int) = (if (c : Int) > 127 then (num_Get.l0 k l (at_ : Int) ((acc + 2 ^ (7 * i) * (c % 128) : Nat) : Int) ((i + 1 : Nat) : Int)) else (if (c : Int) = 0 then (if (i : Int) > 0 then (some (0, 0, false)) else (some (((acc + 2 ^ (7 * i) * (c % 128) : Nat) : Int), ((at_ + i + 1 : Nat) : Int), true))) else (some (((acc + 2 ^ (7 * i) * (c % 128) : Nat) : Int), ((at_ + i + 1 : Nat) : Int), true)))) := by
        intro k
        simp only [num_Get.l0]
        rw [if_pos p1, if_neg p2, p3, if_pos p4, if_pos p5, if_pos p6, hc, and127 c hc1, hor, p7, p8]
      by_cases hc3 : c > 127
      · have q1 : (c : Int) > 127 := by omega
        have q2 : c % 128 = c - 128 := by omega
        have h := ih (i + 1) (acc + 2 ^ (7 * i) * (c % 128)) (by omega) hlt
        rw [← tell_more, q2, ← Nat.add_assoc] at h
        simp only [getN]
        rw [if_pos hc3]
        refine Ev.step (fun k => ?_) h
        rw [head, if_pos q1, q2]
      · have q1 : ¬ (c : Int) > 127 := by omega
        have q2 : c % 128 = c := by omega
        simp only [getN]
        rw [if_neg hc3]
        refine Ev.step (f := fun _ => some _) (fun k => ?_) (Ev.now _)
        rw [head, if_neg q1, q2]
        by_cases hz : c = 0
        · have q3 : (c : Int) = 0 := by omega
          rw [if_pos q3]
          by_cases hi0 : i = 0
          · have q4 : ¬ (i : Int) > 0 := by omega
            rw [if_neg q4, if_neg (by intro h; exact h.2 (him.mpr hi0))]; rfl
          · have q4 : (i : Int) > 0 := by omega
            rw [if_pos q4, if_pos ⟨hz, fun h => hi0 (him.mp h)⟩]; rfl
        · have q3 : ¬ (c : Int) = 0 := by omega
          rw [if_neg q3, if_neg (fun h => hz h.1)]; rfl
    · have p2 : (at_ : Int) ≥ wrap64 ((l.length : Int) - (i : Int)) := by unfold wrap64; omega
      rw [List.drop_of_length_le (by rw [nats_length]; omega)]
      refine Ev.step (f := fun _ => some _) (fun k => ?_) (Ev.now _)
      simp only [num_Get.l0]
      rw [if_pos p1, if_pos p2]; simp only [getN, tell]
def told (at_ : Nat) : Option (Nat × Nat) → Int × Int × Bool
  | none => (0, 0, false)
  | some (v, n) => ((v : Int), ((at_ + n : Nat) : Int), true)
theorem tell_told (at_ : Nat) (o : Option (Nat × Nat)) : tell 0 0 at_ o = told at_ o := by
  cases o with
  | none => rfl
  | some p =>
    obtain ⟨v, n⟩ := p
    simp only [tell, told, Nat.mul_zero, Nat.pow_zero, Nat.one_mul, Nat.zero_add, Nat.add_zero]
theorem get_ev (l : List Int) (hb : Bytes l) (hl : l.length < 2 ^ 48) (at_ : Nat) (hat : at_ < 2 ^ 62) : Ev (fun k => num_Get.f k l (at_ : Int)) (told at_ (getN 9 ((nats l).drop at_))) := by
  have h := get_l0 l hb hl at_ hat 9 0 0 (by omega) (by decide)
  rw [tell_told, Nat.add_zero] at h
  have p : ¬ (at_ : Int) < 0 := by omega
  exact Ev.congr (fun k => by unfold num_Get.f; rw [if_neg p]; rfl) h

theorem get_put : ∀ (m n : Nat) (r : List Nat), n < 128 ^ (m + 1) → (m = 8 ∨ 0 < n) → getN (m + 1) (putN n ++ r) = some (n, (putN n).length)
  | m, n, r, h, hz => by
    by_cases h1 : n < 128
    · rw [putN_small h1, List.singleton_append, getN, if_neg (by omega), if_neg (by omega)]; rfl
    · rw [putN_more h1, List.cons_append, getN, if_pos (by omega)]
      cases m with
      | zero => omega
      | succ m =>
        have hd : n / 128 < 128 ^ (m + 1) := by rw [Nat.div_lt_iff_lt_mul (by decide)]; rw [Nat.pow_succ] at h; exact h
        rw [get_put m (n / 128) r hd (by omega)]
        simp only [Option.map_some, List.length_cons]
        congr 2
        clear hd h hz
        omega
theorem get_put9 (n : Nat) (r : List Nat) (h : n < 9223372036854775808) : getN 9 (putN n ++ r) = some (n, (putN n).length) := get_put 8 n r h (.inl rfl)
theorem get_cut : ∀ (m n : Nat), getN m ((putN n).take ((putN n).length - 1)) = none
  | 0, _ => rfl
  | m + 1, n => by
    by_cases h1 : n < 128
    · rw [putN_small h1]; rfl
    · have h2 := get_cut m (n / 128)
      rw [putN_more h1]
      have h3 : 1 ≤ (putN (n / 128)).length := by
        unfold putN; split <;> simp
      have e : (((n % 128 + 128) :: putN (n / 128)).take (((n % 128 + 128) :: putN (n / 128)).length - 1)) = (n % 128 + 128) :: (putN (n / 128)).take ((putN (n / 128)).length - 1) := by
        rw [List.length_cons, show (putN (n / 128)).length + 1 - 1 = ((putN (n / 128)).length - 1) + 1 by omega, List.take_succ_cons]
      rw [e, getN, if_pos (by omega), h2]; rfl

theorem strOf_bytes (s : ByteArray) : strOfNums (bytesOf s) = s := by
  unfold strOfNums bytesOf
  rw [List.map_map]
  have : s.data.toList.map ((fun n : Int => UInt8.ofNat n.toNat) ∘ fun b : UInt8 => (b.toNat : Int)) = s.data.toList := by
    conv => rhs; rw [← List.map_id s.data.toList]
    apply List.map_congr_left; intro a _; simp
  rw [this]
theorem bytesOf_bytes (s : ByteArray) : Bytes (bytesOf s) := by
  intro x hx
  obtain ⟨c, _, rfl⟩ := List.mem_map.1 hx
  have := c.toNat_lt
  omega
def textI (s : ByteArray) : List Int := ints (putN s.size) ++ bytesOf s
theorem textI_length (s : ByteArray) : (textI s).length = (putN s.size).length + s.size := by
  unfold textI; rw [List.length_append, ints_length, bytesOf_length]
theorem textI_bytes (s : ByteArray) : Bytes (textI s) := by
  intro x hx
  rcases List.mem_append.1 hx with h | h
  · exact ints_bytes (putN_lt _ _ (Nat.le_refl _)) x h
  · exact bytesOf_bytes s x h
theorem puttext_ev (s : ByteArray) (h : s.size ≤ 1099511627776) : Ev (fun k => num_PutText.f k s) (textI s) := by
  have h1 := put_ev s.size (by omega)
  have h9 := putN_len9 (n := s.size) (by omega)
  have p : (ints (putN s.size)).length + s.size < 140737488355328 := by rw [ints_length]; omega
  exact Ev.congr (fun k => rfl) (Ev.bind h1 (Ev.congr (fun k => by rw [if_pos p]; rfl) (Ev.now _)))
def toldT (l : List Int) (at_ : Nat) : Option (Nat × Nat) → ByteArray × Int × Bool
  | none => ((⟨#[]⟩ : ByteArray), 0, false)
  | some (v, n) => if l.length < at_ + n + v then ((⟨#[]⟩ : ByteArray), 0, false) else (strOfNums ((l.take (at_ + n + v)).drop (at_ + n)), ((at_ + n + v : Nat) : Int), true)
theorem getN_bound : ∀ (m : Nat) (l : List Nat) (v n : Nat), (∀ c ∈ l, c < 256) → getN m l = some (v, n) → v < 128 ^ m ∧ 1 ≤ n ∧ n ≤ l.length
  | 0, _, _, _, _, h => by simp [getN] at h
  | m + 1, [], _, _, _, h => by simp [getN] at h
  | m + 1, c :: r, v, n, hl, h => by
    have hc := hl c (by simp)
    rw [getN] at h
    by_cases h1 : c > 127
    · rw [if_pos h1] at h
      obtain ⟨p, hp, he⟩ := Option.map_eq_some_iff.1 h
      obtain ⟨h2, h3, h4⟩ := getN_bound m r p.1 p.2 (fun x hx => hl x (by simp [hx])) hp
      simp only [Prod.mk.injEq] at he
      obtain ⟨rfl, rfl⟩ := he
      rw [List.length_cons, Nat.pow_succ]
      refine ⟨?_, by omega, by omega⟩
      omega
    · rw [if_neg h1] at h
      split at h
      · cases h
      · simp only [Option.some.injEq, Prod.mk.injEq] at h
        obtain ⟨rfl, rfl⟩ := h
        rw [List.length_cons]
        refine ⟨?_, by omega, by omega⟩
        have : 128 ^ 1 ≤ 128 ^ (m + 1) := Nat.pow_le_pow_right (by decide) (by omega)
        omega
theorem gettext_ev (l : List Int) (hb : Bytes l) (hl : l.length < 2 ^ 48) (at_ : Nat) (hat : at_ < 2 ^ 62) : Ev (fun k => num_GetText.f k l (at_ : Int)) (toldT l at_ (getN 9 ((nats l).drop at_))) := by
  have h := get_ev l hb hl at_ hat
  refine Ev.congr (fun k => rfl) (Ev.bind h (f := fun k (bt119 : Int × Int × Bool) => (if bt119.2.2 = true then (if bt119.1 > (wrap64 ((l.length : Int) - bt119.2.1)) then (some ((⟨#[]⟩ : ByteArray), 0, false)) else (if 0 ≤ bt119.2.1 then (if bt119.2.1 ≤ (wrap64 (bt119.2.1 + bt119.1)) then (if (wrap64 (bt119.2.1 + bt119.1)) ≤ (l.length : Int) then (some (strOfNums ((l.take ((wrap64 (bt119.2.1 + bt119.1)) : Int).toNat).drop (bt119.2.1 : Int).toNat), wrap64 (bt119.2.1 + bt119.1), true)) else (none)) else (none)) else (none))) else (some ((⟨#[]⟩ : ByteArray), 0, false)))) ?_)
  cases ho : getN 9 ((nats l).drop at_) with
  | none => exact Ev.congr (f := fun _ => some _) (fun k => by rw [if_neg (show ¬ (told at_ none).2.2 = true by simp [told])]; rfl) (Ev.now _)
  | some p =>
    obtain ⟨v, n⟩ := p
    obtain ⟨hv, hn1, hn2⟩ := getN_bound 9 _ v n (fun c hc => nats_lt hb c (List.mem_of_mem_drop hc)) ho
    rw [List.length_drop, nats_length] at hn2
    have hv2 : v < 9223372036854775808 := hv
    clear hv
    have et : told at_ (some (v, n)) = ((v : Int), ((at_ + n : Nat) : Int), true) := rfl
    rw [et]
    simp only [toldT]
    have p0 : (0 : Int) ≤ ((at_ + n : Nat) : Int) := by omega
    by_cases hlt : l.length < at_ + n + v
    · have p1 : (v : Int) > wrap64 ((l.length : Int) - ((at_ + n : Nat) : Int)) := by rw [w64 (by omega) (by omega)]; omega
      rw [if_pos hlt]
      exact Ev.congr (f := fun _ => some _) (fun k => by simp only [if_true, if_pos p1]) (Ev.now _)
    · have p1 : ¬ (v : Int) > wrap64 ((l.length : Int) - ((at_ + n : Nat) : Int)) := by rw [w64 (by omega) (by omega)]; omega
      have p2 : wrap64 (((at_ + n : Nat) : Int) + (v : Int)) = ((at_ + n + v : Nat) : Int) := by rw [w64 (by omega) (by omega)]; omega
      have p3 : ((at_ + n : Nat) : Int) ≤ ((at_ + n + v : Nat) : Int) := by omega
      have p4 : ((at_ + n + v : Nat) : Int) ≤ (l.length : Int) := by omega
      rw [if_neg hlt]
      exact Ev.congr (f := fun _ => some _) (fun k => by simp only [if_true, if_neg p1, if_pos p0, p2, if_pos p3, if_pos p4, Int.toNat_natCast]) (Ev.now _)

/-! ### batch.Put: the bytes of a batch -/
theorem tl_inj {a b : ByteArray} (h : a.toList = b.toList) : a = b := by
  rw [Go.ByteArray.toList_eq, Go.ByteArray.toList_eq] at h
  cases a; cases b
  simp only [ByteArray.mk.injEq]
  exact Array.toList_inj.1 h
theorem ne27 (x y : S27) : (!(x.f0 == y.f0) || (!(x.f1.toList == y.f1.toList) || !(x.f2.toList == y.f2.toList))) = true ↔ x ≠ y := by
  have e : x = y ↔ x.f0 = y.f0 ∧ x.f1.toList = y.f1.toList ∧ x.f2.toList = y.f2.toList := by
    constructor
    · rintro rfl; exact ⟨rfl, rfl, rfl⟩
    · rintro ⟨h1, h2, h3⟩
      cases x; cases y
      simp only at h1 h2 h3
      rw [h1, tl_inj h2, tl_inj h3]
  rw [Ne, e]
  simp only [Bool.or_eq_true, Bool.not_eq_true', beq_eq_false_iff_ne]
  constructor
  · rintro (h | h | h) ⟨h1, h2, h3⟩
    · exact h h1
    · exact h h2
    · exact h h3
  · intro h
    by_cases h1 : x.f0 = y.f0
    · by_cases h2 : x.f1.toList = y.f1.toList
      · exact Or.inr (Or.inr fun h3 => h ⟨h1, h2, h3⟩)
      · exact Or.inr (Or.inl h2)
    · exact Or.inl h1
theorem eqOps_l0 (a b : List S27) (hl : a.length ≤ 1000000) (he : a.length = b.length) : ∀ (d i : Nat), i + d = a.length → ∃ r : Bool, Ev (fun k => api_Op_41.l0 k a b (a.length : Int) (i : Int)) r ∧ (r = true ↔ a.drop i = b.drop i)
  | 0, i, hd => by
    refine ⟨true, Ev.step (f := fun _ => some true) (fun k => by rw [api_Op_41.l0, if_neg (by omega)]) (Ev.now _), ?_⟩
    rw [List.drop_of_length_le (by omega), List.drop_of_length_le (by omega)]; simp
  | d + 1, i, hd => by
    have hi : i < a.length := by omega
    have ew : wrap64 ((i : Int) + 1) = ((i + 1 : Nat) : Int) := by rw [w64 (by omega) (by omega)]; omega
    obtain ⟨r, h1, h2⟩ := eqOps_l0 a b hl he d (i + 1) (by omega)
    have ea : a.drop i = rd_T27 a (i : Int) :: a.drop (i + 1) := by rw [rd27_getE a i hi, List.drop_eq_getElem_cons hi]
    have eb : b.drop i = rd_T27 b (i : Int) :: b.drop (i + 1) := by rw [rd27_getE b i (by omega), List.drop_eq_getElem_cons (by omega)]
    by_cases c : rd_T27 a (i : Int) = rd_T27 b (i : Int)
    · refine ⟨r, Ev.step (fun k => ?_) h1, ?_⟩
      · rw [api_Op_41.l0, if_pos (by omega), if_pos (by omega), if_pos (by omega), if_pos (by omega), if_neg (fun h => (ne27 _ _).1 h c), ew]
      · rw [ea, eb, h2, c]; simp
    · refine ⟨false, Ev.step (f := fun _ => some false) (fun k => ?_) (Ev.now _), ?_⟩
      · rw [api_Op_41.l0, if_pos (by omega), if_pos (by omega), if_pos (by omega), if_pos (by omega), if_pos ((ne27 _ _).2 c)]
      · rw [ea, eb]
        constructor
        · intro h; cases h
        · intro h; injection h with h _; exact absurd h c
theorem eqOps_ev (a b : List S27) (hl : a.length ≤ 1000000) : ∃ r : Bool, Ev (fun k => api_Op_41.f k a b) r ∧ (r = true ↔ a = b) := by
  unfold api_Op_41.f
  by_cases c : a.length = b.length
  · obtain ⟨r, h1, h2⟩ := eqOps_l0 a b hl c a.length 0 (by omega)
    rw [List.drop_zero, List.drop_zero] at h2
    exact ⟨r, Ev.congr (fun k => by rw [if_pos (by omega)]; rfl) h1, h2⟩
  · refine ⟨false, Ev.congr (fun k => by rw [if_neg (by omega)]) (Ev.now _), ?_⟩
    constructor
    · intro h; cases h
    · intro h; exact absurd (congrArg List.length h) c
def GoodOp (x : S27) : Prop := (x.f0 = 1 ∨ x.f0 = 2) ∧ x.f1.size ≤ 64 ∧ x.f2.size ≤ 512 ∧ (x.f0 = 2 → x.f2.toList = [])
theorem mayP_good (x : S27) : mayP x.f0 x.f1 x.f2 = 0 ↔ GoodOp x := by
  unfold mayP GoodOp
  by_cases c : x.f0 = 1 ∨ x.f0 = 2
  · rw [if_pos c]
    by_cases c1 : x.f1.size > 64 ∨ x.f2.size > 512
    · rw [if_pos c1]
      constructor
      · intro h; omega
      · rintro ⟨_, h1, h2, _⟩; omega
    · rw [if_neg c1]
      by_cases c2 : x.f0 = 2 ∧ x.f2.toList ≠ []
      · rw [if_pos c2]
        constructor
        · intro h; omega
        · rintro ⟨_, _, _, h⟩; exact absurd (h c2.1) c2.2
      · rw [if_neg c2]
        refine ⟨fun _ => ⟨c, by omega, by omega, fun h => ?_⟩, fun _ => rfl⟩
        exact Classical.byContradiction fun hn => c2 ⟨h, hn⟩
  · rw [if_neg c]
    constructor
    · intro h; omega
    · rintro ⟨h, _⟩; exact absurd h c
theorem mayGo_good : ∀ l : List S27, mayGo l = 0 ↔ ∀ x ∈ l, GoodOp x
  | [] => by simp [mayGo]
  | x :: t => by
    rw [mayGo]
    by_cases c : mayP x.f0 x.f1 x.f2 = 0
    · rw [if_pos c, mayGo_good t]
      simp [(mayP_good x).1 c]
    · rw [if_neg c]
      constructor
      · intro h; exact absurd h c
      · intro h; exact (mayP_good x).2 (h x (by simp))
theorem mayL_good (l : List S27) : mayL l = 0 ↔ 1 ≤ l.length ∧ l.length ≤ 32 ∧ ∀ x ∈ l, GoodOp x := by
  unfold mayL
  by_cases c : l.length = 0
  · rw [if_pos c]; omega
  · rw [if_neg c]
    by_cases c2 : l.length > 32
    · rw [if_pos c2]; omega
    · rw [if_neg c2, mayGo_good]
      exact ⟨fun h => ⟨by omega, by omega, h⟩, fun h => h.2.2⟩
def opB (x : S27) : List Int := ints (putN x.f0.toNat) ++ textI x.f1 ++ (if x.f0 = 1 then textI x.f2 else [])
theorem textI_len (s : ByteArray) (h : s.size ≤ 100000) : (textI s).length ≤ 9 + s.size := by
  rw [textI_length]
  have := putN_len9 (n := s.size) (by omega)
  omega
theorem opB_len (x : S27) (h : GoodOp x) : (opB x).length ≤ 1000 := by
  obtain ⟨h0, h1, h2, _⟩ := h
  have g1 := textI_len x.f1 (by omega)
  have g2 := textI_len x.f2 (by omega)
  have g3 := putN_len9 (n := x.f0.toNat) (by omega)
  unfold opB
  rw [List.length_append, List.length_append, ints_length]
  by_cases c : x.f0 = 1
  · rw [if_pos c]; omega
  · rw [if_neg c, List.length_nil]; omega
def opsB (l : List S27) : List Int := l.flatMap opB
theorem opsB_len : ∀ l : List S27, (∀ x ∈ l, GoodOp x) → (opsB l).length ≤ 1000 * l.length
  | [], _ => Nat.le_refl _
  | x :: t, h => by
    have := opsB_len t (fun y hy => h y (List.mem_cons_of_mem _ hy))
    have := opB_len x (h x (by simp))
    unfold opsB at *
    rw [List.flatMap_cons, List.length_append, List.length_cons]; omega
theorem bput_l0 (l : List S27) (hl : l.length ≤ 1000) (hg : ∀ x ∈ l, GoodOp x) : ∀ (d i : Nat) (acc : List Int), i + d = l.length → acc.length + 1000 * d ≤ 100000000 → Ev (fun k => batch_Put.l0 k acc l (l.length : Int) (i : Int)) (acc ++ opsB (l.drop i))
  | 0, i, acc, hd, _ => by
    rw [List.drop_of_length_le (by omega)]
    refine Ev.step (f := fun _ => some (acc ++ opsB [])) (fun k => ?_) (Ev.now _)
    rw [batch_Put.l0, if_neg (by omega)]
    show some acc = some (acc ++ [])
    rw [List.append_nil]
  | d + 1, i, acc, hd, hb => by
    have hi : i < l.length := by omega
    have ew : wrap64 ((i : Int) + 1) = ((i + 1 : Nat) : Int) := by rw [w64 (by omega) (by omega)]; omega
    have ea : l.drop i = rd_T27 l (i : Int) :: l.drop (i + 1) := by rw [rd27_getE l i hi, List.drop_eq_getElem_cons hi]
    have hx : GoodOp (rd_T27 l (i : Int)) := by rw [rd27_getE l i hi]; exact hg _ (List.getElem_mem hi)
    obtain ⟨x, ex⟩ : ∃ x, x = rd_T27 l (i : Int) := ⟨_, rfl⟩
    rw [← ex] at ea hx
    have hlen := opB_len x hx
    have ih := bput_l0 l hl hg d (i + 1) (acc ++ opB x) (by omega) (by rw [List.length_append]; omega)
    have e1 : (acc ++ opB x) ++ opsB (l.drop (i + 1)) = acc ++ opsB (l.drop i) := by
      rw [ea]; unfold opsB; rw [List.flatMap_cons, List.append_assoc]
    rw [e1] at ih
    obtain ⟨g0, g1, g2, _⟩ := hx
    have p1 := put_ev x.f0.toNat (by omega)
    rw [Int.toNat_of_nonneg (by omega)] at p1
    have p2 := puttext_ev x.f1 (by omega)
    have p3 := puttext_ev x.f2 (by omega)
    have lt1 := textI_len x.f1 (by omega)
    have lt2 := textI_len x.f2 (by omega)
    have lt0 := putN_len9 (n := x.f0.toNat) (by omega)
    obtain ⟨K1, hK1⟩ := p1
    obtain ⟨K2, hK2⟩ := p2
    obtain ⟨K3, hK3⟩ := p3
    obtain ⟨K4, hK4⟩ := ih
    refine ⟨max (max K1 K2) (max K3 K4) + 1, fun k hk => ?_⟩
    obtain ⟨k', rfl⟩ : ∃ k', k = k' + 1 := ⟨k - 1, by omega⟩
    have q1 := hK1 k' (by omega)
    have q2 := hK2 k' (by omega)
    have q3 := hK3 k' (by omega)
    have q4 := hK4 k' (by omega)
    dsimp only at q1 q2 q3 q4
    show batch_Put.l0 (k' + 1) acc l (l.length : Int) (i : Int) = _
    have w1 : acc.length + (ints (putN x.f0.toNat)).length < 140737488355328 := by rw [ints_length]; omega
    have w2 : (acc ++ ints (putN x.f0.toNat)).length + (textI x.f1).length < 140737488355328 := by rw [List.length_append, ints_length]; omega
    have w3 : (acc ++ ints (putN x.f0.toNat) ++ textI x.f1).length + (textI x.f2).length < 140737488355328 := by rw [List.length_append, List.length_append, ints_length]; omega
    rw [batch_Put.l0, if_pos (by omega), if_pos (by omega), if_pos (by omega), ← ex, q1, Option.bind_some, if_pos w1, Option.bind_some, q2, Option.bind_some, if_pos w2, Option.bind_some]
    by_cases c : x.f0 = 1
    · have e2 : acc ++ ints (putN x.f0.toNat) ++ textI x.f1 ++ textI x.f2 = acc ++ opB x := by unfold opB; rw [if_pos c]; simp only [List.append_assoc]
      rw [if_pos c, q3, Option.bind_some, if_pos w3, ew, e2]; exact q4
    · have e2 : acc ++ ints (putN x.f0.toNat) ++ textI x.f1 = acc ++ opB x := by unfold opB; rw [if_neg c]; simp only [List.append_assoc, List.append_nil]
      rw [if_neg c, ew, e2]; exact q4
def batchB (seq : Int) (l : List S27) : List Int := ints (putN seq.toNat) ++ ints (putN l.length) ++ opsB l
def PutOk (seq : Int) (l : List S27) : Prop := mayL l = 0 ∧ 1 ≤ seq ∧ seq ≤ 9007199254740992 ∧ NormOf l = l
theorem bput_no (seq : Int) (l : List S27) : Ev (fun k => batch_Put.j0 k true seq l) [] := by
  refine Ev.step (f := fun _ => some []) (fun k => ?_) (Ev.now _)
  rw [batch_Put.j0, if_pos rfl]
theorem bput_ev (seq : Int) (l : List S27) (hl : l.length ≤ 1000) (hk : ∀ x ∈ l, x.f1.size ≤ 1000000) : (PutOk seq l → Ev (fun k => batch_Put.f k seq l) (batchB seq l)) ∧ (¬ PutOk seq l → Ev (fun k => batch_Put.f k seq l) []) := by
  have hm := mayL_ev l (by omega)
  obtain ⟨r, he, hr⟩ := eqOps_ev (NormOf l) l (Nat.le_trans (normOf_len l) (by omega))
  constructor
  · rintro ⟨g1, g2, g3, g4⟩
    rw [g1] at hm
    have hg := (mayL_good l).1 g1
    have p1 := put_ev seq.toNat (by omega)
    rw [Int.toNat_of_nonneg (by omega)] at p1
    have p2 := put_ev l.length (by omega)
    have len1 := putN_len9 (n := seq.toNat) (by omega)
    have len2 := putN_len9 (n := l.length) (by omega)
    have p3 := bput_l0 l hl hg.2.2 l.length 0 (ints (putN seq.toNat) ++ ints (putN l.length)) (by omega) (by rw [List.length_append, ints_length, ints_length]; omega)
    rw [List.drop_zero] at p3
    rw [hr.2 g4] at he
    obtain ⟨K0, hK0⟩ := hm
    obtain ⟨K1, hK1⟩ := p1
    obtain ⟨K2, hK2⟩ := p2
    obtain ⟨K3, hK3⟩ := p3
    obtain ⟨K4, hK4⟩ := he
    refine ⟨max (max K0 K1) (max (max K2 K3) K4) + 1, fun k hk' => ?_⟩
    have q0 := hK0 k (by omega)
    have q4 := hK4 k (by omega)
    obtain ⟨k', rfl⟩ : ∃ k', k = k' + 1 := ⟨k - 1, by omega⟩
    have q1 := hK1 k' (by omega)
    have q2 := hK2 k' (by omega)
    have q3 := hK3 k' (by omega)
    dsimp only at q0 q1 q2 q3 q4
    show batch_Put.f (k' + 1) seq l = _
    unfold batch_Put.f
    rw [q0, Option.bind_some, if_pos rfl, if_neg (by omega), if_neg (by omega), norm_ev l hl hk, Option.bind_some, q4, Option.bind_some]
    show batch_Put.j0 (k' + 1) false seq l = _
    rw [batch_Put.j0, if_neg Bool.false_ne_true, q1, Option.bind_some, q2, Option.bind_some, if_pos (by rw [ints_length, ints_length]; omega)]
    exact q3
  · intro hn
    have hno := bput_no seq l
    unfold batch_Put.f
    refine Ev.bind hm (f := fun k t245 => (if t245 = 0 then (if seq < 1 then (batch_Put.j0 k true seq l) else (if seq > 9007199254740992 then (batch_Put.j0 k true seq l) else ((batch_Norm.f k l).bind fun t246 => ((api_Op_41.f k t246 l).bind fun t249 => (batch_Put.j0 k (!t249) seq l))))) else (batch_Put.j0 k true seq l))) ?_
    by_cases c0 : mayL l = 0
    · by_cases c1 : seq < 1
      · exact Ev.congr (fun k => by rw [if_pos c0, if_pos c1]) hno
      · by_cases c2 : seq > 9007199254740992
        · exact Ev.congr (fun k => by rw [if_pos c0, if_neg c1, if_pos c2]) hno
        · have hrf : r = false := by
            cases r with
            | false => rfl
            | true => exact absurd ⟨c0, by omega, by omega, hr.1 rfl⟩ hn
          rw [hrf] at he
          refine Ev.congr (fun k => by rw [if_pos c0, if_neg c1, if_neg c2, norm_ev l hl hk, Option.bind_some]) (Ev.bind he (f := fun k t249 => batch_Put.j0 k (!t249) seq l) ?_)
          exact hno
    · exact Ev.congr (fun k => by rw [if_neg c0]) hno

/-! ### batch.Get: what bytes tell -/
theorem eqB_l0 (a b : List Int) (hl : a.length ≤ 1000000000) (he : a.length = b.length) : ∀ (d i : Nat), i + d = a.length → ∃ r : Bool, Ev (fun k => slices_Equal_byte_byte.l0 k a b (a.length : Int) (i : Int)) r ∧ (r = true ↔ a.drop i = b.drop i)
  | 0, i, hd => by
    refine ⟨true, Ev.step (f := fun _ => some true) (fun k => by rw [slices_Equal_byte_byte.l0, if_neg (by omega)]) (Ev.now _), ?_⟩
    rw [List.drop_of_length_le (by omega), List.drop_of_length_le (by omega)]; simp
  | d + 1, i, hd => by
    have hi : i < a.length := by omega
    have ew : wrap64 ((i : Int) + 1) = ((i + 1 : Nat) : Int) := by rw [w64 (by omega) (by omega)]; omega
    obtain ⟨r, h1, h2⟩ := eqB_l0 a b hl he d (i + 1) (by omega)
    have ea : a.drop i = rd a (i : Int) :: a.drop (i + 1) := by rw [rd_at hi, List.drop_eq_getElem_cons hi]
    have eb : b.drop i = rd b (i : Int) :: b.drop (i + 1) := by rw [rd_at (show i < b.length by omega), List.drop_eq_getElem_cons (by omega)]
    by_cases c : rd a (i : Int) = rd b (i : Int)
    · refine ⟨r, Ev.step (fun k => ?_) h1, ?_⟩
      · rw [slices_Equal_byte_byte.l0, if_pos (by omega), if_pos (by omega), if_pos (by omega), if_pos (by omega), if_pos c, ew]
      · rw [ea, eb, h2, c]; simp
    · refine ⟨false, Ev.step (f := fun _ => some false) (fun k => ?_) (Ev.now _), ?_⟩
      · rw [slices_Equal_byte_byte.l0, if_pos (by omega), if_pos (by omega), if_pos (by omega), if_pos (by omega), if_neg c]
      · rw [ea, eb]
        constructor
        · intro h; cases h
        · intro h; injection h with h _; exact absurd h c
theorem eqB_ev (a b : List Int) (hl : a.length ≤ 1000000000) : ∃ r : Bool, Ev (fun k => slices_Equal_byte_byte.f k a b) r ∧ (r = true ↔ a = b) := by
  unfold slices_Equal_byte_byte.f
  by_cases c : a.length = b.length
  · obtain ⟨r, h1, h2⟩ := eqB_l0 a b hl c a.length 0 (by omega)
    rw [List.drop_zero, List.drop_zero] at h2
    exact ⟨r, Ev.congr (fun k => by rw [if_pos (by omega)]; rfl) h1, h2⟩
  · refine ⟨false, Ev.congr (fun k => by rw [if_neg (by omega)]) (Ev.now _), ?_⟩
    constructor
    · intro h; cases h
    · intro h; exact absurd (congrArg List.length h) c
def numR (l : List Int) (p : Nat) : Option (Nat × Nat) := (getN 9 ((nats l).drop p)).map fun q => (q.1, p + q.2)
def textR (l : List Int) (p : Nat) : Option (ByteArray × Nat) := (getN 9 ((nats l).drop p)).bind fun q => if l.length < p + q.2 + q.1 then none else some (strOfNums ((l.take (p + q.2 + q.1)).drop (p + q.2)), p + q.2 + q.1)
def opR (l : List Int) (p : Nat) : Option (S27 × Nat) := (numR l p).bind fun a => (textR l a.2).bind fun b => if a.1 = 1 then (textR l b.2).bind fun c => some (⟨(a.1 : Int), b.1, c.1⟩, c.2) else some (⟨(a.1 : Int), b.1, (⟨#[]⟩ : ByteArray)⟩, b.2)
def opsR (l : List Int) : Nat → Nat → Option (List S27)
  | 0, _ => some []
  | n + 1, p => (opR l p).bind fun a => (opsR l n a.2).map fun t => a.1 :: t
theorem num_ev (l : List Int) (hb : Bytes l) (hl : l.length ≤ 1000000) (p : Nat) (hp : p ≤ l.length) :
    (∃ v q, numR l p = some (v, q) ∧ q ≤ l.length ∧ v < 9223372036854775808 ∧ Ev (fun k => num_Get.f k l (p : Int)) ((v : Int), (q : Int), true)) ∨ (numR l p = none ∧ ∃ a b, Ev (fun k => num_Get.f k l (p : Int)) (a, b, false)) := by
  have h := get_ev l hb (by omega) p (by omega)
  unfold numR
  cases ho : getN 9 ((nats l).drop p) with
  | none => rw [ho] at h; exact Or.inr ⟨rfl, _, _, h⟩
  | some q =>
    obtain ⟨v, n⟩ := q
    obtain ⟨g1, g2, g3⟩ := getN_bound 9 _ v n (fun c hc => nats_lt hb c (List.mem_of_mem_drop hc)) ho
    rw [List.length_drop, nats_length] at g3
    rw [ho] at h
    refine Or.inl ⟨v, p + n, rfl, by omega, g1, ?_⟩
    exact h
theorem text_ev (l : List Int) (hb : Bytes l) (hl : l.length ≤ 1000000) (p : Nat) (hp : p ≤ l.length) :
    (∃ s q, textR l p = some (s, q) ∧ q ≤ l.length ∧ s.size ≤ l.length ∧ Ev (fun k => num_GetText.f k l (p : Int)) (s, (q : Int), true)) ∨ (textR l p = none ∧ ∃ a b, Ev (fun k => num_GetText.f k l (p : Int)) (a, b, false)) := by
  have h := gettext_ev l hb (by omega) p (by omega)
  unfold textR
  cases ho : getN 9 ((nats l).drop p) with
  | none => rw [ho] at h; exact Or.inr ⟨rfl, _, _, h⟩
  | some q =>
    obtain ⟨v, n⟩ := q
    rw [ho] at h
    rw [Option.bind_some]
    simp only [toldT] at h
    by_cases c : l.length < p + n + v
    · rw [if_pos c] at h
      rw [if_pos c]
      exact Or.inr ⟨rfl, _, _, h⟩
    · rw [if_neg c] at h
      rw [if_neg c]
      refine Or.inl ⟨_, _, rfl, by omega, ?_, h⟩
      rw [strOfNums_size, List.length_drop, List.length_take]; omega
theorem op_ev (l : List Int) (hb : Bytes l) (hl : l.length ≤ 1000000) (p : Nat) (hp : p ≤ l.length) :
    (∃ x q, opR l p = some (x, q) ∧ q ≤ l.length ∧ x.f1.size ≤ l.length ∧ Ev (fun k => batch_op.f k l (p : Int)) (x.f0, x.f1, x.f2, (q : Int), true)) ∨ (opR l p = none ∧ ∃ a b c d, Ev (fun k => batch_op.f k l (p : Int)) (a, b, c, d, false)) := by
  unfold batch_op.f opR
  rcases num_ev l hb hl p hp with ⟨v, q, e1, hq, _, h1⟩ | ⟨e1, a, b, h1⟩
  case inr =>
    rw [e1]
    exact Or.inr ⟨rfl, _, _, _, _, Ev.bind h1 (f := fun k bt297 => (if bt297.2.2 = true then ((num_GetText.f k l bt297.2.1).bind fun bt300 => (if bt300.2.2 = true then (if bt297.1 = 1 then ((num_GetText.f k l bt300.2.1).bind fun bt303 => (some (bt297.1, bt300.1, bt303.1, bt303.2.1, bt303.2.2))) else (some (bt297.1, bt300.1, (⟨#[]⟩ : ByteArray), bt300.2.1, bt300.2.2))) else (some (bt297.1, bt300.1, (⟨#[]⟩ : ByteArray), bt300.2.1, bt300.2.2)))) else (some (bt297.1, (⟨#[]⟩ : ByteArray), (⟨#[]⟩ : ByteArray), bt297.2.1, bt297.2.2)))) (Ev.congr (fun k => by rw [if_neg Bool.false_ne_true]) (Ev.now _))⟩
  rw [e1, Option.bind_some]
  rcases text_ev l hb hl q hq with ⟨u, q2, e2, hq2, hu, h2⟩ | ⟨e2, a, b, h2⟩
  case inr =>
    rw [e2]
    refine Or.inr ⟨rfl, (v : Int), a, (⟨#[]⟩ : ByteArray), b, Ev.bind h1 (f := fun k bt297 => (if bt297.2.2 = true then ((num_GetText.f k l bt297.2.1).bind fun bt300 => (if bt300.2.2 = true then (if bt297.1 = 1 then ((num_GetText.f k l bt300.2.1).bind fun bt303 => (some (bt297.1, bt300.1, bt303.1, bt303.2.1, bt303.2.2))) else (some (bt297.1, bt300.1, (⟨#[]⟩ : ByteArray), bt300.2.1, bt300.2.2))) else (some (bt297.1, bt300.1, (⟨#[]⟩ : ByteArray), bt300.2.1, bt300.2.2)))) else (some (bt297.1, (⟨#[]⟩ : ByteArray), (⟨#[]⟩ : ByteArray), bt297.2.1, bt297.2.2)))) ?_⟩
    exact Ev.congr (fun k => by rw [if_pos rfl]) (Ev.bind h2 (f := fun k bt300 => (if bt300.2.2 = true then (if (v : Int) = 1 then ((num_GetText.f k l bt300.2.1).bind fun bt303 => (some ((v : Int), bt300.1, bt303.1, bt303.2.1, bt303.2.2))) else (some ((v : Int), bt300.1, (⟨#[]⟩ : ByteArray), bt300.2.1, bt300.2.2))) else (some ((v : Int), bt300.1, (⟨#[]⟩ : ByteArray), bt300.2.1, bt300.2.2)))) (Ev.congr (fun k => by rw [if_neg Bool.false_ne_true]) (Ev.now _)))
  rw [e2, Option.bind_some]
  have glue : ∀ r : Int × ByteArray × ByteArray × Int × Bool, Ev (fun k => (if (v : Int) = 1 then ((num_GetText.f k l (q2 : Int)).bind fun bt303 => (some ((v : Int), u, bt303.1, bt303.2.1, bt303.2.2))) else (some ((v : Int), u, (⟨#[]⟩ : ByteArray), (q2 : Int), true)))) r →
      Ev (fun k => (num_Get.f k l (p : Int)).bind fun bt297 => (if bt297.2.2 = true then ((num_GetText.f k l bt297.2.1).bind fun bt300 => (if bt300.2.2 = true then (if bt297.1 = 1 then ((num_GetText.f k l bt300.2.1).bind fun bt303 => (some (bt297.1, bt300.1, bt303.1, bt303.2.1, bt303.2.2))) else (some (bt297.1, bt300.1, (⟨#[]⟩ : ByteArray), bt300.2.1, bt300.2.2))) else (some (bt297.1, bt300.1, (⟨#[]⟩ : ByteArray), bt300.2.1, bt300.2.2)))) else (some (bt297.1, (⟨#[]⟩ : ByteArray), (⟨#[]⟩ : ByteArray), bt297.2.1, bt297.2.2)))) r := by
    intro r hr
    refine Ev.bind h1 (f := fun k bt297 => (if bt297.2.2 = true then ((num_GetText.f k l bt297.2.1).bind fun bt300 => (if bt300.2.2 = true then (if bt297.1 = 1 then ((num_GetText.f k l bt300.2.1).bind fun bt303 => (some (bt297.1, bt300.1, bt303.1, bt303.2.1, bt303.2.2))) else (some (bt297.1, bt300.1, (⟨#[]⟩ : ByteArray), bt300.2.1, bt300.2.2))) else (some (bt297.1, bt300.1, (⟨#[]⟩ : ByteArray), bt300.2.1, bt300.2.2)))) else (some (bt297.1, (⟨#[]⟩ : ByteArray), (⟨#[]⟩ : ByteArray), bt297.2.1, bt297.2.2)))) ?_
    refine Ev.congr (fun k => by rw [if_pos rfl]) (Ev.bind h2 (f := fun k bt300 => (if bt300.2.2 = true then (if (v : Int) = 1 then ((num_GetText.f k l bt300.2.1).bind fun bt303 => (some ((v : Int), bt300.1, bt303.1, bt303.2.1, bt303.2.2))) else (some ((v : Int), bt300.1, (⟨#[]⟩ : ByteArray), bt300.2.1, bt300.2.2))) else (some ((v : Int), bt300.1, (⟨#[]⟩ : ByteArray), bt300.2.1, bt300.2.2)))) ?_)
    exact Ev.congr (fun k => by rw [if_pos rfl]) hr
  by_cases c : v = 1
  · have c' : (v : Int) = 1 := by omega
    rw [if_pos c]
    rcases text_ev l hb hl q2 hq2 with ⟨s, q3, e3, hq3, hs, h3⟩ | ⟨e3, a, b, h3⟩
    · rw [e3]
      exact Or.inl ⟨_, _, rfl, hq3, hu, glue _ (Ev.congr (fun k => by rw [if_pos c']) (Ev.bind h3 (f := fun k bt303 => some ((v : Int), u, bt303.1, bt303.2.1, bt303.2.2)) (Ev.now _)))⟩
    · rw [e3]
      exact Or.inr ⟨rfl, _, _, _, _, glue _ (Ev.congr (fun k => by rw [if_pos c']) (Ev.bind h3 (f := fun k bt303 => some ((v : Int), u, bt303.1, bt303.2.1, bt303.2.2)) (Ev.now _)))⟩
  · have c' : ¬ (v : Int) = 1 := by omega
    rw [if_neg c]
    exact Or.inl ⟨_, _, rfl, hq2, hu, glue _ (Ev.congr (fun k => by rw [if_neg c']) (Ev.now _))⟩
/-- What Get answers, once operations have been read. -/
def Fin (l : List Int) (s : Int) (L : List S27) (res : Int × List S27 × Bool) : Prop := (PutOk s L ∧ batchB s L = l ∧ res = (s, L, true)) ∨ (¬ (PutOk s L ∧ batchB s L = l) ∧ res = (0, [], false))
theorem bget_fin (l : List Int) (hl : l.length ≤ 1000000) (hne : l ≠ []) (s : Int) (L : List S27) (hL : L.length ≤ 1000) (hk : ∀ x ∈ L, x.f1.size ≤ 1000000) :
    ∃ res, Ev (fun k => (batch_Put.f k s L).bind fun t325 => ((slices_Equal_byte_byte.f k t325 l).bind fun t328 => (if t328 = true then (if (l.length : Int) = 0 then (some (0, ([] : List (S27)), false)) else (some (s, L, true))) else (some (0, ([] : List (S27)), false))))) res ∧ Fin l s L res := by
  obtain ⟨h1, h2⟩ := bput_ev s L hL hk
  have hln : ¬ (l.length : Int) = 0 := fun e => hne (List.length_eq_zero_iff.1 (by omega))
  by_cases c : PutOk s L
  · have hb := h1 c
    have hbl : (batchB s L).length ≤ 1000000000 := by
      have g := ((mayL_good L).1 c.1).2
      have := opsB_len L g.2
      have l1 := putN_len9 (n := s.toNat) (by have := c.2.2.1; omega)
      have l2 := putN_len9 (n := L.length) (by omega)
      unfold batchB
      rw [List.length_append, List.length_append, ints_length, ints_length]; omega
    obtain ⟨r, he, hr⟩ := eqB_ev (batchB s L) l hbl
    refine ⟨if r = true then (s, L, true) else (0, [], false), Ev.bind hb (f := fun k t325 => ((slices_Equal_byte_byte.f k t325 l).bind fun t328 => (if t328 = true then (if (l.length : Int) = 0 then (some (0, ([] : List (S27)), false)) else (some (s, L, true))) else (some (0, ([] : List (S27)), false))))) (Ev.bind he (f := fun k t328 => (if t328 = true then (if (l.length : Int) = 0 then (some (0, ([] : List (S27)), false)) else (some (s, L, true))) else (some (0, ([] : List (S27)), false)))) ?_), ?_⟩
    · cases r with
      | true => exact Ev.congr (fun k => by rw [if_pos rfl, if_neg hln, if_pos rfl]) (Ev.now _)
      | false => exact Ev.congr (fun k => by rw [if_neg Bool.false_ne_true, if_neg Bool.false_ne_true]) (Ev.now _)
    · cases r with
      | true => exact Or.inl ⟨c, hr.1 rfl, rfl⟩
      | false => exact Or.inr ⟨fun h => Bool.false_ne_true (hr.2 h.2), rfl⟩
  · have hb := h2 c
    obtain ⟨r, he, hr⟩ := eqB_ev [] l (Nat.zero_le _)
    have hrf : r = false := by
      cases r with
      | false => rfl
      | true => exact absurd (hr.1 rfl).symm hne
    rw [hrf] at he
    refine ⟨(0, [], false), Ev.bind hb (f := fun k t325 => ((slices_Equal_byte_byte.f k t325 l).bind fun t328 => (if t328 = true then (if (l.length : Int) = 0 then (some (0, ([] : List (S27)), false)) else (some (s, L, true))) else (some (0, ([] : List (S27)), false))))) (Ev.bind he (f := fun k t328 => (if t328 = true then (if (l.length : Int) = 0 then (some (0, ([] : List (S27)), false)) else (some (s, L, true))) else (some (0, ([] : List (S27)), false)))) ?_), Or.inr ⟨fun h => c h.1, rfl⟩⟩
    exact Ev.congr (fun k => by rw [if_neg Bool.false_ne_true]) (Ev.now _)
theorem bget_l0 (l : List Int) (hb : Bytes l) (hl : l.length ≤ 1000000) (hne : l ≠ []) (s : Int) (n : Nat) (hn : n ≤ 32) : ∀ (d i p : Nat) (L : List S27), i + d = n → p ≤ l.length → L.length = i → (∀ x ∈ L, x.f1.size ≤ 1000000) →
    ∃ res, Ev (fun k => batch_Get.l0 k l (p : Int) (n : Int) (i : Int) s L) res ∧ match opsR l d p with
      | none => res = (0, [], false)
      | some t => Fin l s (L ++ t) res
  | 0, i, p, L, hd, hp, hL, hk => by
    obtain ⟨res, h1, h2⟩ := bget_fin l hl hne s L (by omega) hk
    refine ⟨res, Ev.step (fun k => ?_) h1, ?_⟩
    · rw [batch_Get.l0, if_neg (by omega)]
    · show Fin l s (L ++ []) res
      rw [List.append_nil]; exact h2
  | d + 1, i, p, L, hd, hp, hL, hk => by
    have ew : wrap64 ((i : Int) + 1) = ((i + 1 : Nat) : Int) := by rw [w64 (by omega) (by omega)]; omega
    rcases op_ev l hb hl p hp with ⟨x, q, e1, hq, hx, h1⟩ | ⟨e1, a, b, c, e, h1⟩
    · obtain ⟨res, h2, h3⟩ := bget_l0 l hb hl hne s n hn d (i + 1) q (L ++ [x]) (by omega) hq (by rw [List.length_append, List.length_singleton, hL]) (fun y hy => by
        rcases List.mem_append.1 hy with hy | hy
        · exact hk y hy
        · rw [List.mem_singleton.1 hy]; omega)
      refine ⟨res, Ev.step (fun k => by rw [batch_Get.l0, if_pos (by omega)]) (Ev.bind h1 (f := fun k bt316 => (if bt316.2.2.2.2 = true then (if L.length < 3518437208883 then (batch_Get.l0 k l bt316.2.2.2.1 (n : Int) (wrap64 ((i : Int) + 1)) s (L ++ [(⟨bt316.1, bt316.2.1, bt316.2.2.1⟩ : S27)])) else (none)) else (some (0, ([] : List (S27)), false)))) ?_), ?_⟩
      · exact Ev.congr (fun k => by rw [if_pos rfl, if_pos (by omega), ew]) h2
      · rw [opsR, e1, Option.bind_some]
        cases e2 : opsR l d q with
        | none => rw [e2] at h3; exact h3
        | some t =>
          rw [e2] at h3
          show Fin l s (L ++ x :: t) res
          have e4 : L ++ x :: t = L ++ [x] ++ t := by simp
          rw [e4]; exact h3
    · refine ⟨(0, [], false), Ev.step (fun k => by rw [batch_Get.l0, if_pos (by omega)]) (Ev.bind h1 (f := fun k bt316 => (if bt316.2.2.2.2 = true then (if L.length < 3518437208883 then (batch_Get.l0 k l bt316.2.2.2.1 (n : Int) (wrap64 ((i : Int) + 1)) s (L ++ [(⟨bt316.1, bt316.2.1, bt316.2.2.1⟩ : S27)])) else (none)) else (some (0, ([] : List (S27)), false)))) ?_), ?_⟩
      · exact Ev.congr (fun k => by rw [if_neg Bool.false_ne_true]) (Ev.now _)
      · rw [opsR, e1]; rfl
/-- All that bytes tell. -/
def allR (l : List Int) : Option (Int × List S27) := (numR l 0).bind fun a => (numR l a.2).bind fun b => if b.1 > 32 then none else (opsR l b.1 b.2).map fun t => ((a.1 : Int), t)
theorem bget_ev (l : List Int) (hb : Bytes l) (hl : l.length ≤ 1000000) : ∃ res, Ev (fun k => batch_Get.f k l) res ∧ ((res = (0, [], false) ∧ ∀ s L, allR l = some (s, L) → ¬ (PutOk s L ∧ batchB s L = l)) ∨ ∃ s L, allR l = some (s, L) ∧ PutOk s L ∧ batchB s L = l ∧ res = (s, L, true)) := by
  unfold batch_Get.f allR
  rcases num_ev l hb hl 0 (Nat.zero_le _) with ⟨v, q, e1, hq, _, h1⟩ | ⟨e1, a, b, h1⟩
  case inr =>
    refine ⟨(0, [], false), Ev.bind h1 (f := fun k bt310 => (if bt310.2.2 = true then ((num_Get.f k l bt310.2.1).bind fun bt313 => (if bt313.2.2 = true then (batch_Get.j0 k l bt310.1 bt313.2.1 bt313.1 (decide (bt313.1 > 32)) 0) else (batch_Get.j0 k l bt310.1 bt313.2.1 bt313.1 true 0))) else (some (0, ([] : List (S27)), false)))) (Ev.congr (fun k => by rw [if_neg Bool.false_ne_true]) (Ev.now _)), Or.inl ⟨rfl, fun s L h => ?_⟩⟩
    rw [e1] at h; cases h
  have hne : l ≠ [] := by
    intro e; subst e
    simp [numR, nats, getN] at e1
  rw [e1, Option.bind_some]
  have hj : ∀ x y z, Ev (fun k => batch_Get.j0 k l x y z true 0) ((0 : Int), ([] : List S27), false) := fun x y z => Ev.step (f := fun _ => some (0, [], false)) (fun k => by rw [batch_Get.j0, if_pos rfl]) (Ev.now _)
  rcases num_ev l hb hl q hq with ⟨n, q2, e2, hq2, _, h2⟩ | ⟨e2, a, b, h2⟩
  case inr =>
    refine ⟨(0, [], false), Ev.bind h1 (f := fun k bt310 => (if bt310.2.2 = true then ((num_Get.f k l bt310.2.1).bind fun bt313 => (if bt313.2.2 = true then (batch_Get.j0 k l bt310.1 bt313.2.1 bt313.1 (decide (bt313.1 > 32)) 0) else (batch_Get.j0 k l bt310.1 bt313.2.1 bt313.1 true 0))) else (some (0, ([] : List (S27)), false)))) (Ev.congr (fun k => by rw [if_pos rfl]) (Ev.bind h2 (f := fun k bt313 => (if bt313.2.2 = true then (batch_Get.j0 k l (v : Int) bt313.2.1 bt313.1 (decide (bt313.1 > 32)) 0) else (batch_Get.j0 k l (v : Int) bt313.2.1 bt313.1 true 0))) (Ev.congr (fun k => by rw [if_neg Bool.false_ne_true]) (hj _ _ _)))), Or.inl ⟨rfl, fun s L h => ?_⟩⟩
    rw [e2] at h; cases h
  rw [e2, Option.bind_some]
  have glue : ∀ r, Ev (fun k => batch_Get.j0 k l (v : Int) (q2 : Int) (n : Int) (decide ((n : Int) > 32)) 0) r → Ev (fun k => (num_Get.f k l 0).bind fun bt310 => (if bt310.2.2 = true then ((num_Get.f k l bt310.2.1).bind fun bt313 => (if bt313.2.2 = true then (batch_Get.j0 k l bt310.1 bt313.2.1 bt313.1 (decide (bt313.1 > 32)) 0) else (batch_Get.j0 k l bt310.1 bt313.2.1 bt313.1 true 0))) else (some (0, ([] : List (S27)), false)))) r := by
    intro r hr
    refine Ev.bind h1 (f := fun k bt310 => (if bt310.2.2 = true then ((num_Get.f k l bt310.2.1).bind fun bt313 => (if bt313.2.2 = true then (batch_Get.j0 k l bt310.1 bt313.2.1 bt313.1 (decide (bt313.1 > 32)) 0) else (batch_Get.j0 k l bt310.1 bt313.2.1 bt313.1 true 0))) else (some (0, ([] : List (S27)), false)))) ?_
    refine Ev.congr (fun k => by rw [if_pos rfl]) (Ev.bind h2 (f := fun k bt313 => (if bt313.2.2 = true then (batch_Get.j0 k l (v : Int) bt313.2.1 bt313.1 (decide (bt313.1 > 32)) 0) else (batch_Get.j0 k l (v : Int) bt313.2.1 bt313.1 true 0))) ?_)
    exact Ev.congr (fun k => by rw [if_pos rfl]) hr
  by_cases c : n > 32
  · refine ⟨(0, [], false), glue _ (by rw [decide_eq_true (show (n : Int) > 32 by omega)]; exact hj _ _ _), Or.inl ⟨rfl, fun s L h => ?_⟩⟩
    rw [if_pos c] at h; cases h
  · obtain ⟨res, h3, h4⟩ := bget_l0 l hb hl hne (v : Int) n (by omega) n 0 q2 [] (by omega) hq2 rfl (by simp)
    refine ⟨res, glue _ (by
      rw [decide_eq_false (show ¬ (n : Int) > 32 by omega)]
      exact Ev.step (fun k => by rw [batch_Get.j0, if_neg Bool.false_ne_true]; rfl) h3), ?_⟩
    rw [if_neg c]
    cases e3 : opsR l n q2 with
    | none =>
      rw [e3] at h4
      exact Or.inl ⟨h4, fun s L h => by cases h⟩
    | some t =>
      rw [e3] at h4
      replace h4 : Fin l (v : Int) t res := h4
      rcases h4 with ⟨g1, g2, g3⟩ | ⟨g1, g2⟩
      · exact Or.inr ⟨_, _, rfl, g1, g2, g3⟩
      · refine Or.inl ⟨g2, fun s L h => ?_⟩
        rw [Option.map_some] at h
        injection h with h; injection h with ha hb2
        rw [← ha, ← hb2]; exact g1

/-! ### a batch's bytes are told again -/
theorem nats_at (A B : List Int) : (nats (A ++ B)).drop A.length = nats B := by
  rw [nats_append, List.drop_append_of_le_length (by rw [nats_length]; exact Nat.le_refl _), List.drop_of_length_le (by rw [nats_length]; exact Nat.le_refl _), List.nil_append]
theorem numR_at (A R : List Int) (v : Nat) (h : v < 9223372036854775808) : numR (A ++ (ints (putN v) ++ R)) A.length = some (v, A.length + (putN v).length) := by
  unfold numR
  rw [nats_at, nats_append, nats_ints, get_put9 v (nats R) h]; rfl
theorem textR_at (A R : List Int) (s : ByteArray) (h : s.size ≤ 1000000) : textR (A ++ (textI s ++ R)) A.length = some (s, A.length + (textI s).length) := by
  unfold textR
  have e0 : textI s ++ R = ints (putN s.size) ++ (bytesOf s ++ R) := by unfold textI; rw [List.append_assoc]
  have hl : (textI s).length = (putN s.size).length + s.size := textI_length s
  rw [e0, nats_at, nats_append, nats_ints, get_put9 s.size _ (by omega), Option.bind_some]
  dsimp only
  have hlen : (A ++ (ints (putN s.size) ++ (bytesOf s ++ R))).length = A.length + (putN s.size).length + s.size + R.length := by
    rw [List.length_append, List.length_append, List.length_append, ints_length, bytesOf_length]; omega
  rw [hlen, if_neg (by omega), hl]
  have e1 : ((A ++ (ints (putN s.size) ++ (bytesOf s ++ R))).take (A.length + (putN s.size).length + s.size)).drop (A.length + (putN s.size).length) = bytesOf s := by
    rw [List.drop_take, show A.length + (putN s.size).length + s.size - (A.length + (putN s.size).length) = s.size by omega]
    have e2 : A ++ (ints (putN s.size) ++ (bytesOf s ++ R)) = (A ++ ints (putN s.size)) ++ (bytesOf s ++ R) := by rw [List.append_assoc]
    have e3 : (A ++ ints (putN s.size)).length = A.length + (putN s.size).length := by rw [List.length_append, ints_length]
    rw [e2, ← e3, List.drop_left, List.take_append_of_le_length (by rw [bytesOf_length]; exact Nat.le_refl _), List.take_of_length_le (by rw [bytesOf_length]; exact Nat.le_refl _)]
  rw [e1, strOf_bytes, Nat.add_assoc]
theorem opR_at (A R : List Int) (x : S27) (h : GoodOp x) : opR (A ++ (opB x ++ R)) A.length = some (x, A.length + (opB x).length) := by
  obtain ⟨h0, h1, h2, h3⟩ := h
  unfold opR
  by_cases c : x.f0 = 1
  · have e : A ++ (opB x ++ R) = A ++ (ints (putN x.f0.toNat) ++ (textI x.f1 ++ (textI x.f2 ++ R))) := by unfold opB; rw [if_pos c]; simp only [List.append_assoc]
    have e2 : A ++ (ints (putN x.f0.toNat) ++ (textI x.f1 ++ (textI x.f2 ++ R))) = (A ++ ints (putN x.f0.toNat)) ++ (textI x.f1 ++ (textI x.f2 ++ R)) := by simp only [List.append_assoc]
    have e3 : A ++ (ints (putN x.f0.toNat) ++ (textI x.f1 ++ (textI x.f2 ++ R))) = (A ++ ints (putN x.f0.toNat) ++ textI x.f1) ++ (textI x.f2 ++ R) := by simp only [List.append_assoc]
    have l1 : (A ++ ints (putN x.f0.toNat)).length = A.length + (putN x.f0.toNat).length := by rw [List.length_append, ints_length]
    have l2 : (A ++ ints (putN x.f0.toNat) ++ textI x.f1).length = A.length + (putN x.f0.toNat).length + (textI x.f1).length := by rw [List.length_append, l1]
    have l3 : (opB x).length = (putN x.f0.toNat).length + (textI x.f1).length + (textI x.f2).length := by unfold opB; rw [if_pos c, List.length_append, List.length_append, ints_length]
    rw [e, numR_at A _ x.f0.toNat (by omega), Option.bind_some]
    dsimp only
    rw [e2, ← l1, textR_at _ _ x.f1 (by omega), Option.bind_some, if_pos (by omega)]
    dsimp only
    rw [← e2, e3, l1, ← l2, textR_at _ _ x.f2 (by omega), Option.bind_some, l2, l3]
    have ex : (⟨(x.f0.toNat : Int), x.f1, x.f2⟩ : S27) = x := by rw [Int.toNat_of_nonneg (by omega)]
    rw [ex]
    simp only [Nat.add_assoc]
  · have c2 : x.f0 = 2 := by omega
    have e : A ++ (opB x ++ R) = A ++ (ints (putN x.f0.toNat) ++ (textI x.f1 ++ R)) := by unfold opB; rw [if_neg c]; simp only [List.append_assoc, List.append_nil]
    have e2 : A ++ (ints (putN x.f0.toNat) ++ (textI x.f1 ++ R)) = (A ++ ints (putN x.f0.toNat)) ++ (textI x.f1 ++ R) := by simp only [List.append_assoc]
    have l1 : (A ++ ints (putN x.f0.toNat)).length = A.length + (putN x.f0.toNat).length := by rw [List.length_append, ints_length]
    have l3 : (opB x).length = (putN x.f0.toNat).length + (textI x.f1).length := by unfold opB; rw [if_neg c, List.length_append, List.length_append, ints_length, List.length_nil]; omega
    have hf : x.f2 = (⟨#[]⟩ : ByteArray) := tl_inj (by rw [h3 c2, Go.ByteArray.toList_eq])
    rw [e, numR_at A _ x.f0.toNat (by omega), Option.bind_some]
    dsimp only
    rw [e2, ← l1, textR_at _ _ x.f1 (by omega), Option.bind_some, if_neg (by omega), l1, l3]
    have ex : (⟨(x.f0.toNat : Int), x.f1, (⟨#[]⟩ : ByteArray)⟩ : S27) = x := by rw [Int.toNat_of_nonneg (by omega), ← hf]
    rw [ex]
    simp only [Nat.add_assoc]
theorem opsR_at (R : List Int) : ∀ (L : List S27) (A : List Int), (∀ x ∈ L, GoodOp x) → opsR (A ++ (opsB L ++ R)) L.length A.length = some L
  | [], A, _ => rfl
  | x :: t, A, h => by
    have e : A ++ (opsB (x :: t) ++ R) = A ++ (opB x ++ (opsB t ++ R)) := by unfold opsB; rw [List.flatMap_cons]; simp only [List.append_assoc]
    have e2 : A ++ (opB x ++ (opsB t ++ R)) = (A ++ opB x) ++ (opsB t ++ R) := by simp only [List.append_assoc]
    have ih := opsR_at R t (A ++ opB x) (fun y hy => h y (List.mem_cons_of_mem _ hy))
    rw [List.length_append] at ih
    rw [e, List.length_cons, opsR, opR_at A _ x (h x (by simp)), Option.bind_some]
    dsimp only
    rw [e2, ih]; rfl
theorem allR_put (s : Int) (L : List S27) (h : PutOk s L) : allR (batchB s L) = some (s, L) := by
  obtain ⟨h1, h2, h3, h4⟩ := h
  obtain ⟨g1, g2, g3⟩ := (mayL_good L).1 h1
  have e1 : batchB s L = ([] : List Int) ++ (ints (putN s.toNat) ++ (ints (putN L.length) ++ opsB L)) := by unfold batchB; simp only [List.append_assoc, List.nil_append]
  have e2 : batchB s L = ints (putN s.toNat) ++ (ints (putN L.length) ++ opsB L) := by unfold batchB; simp only [List.append_assoc]
  have e3 : batchB s L = (ints (putN s.toNat) ++ ints (putN L.length)) ++ (opsB L ++ []) := by unfold batchB; simp only [List.append_nil]
  have l1 : (ints (putN s.toNat)).length = (putN s.toNat).length := ints_length _
  have l2 : (ints (putN s.toNat) ++ ints (putN L.length)).length = (putN s.toNat).length + (putN L.length).length := by rw [List.length_append, ints_length, ints_length]
  have n1 : numR (batchB s L) 0 = some (s.toNat, (putN s.toNat).length) := by
    have := numR_at [] (ints (putN L.length) ++ opsB L) s.toNat (by omega)
    rw [← e1] at this
    rw [List.length_nil, Nat.zero_add] at this; exact this
  have n2 : numR (batchB s L) (putN s.toNat).length = some (L.length, (putN s.toNat).length + (putN L.length).length) := by
    have := numR_at (ints (putN s.toNat)) (opsB L) L.length (by omega)
    rw [← e2, l1] at this; exact this
  have n3 : opsR (batchB s L) L.length ((putN s.toNat).length + (putN L.length).length) = some L := by
    have := opsR_at [] L (ints (putN s.toNat) ++ ints (putN L.length)) g3
    rw [← e3, l2] at this; exact this
  unfold allR
  rw [n1, Option.bind_some]
  dsimp only
  rw [n2, Option.bind_some]
  dsimp only
  rw [if_neg (by omega), n3, Option.map_some, Int.toNat_of_nonneg (by omega)]
theorem opB_bytes (x : S27) : Bytes (opB x) := by
  intro y hy
  unfold opB at hy
  rcases List.mem_append.1 hy with h | h
  · rcases List.mem_append.1 h with h | h
    · exact ints_bytes (putN_lt _ _ (Nat.le_refl _)) y h
    · exact textI_bytes _ y h
  · by_cases c : x.f0 = 1
    · rw [if_pos c] at h; exact textI_bytes _ y h
    · rw [if_neg c] at h; cases h
theorem batchB_bytes (s : Int) (L : List S27) : Bytes (batchB s L) := by
  intro y hy
  unfold batchB at hy
  rcases List.mem_append.1 hy with h | h
  · rcases List.mem_append.1 h with h | h
    · exact ints_bytes (putN_lt _ _ (Nat.le_refl _)) y h
    · exact ints_bytes (putN_lt _ _ (Nat.le_refl _)) y h
  · unfold opsB at h
    obtain ⟨x, _, hx⟩ := List.mem_flatMap.1 h
    exact opB_bytes x y hx
theorem batchB_len (s : Int) (L : List S27) (h : PutOk s L) : 1 ≤ (batchB s L).length ∧ (batchB s L).length ≤ 40000 := by
  obtain ⟨h1, h2, h3, h4⟩ := h
  obtain ⟨g1, g2, g3⟩ := (mayL_good L).1 h1
  have := opsB_len L g3
  have l1 := putN_len9 (n := s.toNat) (by omega)
  have l2 := putN_len9 (n := L.length) (by omega)
  unfold batchB
  rw [List.length_append, List.length_append, ints_length, ints_length]; omega
theorem bget_put (s : Int) (L : List S27) (h : PutOk s L) : Ev (fun k => batch_Get.f k (batchB s L)) (s, L, true) := by
  have hlen := batchB_len s L h
  obtain ⟨res, h1, h2⟩ := bget_ev (batchB s L) (batchB_bytes s L) (by omega)
  have ha := allR_put s L h
  rcases h2 with ⟨_, h2⟩ | ⟨s', L', h3, _, _, h4⟩
  · exact absurd ⟨h, rfl⟩ (h2 s L ha)
  · rw [ha] at h3
    injection h3 with h3; injection h3 with ea eb
    rw [h4, ← ea, ← eb] at h1; exact h1

theorem bb_raw (raw : List Int) (hb : Bytes raw) (hl : raw.length ≤ 3000) : Ev (fun k => (batch_Get.f k raw).bind fun bt => (if bt.2.2 = true then ((batch_Put.f k bt.1 bt.2.1).bind fun t358 => (if (strOfNums t358).toList = (strOfNums raw).toList then ((iceboxlaw8_awake.f k).bind fun t361 => (some t361)) else (some false))) else (if bt.1 = 0 then (if (bt.2.1.length : Int) = 0 then ((iceboxlaw8_awake.f k).bind fun t362 => (some t362)) else (some false)) else (some false)))) true := by
  obtain ⟨res, h1, h2⟩ := bget_ev raw hb (by omega)
  refine Ev.bind h1 (f := fun k bt => (if bt.2.2 = true then ((batch_Put.f k bt.1 bt.2.1).bind fun t358 => (if (strOfNums t358).toList = (strOfNums raw).toList then ((iceboxlaw8_awake.f k).bind fun t361 => (some t361)) else (some false))) else (if bt.1 = 0 then (if (bt.2.1.length : Int) = 0 then ((iceboxlaw8_awake.f k).bind fun t362 => (some t362)) else (some false)) else (some false)))) ?_
  rcases h2 with ⟨rfl, _⟩ | ⟨s, L, _, h3, h4, rfl⟩
  · exact Ev.congr (fun k => by rw [if_neg Bool.false_ne_true, if_pos rfl]; rfl) (Ev.bind awake8_ev (f := fun k t => some t) (Ev.now _))
  · obtain ⟨g1, g2, g3⟩ := (mayL_good L).1 h3.1
    have hp := (bput_ev s L (by omega) (fun x hx => by have := (g3 x hx).2.1; omega)).1 h3
    rw [h4] at hp
    refine Ev.congr (fun k => by rw [if_pos rfl]) (Ev.bind hp (f := fun k t358 => (if (strOfNums t358).toList = (strOfNums raw).toList then ((iceboxlaw8_awake.f k).bind fun t361 => (some t361)) else (some false))) ?_)
    exact Ev.congr (fun k => by rw [if_pos rfl]) (Ev.bind awake8_ev (f := fun k t => some t) (Ev.now _))
theorem bb_j1 (raw : List Int) (hb : Bytes raw) (hl : raw.length ≤ 3000) : Ev (fun k => iceboxlaw8_BatchBack.j1 k raw false) true :=
  Ev.step (fun k => by rw [iceboxlaw8_BatchBack.j1, if_neg Bool.false_ne_true]) (bb_raw raw hb hl)
theorem BatchBack : iceboxlaw8_BatchBack.Pure := by
  intro l a raw _ hwf ha _ _ hraw
  have ga := wf_u32 ha
  have hb := bytes_wf hraw
  have hj : Ev (fun k => iceboxlaw8_BatchBack.j0 k l a raw true) true := by
    refine Ev.step (f := fun k => (iceboxlaw8_awake.f k).bind fun t => some t) (fun k => ?_) (Ev.bind awake8_ev (f := fun k t => some t) (Ev.now _))
    rw [iceboxlaw8_BatchBack.j0, if_pos rfl]
  apply Ev.rounds
  unfold iceboxlaw8_BatchBack.f
  rcases great27 l with hg | ⟨hg, hl, hk⟩
  · exact Ev.bind hg (f := fun k t334 => if t334 = true then (iceboxlaw8_BatchBack.j0 k l a raw true) else (iceboxlaw8_BatchBack.j0 k l a raw (decide ((raw.length : Int) > 3000)))) (Ev.congr (fun k => by rw [if_pos rfl]) hj)
  refine Ev.bind hg (f := fun k t334 => if t334 = true then (iceboxlaw8_BatchBack.j0 k l a raw true) else (iceboxlaw8_BatchBack.j0 k l a raw (decide ((raw.length : Int) > 3000)))) ?_
  by_cases c : (raw.length : Int) > 3000
  · exact Ev.congr (fun k => by rw [if_neg Bool.false_ne_true, decide_eq_true c]) hj
  refine Ev.congr (f := fun k => iceboxlaw8_BatchBack.j0 k l a raw false) (fun k => by rw [if_neg Bool.false_ne_true, decide_eq_false c]) ?_
  have ew : wrap64 (1 + wrap64 a) = 1 + a := by rw [w64 (x := a) (by omega) (by omega), w64 (by omega) (by omega)]
  have hN := normed_of l
  have hNl : (NormOf l).length ≤ 60 := Nat.le_trans (normOf_len l) hl
  have hs : ∀ x ∈ NormOf l, x.f1.size ≤ 1000000 := fun x hx => by have := hk x ((hN.2 x).1 hx).mem; omega
  have hnn := normOf_self hN.1
  have hm := mayL_ev (NormOf l) (by omega)
  obtain ⟨hp1, hp2⟩ := bput_ev (1 + a) (NormOf l) (by omega) hs
  obtain ⟨K0, hK0⟩ := hm
  by_cases cm : mayL (NormOf l) = 0
  · have hok : PutOk (1 + a) (NormOf l) := ⟨cm, by omega, by omega, hnn⟩
    have hlen := batchB_len _ _ hok
    obtain ⟨K1, hK1⟩ := hp1 hok
    obtain ⟨K2, hK2⟩ := bget_put _ _ hok
    obtain ⟨K3, hK3⟩ := same27f_ev (NormOf l) (by omega)
    obtain ⟨K4, hK4⟩ := bb_j1 raw hb (by omega)
    refine ⟨max (max K0 K1) (max (max K2 K3) K4) + 1, fun k hk' => ?_⟩
    obtain ⟨k', rfl⟩ : ∃ k', k = k' + 1 := ⟨k - 1, by omega⟩
    have q0 := hK0 k' (by omega)
    have q1 := hK1 k' (by omega)
    have q2 := hK2 k' (by omega)
    have q3 := hK3 k' (by omega)
    have q4 := hK4 k' (by omega)
    dsimp only at q0 q1 q2 q3 q4
    show iceboxlaw8_BatchBack.j0 (k' + 1) l a raw false = some true
    have q5 : iceboxref1_SameBatch.f k' (1 + a) (NormOf l) (1 + a) (NormOf l) = some true := by
      unfold iceboxref1_SameBatch.f
      rw [if_pos rfl, q3]; rfl
    rw [iceboxlaw8_BatchBack.j0, if_neg Bool.false_ne_true, norm_ev l (by omega) (fun x hx => by have := hk x hx; omega), Option.bind_some, ew, q1, Option.bind_some, q2, Option.bind_some, q0, Option.bind_some, cm]
    unfold iceboxlaw1_Num.f
    simp only [Option.bind_some]
    rw [if_pos trivial, if_pos trivial, q5, Option.bind_some, if_pos rfl]
    have e0 : (((batchB (1 + a) (NormOf l)).length : Int) == 0) = false := beq_eq_false_iff_ne.2 (by omega)
    rw [e0]; exact q4
  · have hno : ¬ PutOk (1 + a) (NormOf l) := fun h => cm h.1
    obtain ⟨K1, hK1⟩ := hp2 hno
    obtain ⟨res, hr, _⟩ := bget_ev [] (fun x hx => by cases hx) (by simp)
    obtain ⟨K2, hK2⟩ := hr
    obtain ⟨K4, hK4⟩ := bb_raw raw hb (by omega)
    refine ⟨max (max K0 K1) (max K2 K4) + 1, fun k hk' => ?_⟩
    obtain ⟨k', rfl⟩ : ∃ k', k = k' + 1 := ⟨k - 1, by omega⟩
    have q0 := hK0 k' (by omega)
    have q1 := hK1 k' (by omega)
    have q2 := hK2 k' (by omega)
    have q4 := hK4 k' (by omega)
    dsimp only at q0 q1 q2 q4
    show iceboxlaw8_BatchBack.j0 (k' + 1) l a raw false = some true
    rw [iceboxlaw8_BatchBack.j0, if_neg Bool.false_ne_true, norm_ev l (by omega) (fun x hx => by have := hk x hx; omega), Option.bind_some, ew, q1, Option.bind_some, q2, Option.bind_some, q0, Option.bind_some]
    unfold iceboxlaw1_Num.f
    simp only [Option.bind_some]
    rw [if_neg cm]; exact q4

end Go.Proofs.Ytgannkfpfhdhjaa.Pure
