/- The pure statement of the law ReplayJoins: over the Lean functions that the Go code was shown to compute, the law answers true for every input within the statement's own bounds. No further conditions. -/
import Derived.Test.YtgannkfpfhdhjaaPReplayJoinsx2
import Derived.Test.YtgannkfpfhdhjaaPReplayJoinsx3
import Derived.Test.YtgannkfpfhdhjaaPReplayJoinsx4
import Derived.Test.YtgannkfpfhdhjaaPReplayJoinsx5
import Derived.Test.YtgannkfpfhdhjaaPReplayJoinsx6
import Derived.Test.YtgannkfpfhdhjaaPReplayJoinsx7
import Derived.Test.YtgannkfpfhdhjaaPReplayJoinsx8
import Derived.Test.YtgannkfpfhdhjaaPReplayJoinsx9
import Derived.Test.YtgannkfpfhdhjaaPReplayJoinsx10
import Derived.Test.YtgannkfpfhdhjaaPReplayJoinsx11
namespace Go.Proofs.Ytgannkfpfhdhjaa.Pure
open Go.RowKit Go.Proofs.Ytgannkfpfhdhjaa.PReplayJoins Go.Proofs.YtgannkfpfhdhjaaW.PrintWords Go.Proofs.YtgannkfpfhdhjaaW.PrintLast Go.Proofs.YtgannkfpfhdhjaaW.PrintMore
set_option linter.unusedVariables false
set_option linter.unusedSimpArgs false

theorem w64 {x : Int} (h0 : -9223372036854775808 ≤ x) (h1 : x < 9223372036854775808) : wrap64 x = x := by
  unfold wrap64; omega
theorem bits_xor_nat (k : IntKind) (j : Nat) (hj : j ≤ k.bits) (hk : ∀ n : Int, 0 ≤ n → n < 2 ^ j → k.wrap n = n) (a b : Nat) (ha : a < 2 ^ j) (hb : b < 2 ^ j) :
    Go.bits .xor k a b = ((a ^^^ b : Nat) : Int) := by
  have hp : 2 ^ j ≤ 2 ^ k.bits := Nat.pow_le_pow_right (by decide) hj
  have ha' : a % 2 ^ k.bits = a := Nat.mod_eq_of_lt (Nat.lt_of_lt_of_le ha hp)
  have hb' : b % 2 ^ k.bits = b := Nat.mod_eq_of_lt (Nat.lt_of_lt_of_le hb hp)
  simp only [Go.bits, BitVec.ofInt_natCast, BitVec.toNat_xor, BitVec.toNat_ofNat, ha', hb']
  exact hk _ (Int.natCast_nonneg _) (by exact_mod_cast Nat.xor_lt_two_pow ha hb)
theorem wr_u32 (n : Int) (h₀ : 0 ≤ n) (h₁ : n < 2 ^ 32) : IntKind.u32.wrap n = n := by rw [IntKind.wrap_u32]; omega
theorem wr_u8 (n : Int) (h₀ : 0 ≤ n) (h₁ : n < 2 ^ 8) : IntKind.u8.wrap n = n := by rw [IntKind.wrap_u8]; omega
theorem wr_i64 (n : Int) (h₀ : 0 ≤ n) (h₁ : n < 2 ^ 63) : IntKind.i64.wrap n = n := by rw [IntKind.wrap_i64]; omega
theorem wr_u64 (n : Int) : IntKind.u64.wrap n = n % 18446744073709551616 := by simp [IntKind.wrap, IntKind.bits, IntKind.signed]
theorem bx_u32 (a b : Nat) (ha : a < 2 ^ 32) (hb : b < 2 ^ 32) : Go.bits .xor .u32 a b = ((a ^^^ b : Nat) : Int) := bits_xor_nat .u32 32 (by decide) wr_u32 a b ha hb
theorem bx_u8 (a b : Nat) (ha : a < 2 ^ 8) (hb : b < 2 ^ 8) : Go.bits .xor .u8 a b = ((a ^^^ b : Nat) : Int) := bits_xor_nat .u8 8 (by decide) wr_u8 a b ha hb
theorem bx_i64 (a b : Nat) (ha : a < 2 ^ 63) (hb : b < 2 ^ 63) : Go.bits .xor .i64 a b = ((a ^^^ b : Nat) : Int) := bits_xor_nat .i64 63 (by decide) wr_i64 a b ha hb
theorem bo_i64 (a b : Nat) (ha : a < 2 ^ 63) (hb : b < 2 ^ 63) : Go.bits .or .i64 a b = ((a ||| b : Nat) : Int) := (bits_nat .i64 63 (by decide) wr_i64 a b ha hb).2
theorem bo_u8 (a b : Nat) (ha : a < 2 ^ 8) (hb : b < 2 ^ 8) : Go.bits .or .u8 a b = ((a ||| b : Nat) : Int) := (bits_nat .u8 8 (by decide) wr_u8 a b ha hb).2
theorem ba_u8 (a b : Nat) (ha : a < 2 ^ 8) (hb : b < 2 ^ 8) : Go.bits .and .u8 a b = ((a &&& b : Nat) : Int) := (bits_nat .u8 8 (by decide) wr_u8 a b ha hb).1
theorem ba_u32 (a b : Nat) (ha : a < 2 ^ 32) (hb : b < 2 ^ 32) : Go.bits .and .u32 a b = ((a &&& b : Nat) : Int) := (bits_nat .u32 32 (by decide) wr_u32 a b ha hb).1
theorem max_u32 : IntKind.u32.max = ((4294967295 : Nat) : Int) := by decide
theorem wf_u8 {x : Int} (h : (Lit.int .u8 x).wf = true) : 0 ≤ x ∧ x < 256 := by
  simp [Lit.wf, IntKind.min, IntKind.max, IntKind.signed, IntKind.bits] at h; omega
theorem wf_u16 {x : Int} (h : (Lit.int .u16 x).wf = true) : 0 ≤ x ∧ x < 65536 := by
  simp [Lit.wf, IntKind.min, IntKind.max, IntKind.signed, IntKind.bits] at h; omega
theorem wf_u32 {x : Int} (h : (Lit.int .u32 x).wf = true) : 0 ≤ x ∧ x < 4294967296 := by
  simp [Lit.wf, IntKind.min, IntKind.max, IntKind.signed, IntKind.bits] at h; omega
theorem wf_u64 {x : Int} (h : (Lit.int .u64 x).wf = true) : 0 ≤ x ∧ x < 18446744073709551616 := by
  simp [Lit.wf, IntKind.min, IntKind.max, IntKind.signed, IntKind.bits] at h; omega
theorem wf_i64 {x : Int} (h : (Lit.int .i64 x).wf = true) : -9223372036854775808 ≤ x ∧ x < 9223372036854775808 := by
  simp [Lit.wf, IntKind.min, IntKind.max, IntKind.signed, IntKind.bits] at h; omega

theorem bless_irrefl : ∀ x : List UInt8, Op.bytesLess x x = false
  | [] => rfl
  | a :: x => by simp [Op.bytesLess, bless_irrefl x]
theorem bless_trans : ∀ x y z : List UInt8, Op.bytesLess x y = true → Op.bytesLess y z = true → Op.bytesLess x z = true
  | _, [], _, h, _ => by simp [Op.bytesLess] at h
  | _, _ :: _, [], _, h => by simp [Op.bytesLess] at h
  | [], _ :: _, _ :: _, _, _ => rfl
  | a :: x, b :: y, c :: z, h1, h2 => by
    simp only [Op.bytesLess, Bool.or_eq_true, decide_eq_true_eq, Bool.and_eq_true, beq_iff_eq] at h1 h2 ⊢
    rcases h1 with h1 | ⟨rfl, h1⟩
    · rcases h2 with h2 | ⟨rfl, h2⟩
      · exact Or.inl (UInt8.lt_trans h1 h2)
      · exact Or.inl h1
    · rcases h2 with h2 | ⟨rfl, h2⟩
      · exact Or.inl h2
      · exact Or.inr ⟨rfl, bless_trans x y z h1 h2⟩
theorem bless_total : ∀ x y : List UInt8, Op.bytesLess x y = true ∨ x = y ∨ Op.bytesLess y x = true
  | [], [] => Or.inr (Or.inl rfl)
  | [], _ :: _ => Or.inl rfl
  | _ :: _, [] => Or.inr (Or.inr rfl)
  | a :: x, b :: y => by
    simp only [Op.bytesLess, Bool.or_eq_true, decide_eq_true_eq, Bool.and_eq_true, beq_iff_eq, List.cons.injEq]
    rcases UInt8.lt_or_lt_of_ne (a := a) (b := b) |> fun h => (Classical.em (a = b)) with h | h
    · subst h
      rcases bless_total x y with h | h | h
      · exact Or.inl (Or.inr ⟨rfl, h⟩)
      · exact Or.inr (Or.inl ⟨rfl, h⟩)
      · exact Or.inr (Or.inr (Or.inr ⟨rfl, h⟩))
    · rcases UInt8.lt_or_lt_of_ne h with h | h
      · exact Or.inl (Or.inl h)
      · exact Or.inr (Or.inr (Or.inl h))

def ints (l : List Nat) : List Int := l.map fun n : Nat => (n : Int)
theorem ints_length (l : List Nat) : (ints l).length = l.length := by unfold ints; simp
theorem ints_append (a b : List Nat) : ints (a ++ b) = ints a ++ ints b := by unfold ints; simp
def nats (l : List Int) : List Nat := l.map Int.toNat
def Bytes (l : List Int) : Prop := ∀ x ∈ l, 0 ≤ x ∧ x < 256
theorem bytes_wf {l : List Int} (h : ∀ x ∈ l, (Lit.int .u8 x).wf = true) : Bytes l := fun x hx => wf_u8 (h x hx)
theorem nats_length (l : List Int) : (nats l).length = l.length := by unfold nats; simp
theorem nats_ints (l : List Nat) : nats (ints l) = l := by
  unfold nats ints; rw [List.map_map]
  conv => rhs; rw [← List.map_id l]
  apply List.map_congr_left; intro a _; simp
theorem ints_nats {l : List Int} (h : Bytes l) : ints (nats l) = l := by
  unfold nats ints; rw [List.map_map]
  conv => rhs; rw [← List.map_id l]
  apply List.map_congr_left; intro a ha
  have := h a ha
  simp; omega
theorem nats_lt {l : List Int} (h : Bytes l) : ∀ c ∈ nats l, c < 256 := by
  intro c hc
  obtain ⟨x, hx, rfl⟩ := List.mem_map.1 hc
  have := h x hx; omega
theorem ints_bytes {l : List Nat} (h : ∀ c ∈ l, c < 256) : Bytes (ints l) := by
  intro x hx
  obtain ⟨c, hc, rfl⟩ := List.mem_map.1 hx
  have := h c hc; omega
theorem nats_append (a b : List Int) : nats (a ++ b) = nats a ++ nats b := by unfold nats; simp
theorem nats_take (l : List Int) (n : Nat) : nats (l.take n) = (nats l).take n := by unfold nats; rw [List.map_take]
theorem nats_drop (l : List Int) (n : Nat) : nats (l.drop n) = (nats l).drop n := by unfold nats; rw [List.map_drop]
theorem rd_at {l : List Int} {i : Nat} (h : i < l.length) : rd l (i : Int) = l[i] := by
  unfold rd; simp [h]
theorem rd_byte {l : List Int} {i : Nat} (h : i < l.length) (hb : Bytes l) : ∃ c : Nat, rd l (i : Int) = c ∧ c < 256 ∧ (nats l).drop i = c :: (nats l).drop (i + 1) := by
  have := hb l[i] (List.getElem_mem h)
  have h2 : i < (nats l).length := by rw [nats_length]; exact h
  refine ⟨l[i].toNat, by rw [rd_at h]; omega, by omega, ?_⟩
  rw [List.drop_eq_getElem_cons h2]
  have h4 : i < (l.map Int.toNat).length := h2
  have h3 : (l.map Int.toNat)[i]'h4 = l[i].toNat := by rw [List.getElem_map]
  rw [← h3]; rfl

/-! ### What Norm comes to: of each key the last one, by rising key -/
def kk (l : List S27) (i : Nat) : List UInt8 := (rd_T27 l (i : Int)).f1.toList
theorem rd27_getE (l : List S27) (n : Nat) (h : n < l.length) : rd_T27 l (n : Int) = l[n] := by
  unfold rd_T27
  rw [Int.toNat_natCast, List.getD_eq_getElem?_getD, List.getElem?_eq_getElem h]; rfl
def SUp27 (l : List S27) : Prop := l.Pairwise (fun x y => Op.bytesLess x.f1.toList y.f1.toList = true)
theorem s27_ext : ∀ (x y : List S27), SUp27 x → SUp27 y → (∀ z, z ∈ x ↔ z ∈ y) → x = y
  | [], [], _, _, _ => rfl
  | [], b :: y, _, _, h => by have := (h b).2 (by simp); simp at this
  | a :: x, [], _, _, h => by have := (h a).1 (by simp); simp at this
  | a :: x, b :: y, h1, h2, h => by
    have p1 := List.pairwise_cons.1 h1
    have p2 := List.pairwise_cons.1 h2
    have e : a = b := by
      rcases List.mem_cons.1 ((h a).1 (by simp)) with e | ha
      · exact e
      rcases List.mem_cons.1 ((h b).2 (by simp)) with e | hb
      · exact e.symm
      have := nm_trans _ _ _ (p1.1 b hb) (p2.1 a ha)
      rw [bl_irrefl] at this; cases this
    subst e
    rw [s27_ext x y p1.2 p2.2 (fun z => ?_)]
    constructor
    · intro hz
      rcases List.mem_cons.1 ((h z).1 (List.mem_cons_of_mem _ hz)) with e | hz'
      · subst e
        have := p1.1 z hz
        rw [bl_irrefl] at this; cases this
      · exact hz'
    · intro hz
      rcases List.mem_cons.1 ((h z).2 (List.mem_cons_of_mem _ hz)) with e | hz'
      · subst e
        have := p2.1 z hz
        rw [bl_irrefl] at this; cases this
      · exact hz'
theorem at_idx (l : List S27) (m : Nat) (h : m < l.length) : (l.length : Int) - 1 - m = ((l.length - 1 - m : Nat) : Int) := by omega
theorem at_seen (l : List S27) : ∀ m, m ≤ l.length → ∀ s : ByteArray, Norm_seen (Norm_at l m) s = true ↔ ∃ i, i < l.length ∧ l.length ≤ i + m ∧ kk l i = s.toList
  | 0, _, s => by
    constructor
    · intro h; cases h
    · rintro ⟨i, h1, h2, _⟩; omega
  | m + 1, hm, s => by
    have ih := at_seen l m (by omega)
    rw [Norm_at, at_idx l m (by omega)]
    have ex : kk l (l.length - 1 - m) = (rd_T27 l ((l.length - 1 - m : Nat) : Int)).f1.toList := rfl
    by_cases c : Norm_seen (Norm_at l m) (rd_T27 l ((l.length - 1 - m : Nat) : Int)).f1 = true
    · rw [if_pos c]
      constructor
      · intro h
        obtain ⟨i, h1, h2, h3⟩ := (ih s).1 h
        exact ⟨i, h1, by omega, h3⟩
      · rintro ⟨i, h1, h2, h3⟩
        by_cases e : i = l.length - 1 - m
        · subst e
          obtain ⟨i', g1, g2, g3⟩ := (ih _).1 c
          exact (ih s).2 ⟨i', g1, g2, by rw [g3, ← ex, h3]⟩
        · exact (ih s).2 ⟨i, h1, by omega, h3⟩
    · rw [if_neg c, Norm_seen_snoc, Bool.or_eq_true, beq_iff_eq]
      constructor
      · rintro (h | h)
        · obtain ⟨i, h1, h2, h3⟩ := (ih s).1 h
          exact ⟨i, h1, by omega, h3⟩
        · exact ⟨l.length - 1 - m, by omega, by omega, h⟩
      · rintro ⟨i, h1, h2, h3⟩
        by_cases e : i = l.length - 1 - m
        · subst e; exact Or.inr h3
        · exact Or.inl ((ih s).2 ⟨i, h1, by omega, h3⟩)
theorem at_mem (l : List S27) : ∀ m, m ≤ l.length → ∀ z, z ∈ Norm_at l m ↔ ∃ i, i < l.length ∧ l.length ≤ i + m ∧ rd_T27 l (i : Int) = z ∧ ∀ j, i < j → j < l.length → kk l j ≠ z.f1.toList
  | 0, _, z => by
    constructor
    · intro h; cases h
    · rintro ⟨i, h1, h2, _⟩; omega
  | m + 1, hm, z => by
    have ih := at_mem l m (by omega)
    have hs := at_seen l m (by omega)
    rw [Norm_at, at_idx l m (by omega)]
    by_cases c : Norm_seen (Norm_at l m) (rd_T27 l ((l.length - 1 - m : Nat) : Int)).f1 = true
    · rw [if_pos c]
      constructor
      · intro h
        obtain ⟨i, h1, h2, h3, h4⟩ := (ih z).1 h
        exact ⟨i, h1, by omega, h3, h4⟩
      · rintro ⟨i, h1, h2, h3, h4⟩
        by_cases e : i = l.length - 1 - m
        · subst e
          obtain ⟨i', g1, g2, g3⟩ := (hs _).1 c
          rw [h3] at g3
          exact absurd g3 (h4 i' (by omega) g1)
        · exact (ih z).2 ⟨i, h1, by omega, h3, h4⟩
    · rw [if_neg c, List.mem_append, List.mem_singleton]
      constructor
      · rintro (h | h)
        · obtain ⟨i, h1, h2, h3, h4⟩ := (ih z).1 h
          exact ⟨i, h1, by omega, h3, h4⟩
        · refine ⟨l.length - 1 - m, by omega, by omega, h.symm, fun j hj hjl hk => c ((hs _).2 ⟨j, hjl, by omega, ?_⟩)⟩
          rw [hk, h]
      · rintro ⟨i, h1, h2, h3, h4⟩
        by_cases e : i = l.length - 1 - m
        · subst e; exact Or.inr h3.symm
        · exact Or.inl ((ih z).2 ⟨i, h1, by omega, h3, h4⟩)
/-- z is the last one of its key. -/
def LastOne (l : List S27) (z : S27) : Prop := ∃ i, i < l.length ∧ rd_T27 l (i : Int) = z ∧ ∀ j, i < j → j < l.length → kk l j ≠ z.f1.toList
def Normed (l N : List S27) : Prop := SUp27 N ∧ ∀ z, z ∈ N ↔ LastOne l z
theorem sort_sup (l : List S27) (hd : l.Pairwise (fun x y => (x.f1.toList == y.f1.toList) = false)) : SUp27 (Norm_sort l) := by
  have h1 := Norm_sort_up l
  have h2 : (Norm_sort l).Pairwise (fun x y => (x.f1.toList == y.f1.toList) = false) := (Norm_sort_perm l).symm.pairwise hd (fun h => by rw [beq_eq_false_iff_ne] at h ⊢; exact fun e => h e.symm)
  refine (h1.and h2).imp ?_
  intro a b h
  cases e : Op.bytesLess a.f1.toList b.f1.toList with
  | true => rfl
  | false =>
    have e1 : a.f1.toList = b.f1.toList := nm_eq e h.1
    exact absurd e1 (beq_eq_false_iff_ne.1 h.2)
def NormOf (l : List S27) : List S27 := Norm_sort (Norm_at l l.length)
theorem normed_of (l : List S27) : Normed l (NormOf l) := by
  refine ⟨sort_sup _ (Norm_at_apart l _), fun z => ?_⟩
  unfold NormOf
  rw [(Norm_sort_perm _).mem_iff, at_mem l l.length (Nat.le_refl _)]
  constructor
  · rintro ⟨i, h1, _, h3, h4⟩; exact ⟨i, h1, h3, h4⟩
  · rintro ⟨i, h1, h3, h4⟩; exact ⟨i, h1, by omega, h3, h4⟩
theorem Normed.eq {l N N' : List S27} (h : Normed l N) (h' : Normed l N') : N = N' := s27_ext N N' h.1 h'.1 (fun z => (h.2 z).trans (h'.2 z).symm)
theorem Normed.self {N : List S27} (h : SUp27 N) : Normed N N := by
  refine ⟨h, fun z => ?_⟩
  constructor
  · intro hz
    obtain ⟨i, hi, rfl⟩ := List.getElem_of_mem hz
    refine ⟨i, hi, rd27_getE N i hi, fun j hj hjl e => ?_⟩
    unfold kk at e
    rw [rd27_getE N j hjl] at e
    have := List.pairwise_iff_getElem.1 h i j hi hjl hj
    rw [e, bl_irrefl] at this; cases this
  · rintro ⟨i, hi, h1, _⟩
    rw [← h1, rd27_getE N i hi]; exact List.getElem_mem hi
theorem normOf_self {N : List S27} (h : SUp27 N) : NormOf N = N := (normed_of N).eq (Normed.self h)
theorem normOf_len (l : List S27) : (NormOf l).length ≤ l.length := by
  unfold NormOf
  rw [(Norm_sort_perm _).length_eq]; exact Norm_at_len l _
theorem LastOne.mem {l : List S27} {z : S27} (h : LastOne l z) : z ∈ l := by
  obtain ⟨i, hi, h1, _⟩ := h
  rw [← h1, rd27_getE l i hi]; exact List.getElem_mem hi
/-- Each key has a last one. -/
theorem last_ex (l : List S27) (i : Nat) (hi : i < l.length) : ∃ z, LastOne l z ∧ z.f1.toList = kk l i := by
  suffices h : ∀ d i, i + d + 1 = l.length → ∃ z, LastOne l z ∧ z.f1.toList = kk l i from h (l.length - 1 - i) i (by omega)
  intro d
  induction d using Nat.strongRecOn with
  | ind d ih =>
    intro i hd
    by_cases c : ∃ j, i < j ∧ j < l.length ∧ kk l j = kk l i
    · obtain ⟨j, h1, h2, h3⟩ := c
      obtain ⟨z, hz, e⟩ := ih (l.length - 1 - j) (by omega) j (by omega)
      exact ⟨z, hz, e.trans h3⟩
    · exact ⟨rd_T27 l (i : Int), ⟨i, by omega, rfl, fun j h1 h2 h3 => c ⟨j, h1, h2, h3⟩⟩, rfl⟩
theorem norm_ev (l : List S27) (hl : l.length ≤ 1000) (hk : ∀ x ∈ l, x.f1.size ≤ 1000000) (k : Nat) : batch_Norm.f k l = some (NormOf l) := by
  unfold batch_Norm.f NormOf
  rw [if_pos ⟨hl, List.all_eq_true.2 fun x hx => decide_eq_true (hk x hx)⟩]

/-! ### May: what operations are told -/
def mayP (a : Int) (u v : ByteArray) : Int := if a = 1 ∨ a = 2 then (if u.size > 64 ∨ v.size > 512 then 4 else if a = 2 ∧ v.toList ≠ [] then 1 else 0) else 1
theorem may_j1 (a : Int) (u v : ByteArray) (b : Bool) (h : b = true ∨ a = 1 ∨ a = 2) : Ev (fun k => batch_may.j1 k b a u v) (if b = true then 4 else if a = 2 ∧ v.toList ≠ [] then 1 else 0) := by
  refine Ev.step (f := fun _ => some (if b = true then 4 else if a = 2 ∧ v.toList ≠ [] then 1 else 0)) (fun k => ?_) (Ev.now _)
  rw [batch_may.j1]
  by_cases c : b = true
  · rw [if_pos c, if_pos c]
  · rw [if_neg c, if_neg c]
    by_cases c2 : a = 2
    · by_cases c3 : v.toList = []
      · rw [if_pos c2, if_pos c3, if_neg (fun h => h.2 c3)]
      · rw [if_pos c2, if_neg c3, if_pos ⟨c2, c3⟩]
    · rw [if_neg c2, if_neg (fun h => c2 h.1)]
theorem may_ev (a : Int) (u v : ByteArray) : Ev (fun k => batch_may.f k a u v) (mayP a u v) := by
  have key : ∀ b : Bool, (b = false → a = 1 ∨ a = 2) → (b = true → ¬ (a = 1 ∨ a = 2)) → Ev (fun k => batch_may.j0 k b a u v) (mayP a u v) := by
    intro b h1 h2
    cases b with
    | true =>
      refine Ev.step (f := fun _ => some (mayP a u v)) (fun k => ?_) (Ev.now _)
      rw [batch_may.j0, if_pos rfl, mayP, if_neg (h2 rfl)]
    | false =>
      have h := h1 rfl
      by_cases c1 : u.size > 64
      · have := may_j1 a u v true (Or.inl rfl)
        refine Ev.step (fun k => ?_) (show Ev (fun k => batch_may.j1 k true a u v) (mayP a u v) by rw [mayP, if_pos h, if_pos (Or.inl c1)]; rw [if_pos rfl] at this; exact this)
        rw [batch_may.j0, if_neg Bool.false_ne_true, if_pos (by omega)]
      · have := may_j1 a u v (decide ((v.size : Int) > 512)) (Or.inr h)
        refine Ev.step (fun k => ?_) (show Ev (fun k => batch_may.j1 k (decide ((v.size : Int) > 512)) a u v) (mayP a u v) by
          rw [mayP, if_pos h]
          by_cases c2 : v.size > 512
          · rw [if_pos (Or.inr c2)]
            rw [decide_eq_true (show (v.size : Int) > 512 by omega)] at this ⊢
            rw [if_pos rfl] at this; exact this
          · rw [if_neg (fun hh => hh.elim c1 c2)]
            rw [decide_eq_false (show ¬ (v.size : Int) > 512 by omega)] at this ⊢
            rw [if_neg Bool.false_ne_true] at this; exact this)
        rw [batch_may.j0, if_neg Bool.false_ne_true, if_neg (by omega)]
  unfold batch_may.f
  by_cases c : a = 1
  · exact Ev.congr (fun k => by rw [if_pos c]) (key false (fun _ => Or.inl c) (fun h => by cases h))
  · refine Ev.congr (fun k => by rw [if_neg c]) (key (a != 2) (fun h => ?_) (fun h => ?_))
    · exact Or.inr (by simpa using h)
    · have : a ≠ 2 := by simpa using h
      exact fun hh => hh.elim c this
def mayGo : List S27 → Int
  | [] => 0
  | x :: t => if mayP x.f0 x.f1 x.f2 = 0 then mayGo t else mayP x.f0 x.f1 x.f2
def mayL (l : List S27) : Int := if l.length = 0 then 1 else if l.length > 32 then 4 else mayGo l
theorem mayL_l0 (l : List S27) (hl : l.length ≤ 1000000) : ∀ (d i : Nat), i + d = l.length → Ev (fun k => batch_May.l0 k l (l.length : Int) (i : Int)) (mayGo (l.drop i))
  | 0, i, hd => by
    obtain rfl : i = l.length := by omega
    rw [List.drop_length]
    refine Ev.step (f := fun _ => some 0) (fun k => ?_) (Ev.now _)
    rw [batch_May.l0, if_neg (by omega)]
  | d + 1, i, hd => by
    have hi : i < l.length := by omega
    have ew : wrap64 ((i : Int) + 1) = ((i + 1 : Nat) : Int) := by rw [w64 (by omega) (by omega)]; omega
    have ih := mayL_l0 l hl d (i + 1) (by omega)
    have e : l.drop i = rd_T27 l (i : Int) :: l.drop (i + 1) := by rw [rd27_getE l i hi, List.drop_eq_getElem_cons hi]
    rw [e, mayGo]
    refine Ev.step (fun k => by rw [batch_May.l0, if_pos (by omega), if_pos (by omega), if_pos (by omega)]) (Ev.bind (may_ev (rd_T27 l (i : Int)).f0 (rd_T27 l (i : Int)).f1 (rd_T27 l (i : Int)).f2) (f := fun k t229 => if t229 = 0 then (batch_May.l0 k l (l.length : Int) (wrap64 ((i : Int) + 1))) else (some t229)) ?_)
    by_cases c : mayP (rd_T27 l (i : Int)).f0 (rd_T27 l (i : Int)).f1 (rd_T27 l (i : Int)).f2 = 0
    · rw [if_pos c]
      exact Ev.congr (fun k => by rw [if_pos c, ew]) ih
    · rw [if_neg c]
      exact Ev.congr (fun k => by rw [if_neg c]) (Ev.now _)
theorem mayL_ev (l : List S27) (hl : l.length ≤ 1000000) : Ev (fun k => batch_May.f k l) (mayL l) := by
  unfold batch_May.f mayL
  by_cases c : l.length = 0
  · rw [if_pos c]
    exact Ev.congr (fun k => by rw [if_pos (by omega)]) (Ev.now _)
  · rw [if_neg c]
    by_cases c2 : l.length > 32
    · rw [if_pos c2]
      exact Ev.congr (fun k => by rw [if_neg (by omega), if_pos (by omega)]) (Ev.now _)
    · rw [if_neg c2]
      have h := mayL_l0 l hl l.length 0 (by omega)
      rw [List.drop_zero] at h
      exact Ev.congr (fun k => by rw [if_neg (by omega), if_neg (by omega)]; rfl) h

def putN (n : Nat) : List Nat := if h : n < 128 then [n] else (n % 128 + 128) :: putN (n / 128)
termination_by n
decreasing_by omega
theorem putN_small {n : Nat} (h : n < 128) : putN n = [n] := by unfold putN; rw [dif_pos h]
theorem putN_more {n : Nat} (h : ¬ n < 128) : putN n = (n % 128 + 128) :: putN (n / 128) := by rw [putN]; rw [dif_neg h]
theorem putN_len : ∀ (m n : Nat), n < 128 ^ (m + 1) → 1 ≤ (putN n).length ∧ (putN n).length ≤ m + 1
  | 0, n, h => by rw [putN_small (by omega)]; simp
  | m + 1, n, h => by
    by_cases h1 : n < 128
    · rw [putN_small h1]; simp
    · rw [putN_more h1]
      have hd : n / 128 < 128 ^ (m + 1) := by rw [Nat.div_lt_iff_lt_mul (by decide)]; rw [Nat.pow_succ] at h; exact h
      have := putN_len m (n / 128) hd
      rw [List.length_cons]
      clear h hd
      omega
theorem putN_len9 {n : Nat} (h : n < 9223372036854775808) : 1 ≤ (putN n).length ∧ (putN n).length ≤ 9 := putN_len 8 n h
theorem putN_lt : ∀ (k n : Nat), n ≤ k → ∀ c ∈ putN n, c < 256
  | 0, n, h, c, hc => by rw [putN_small (by omega)] at hc; simp at hc; omega
  | k + 1, n, h, c, hc => by
    by_cases h1 : n < 128
    · rw [putN_small h1] at hc; simp at hc; omega
    · rw [putN_more h1] at hc
      rcases List.mem_cons.1 hc with rfl | hc
      · omega
      · exact putN_lt k (n / 128) (by omega) c hc
theorem or128 (n : Nat) : Go.bits .or .u8 ((n : Int) % 256) 128 = ((n % 128 + 128 : Nat) : Int) := by
  have e : (n : Int) % 256 = ((n % 256 : Nat) : Int) := by omega
  have h := bo_u8 (n % 256) 128 (by omega) (by omega)
  rw [e]
  refine h.trans ?_
  congr 1
  have h1 : n % 128 < 2 ^ 7 := by omega
  have e2 : 128 + n % 128 = 128 ||| n % 128 := Nat.two_pow_add_eq_or_of_lt h1 1
  by_cases h2 : n % 256 < 128
  · have e3 : n % 256 = n % 128 := by omega
    rw [e3, Nat.or_comm]
    omega
  · have e3 : n % 256 = 128 ||| (n % 128) := by omega
    have e4 : 128 ||| (n % 128) = 128 + n % 128 := by omega
    rw [e3, Nat.or_assoc, Nat.or_comm (n % 128), ← Nat.or_assoc, Nat.or_self, e4]
    omega
theorem put_l0 : ∀ (m n : Nat) (acc : List Int), n < 128 ^ (m + 1) → acc.length + (m + 1) < 140737488355328 →
    Ev (fun k => num_Put.l0 k (n : Int) acc) (acc ++ ints (putN n)) := by
  intro m
  induction m with
  | zero =>
    intro n acc h hl
    have h1 : n < 128 := by omega
    rw [putN_small h1]
    refine Ev.step (f := fun _ => some _) (fun k => ?_) (Ev.now _)
    simp only [num_Put.l0]
    rw [if_neg (by omega), if_pos (by omega), show (n : Int) % 256 = n by omega]; rfl
  | succ m ih =>
    intro n acc h hl
    by_cases h1 : n < 128
    · rw [putN_small h1]
      refine Ev.step (f := fun _ => some _) (fun k => ?_) (Ev.now _)
      simp only [num_Put.l0]
      clear h
      rw [if_neg (by omega), if_pos (by omega), show (n : Int) % 256 = n by omega]; rfl
    · have hd : n / 128 < 128 ^ (m + 1) := by rw [Nat.div_lt_iff_lt_mul (by decide)]; rw [Nat.pow_succ] at h; exact h
      have h2 := ih (n / 128) (acc ++ [((n % 128 + 128 : Nat) : Int)]) hd (by rw [List.length_append, List.length_singleton]; omega)
      rw [putN_more h1]
      rw [List.append_assoc] at h2
      refine Ev.step (fun k => ?_) h2
      simp only [num_Put.l0]
      clear h hd
      rw [if_pos (by omega), if_pos (by omega), or128]
      rfl
theorem put_ev (n : Nat) (h : n < 9223372036854775808) : Ev (fun k => num_Put.f k (n : Int)) (ints (putN n)) := by
  have := put_l0 8 n [] h (by decide)
  refine Ev.congr (fun k => ?_) this
  unfold num_Put.f; rw [if_neg (by omega)]

def getN : Nat → List Nat → Option (Nat × Nat)
  | 0, _ => none
  | _ + 1, [] => none
  | m + 1, c :: r => if c > 127 then (getN m r).map (fun p => (c - 128 + 128 * p.1, p.2 + 1)) else if c = 0 ∧ m ≠ 8 then none else some (c, 1)
def tell (acc i at_ : Nat) : Option (Nat × Nat) → Int × Int × Bool
  | none => (0, 0, false)
  | some (v, n) => (((acc + 2 ^ (7 * i) * v : Nat) : Int), ((at_ + i + n : Nat) : Int), true)
theorem and127 (c : Nat) (h : c < 256) : Go.bits .and .u8 (c : Int) 127 = ((c % 128 : Nat) : Int) := by
  have := ba_u8 c 127 h (by decide)
  rw [show (127 : Nat) = 2 ^ 7 - 1 from rfl, Nat.and_two_pow_sub_one_eq_mod] at this
  exact this
theorem acc_or (acc d i : Nat) (h : acc < 2 ^ (7 * i)) (hd : d < 128) (hi : i ≤ 8) :
    Go.bits .or .i64 (acc : Int) (shl .i64 (wrap64 (d : Int)) (wrap64 (7 * (i : Int)))) = ((acc + 2 ^ (7 * i) * d : Nat) : Int) := by
  have e1 : wrap64 (d : Int) = d := w64 (by omega) (by omega)
  have e2 : wrap64 (7 * (i : Int)) = ((7 * i : Nat) : Int) := by unfold wrap64; omega
  have hP : 2 ^ (7 * i) ≤ 2 ^ 56 := Nat.pow_le_pow_right (by decide) (by omega)
  have hm : 2 ^ (7 * i) * d < 2 ^ 63 := by
    have h1 : 2 ^ (7 * i) * d ≤ 2 ^ 56 * 127 := Nat.mul_le_mul hP (by omega)
    exact Nat.lt_of_le_of_lt h1 (by decide)
  have ha : acc < 2 ^ 63 := Nat.lt_of_lt_of_le h (Nat.le_trans hP (by decide))
  have e3 : shl .i64 (d : Int) ((7 * i : Nat) : Int) = ((2 ^ (7 * i) * d : Nat) : Int) := by
    unfold shl
    rw [Int.toNat_natCast, Nat.min_eq_left (by show 7 * i ≤ 64; omega)]
    have : (d : Int) * 2 ^ (7 * i) = ((2 ^ (7 * i) * d : Nat) : Int) := by rw [Int.natCast_mul, Int.mul_comm]; simp
    rw [this]
    exact wr_i64 _ (Int.natCast_nonneg _) (by exact_mod_cast hm)
  rw [e1, e2, e3, bo_i64 _ _ ha hm]
  congr 1
  have := Nat.two_pow_add_eq_or_of_lt h d
  rw [Nat.or_comm, ← this, Nat.add_comm]
theorem acc_lt (acc d i : Nat) (h : acc < 2 ^ (7 * i)) (hd : d < 128) : acc + 2 ^ (7 * i) * d < 2 ^ (7 * (i + 1)) := by
  have e : 2 ^ (7 * (i + 1)) = 2 ^ (7 * i) * 128 := by rw [Nat.mul_add, Nat.pow_add]
  rw [e]
  generalize 2 ^ (7 * i) = P at h ⊢
  have : P * d ≤ P * 127 := Nat.mul_le_mul_left _ (by omega)
  omega
theorem tell_more (acc i at_ d : Nat) (o : Option (Nat × Nat)) : tell acc i at_ (o.map (fun p => (d + 128 * p.1, p.2 + 1))) = tell (acc + 2 ^ (7 * i) * d) (i + 1) at_ o := by
  cases o with
  | none => rfl
  | some p =>
    obtain ⟨v, n⟩ := p
    simp only [tell, Option.map_some]
    have e : 2 ^ (7 * (i + 1)) = 2 ^ (7 * i) * 128 := by rw [Nat.mul_add, Nat.pow_add]
    rw [e, Nat.mul_add, ← Nat.mul_assoc, ← Nat.add_assoc, show at_ + (i + 1) + n = at_ + i + (n + 1) by omega]
theorem get_l0 (l : List Int) (hb : Bytes l) (hl : l.length < 2 ^ 48) (at_ : Nat) (hat : at_ < 2 ^ 62) : ∀ (m i acc : Nat), i + m = 9 → acc < 2 ^ (7 * i) →
    Ev (fun k => num_Get.l0 k l (at_ : Int) (acc : Int) (i : Int)) (tell acc i at_ (getN m ((nats l).drop (at_ + i)))) := by
  intro m
  induction m with
  | zero =>
    intro i acc hi ha
    refine Ev.step (f := fun _ => some _) (fun k => ?_) (Ev.now _)
    simp only [num_Get.l0]
    have p : ¬ (i : Int) < 9 := by omega
    rw [if_neg p]; simp only [getN, tell]
  | succ m ih =>
    intro i acc hi ha
    have p1 : (i : Int) < 9 := by omega
    by_cases hin : at_ + i < l.length
    · have p2 : ¬ (at_ : Int) ≥ wrap64 ((l.length : Int) - (i : Int)) := by unfold wrap64; omega
      have p3 : wrap64 ((at_ : Int) + (i : Int)) = ((at_ + i : Nat) : Int) := by unfold wrap64; omega
      have p4 : (0 : Int) ≤ ((at_ + i : Nat) : Int) := by omega
      have p5 : ((at_ + i : Nat) : Int) < (l.length : Int) := by omega
      have p6 : 0 ≤ wrap64 (7 * (i : Int)) := by rw [w64 (by omega) (by omega)]; omega
      have p7 : wrap64 ((i : Int) + 1) = ((i + 1 : Nat) : Int) := by unfold wrap64; omega
      have p8 : wrap64 (((at_ + i : Nat) : Int) + 1) = ((at_ + i + 1 : Nat) : Int) := by unfold wrap64; omega
      have him : (m = 8) = (i = 0) := by rw [eq_iff_iff]; omega
      obtain ⟨c, hc, hc1, hc2⟩ := rd_byte (l := l) (i := at_ + i) hin hb
      have hor := acc_or acc (c % 128) i ha (Nat.mod_lt _ (by decide)) (by omega)
      have hlt := acc_lt acc (c % 128) i ha (Nat.mod_lt _ (by decide))
      rw [hc2]
      have head : ∀ k, num_Get.l0 (k + 1) l (at_ : Int) (acc : Int) (i : Int) = (if (c : Int) > 127 then (num_Get.l0 k l (at_ : Int) ((acc + 2 ^ (7 * i) * (c % 128) : Nat) : Int) ((i + 1 : Nat) : Int)) else (if (c : Int) = 0 then (if (i : Int) > 0 then (some (0, 0, false)) else (some (((acc + 2 ^ (7 * i) * (c % 128) : Nat) : Int), ((at_ + i + 1 : Nat) : Int), true))) else (some (((acc + 2 ^ (7 * i) * (c % 128) : Nat) : Int), ((at_ + i + 1 : Nat) : Int), true)))) := by
        intro k
        simp only [num_Get.l0]
        rw [if_pos p1, if_neg p2, p3, if_pos p4, if_pos p5, if_pos p6, hc, and127 c hc1, hor, p7, p8]
      by_cases hc3 : c > 127
      · have q1 : (c : Int) > 127 := by omega
        have q2 : c % 128 = c - 128 := by omega
        have h := ih (i + 1) (acc + 2 ^ (7 * i) * (c % 128)) (by omega) hlt
        rw [← tell_more, q2, ← Nat.add_assoc] at h
        simp only [getN]
        rw [if_pos hc3]
        refine Ev.step (fun k => ?_) h
        rw [head, if_pos q1, q2]
      · have q1 : ¬ (c : Int) > 127 := by omega
        have q2 : c % 128 = c := by omega
        simp only [getN]
        rw [if_neg hc3]
        refine Ev.step (f := fun _ => some _) (fun k => ?_) (Ev.now _)
        rw [head, if_neg q1, q2]
        by_cases hz : c = 0
        · have q3 : (c : Int) = 0 := by omega
          rw [if_pos q3]
          by_cases hi0 : i = 0
          · have q4 : ¬ (i : Int) > 0 := by omega
            rw [if_neg q4, if_neg (by intro h; exact h.2 (him.mpr hi0))]; rfl
          · have q4 : (i : Int) > 0 := by omega
            rw [if_pos q4, if_pos ⟨hz, fun h => hi0 (him.mp h)⟩]; rfl
        · have q3 : ¬ (c : Int) = 0 := by omega
          rw [if_neg q3, if_neg (fun h => hz h.1)]; rfl
    · have p2 : (at_ : Int) ≥ wrap64 ((l.length : Int) - (i : Int)) := by unfold wrap64; omega
      rw [List.drop_of_length_le (by rw [nats_length]; omega)]
      refine Ev.step (f := fun _ => some _) (fun k => ?_) (Ev.now _)
      simp only [num_Get.l0]
      rw [if_pos p1, if_pos p2]; simp only [getN, tell]
def told (at_ : Nat) : Option (Nat × Nat) → Int × Int × Bool
  | none => (0, 0, false)
  | some (v, n) => ((v : Int), ((at_ + n : Nat) : Int), true)
theorem tell_told (at_ : Nat) (o : Option (Nat × Nat)) : tell 0 0 at_ o = told at_ o := by
  cases o with
  | none => rfl
  | some p =>
    obtain ⟨v, n⟩ := p
    simp only [tell, told, Nat.mul_zero, Nat.pow_zero, Nat.one_mul, Nat.zero_add, Nat.add_zero]
theorem get_ev (l : List Int) (hb : Bytes l) (hl : l.length < 2 ^ 48) (at_ : Nat) (hat : at_ < 2 ^ 62) : Ev (fun k => num_Get.f k l (at_ : Int)) (told at_ (getN 9 ((nats l).drop at_))) := by
  have h := get_l0 l hb hl at_ hat 9 0 0 (by omega) (by decide)
  rw [tell_told, Nat.add_zero] at h
  have p : ¬ (at_ : Int) < 0 := by omega
  exact Ev.congr (fun k => by unfold num_Get.f; rw [if_neg p]; rfl) h

theorem get_put : ∀ (m n : Nat) (r : List Nat), n < 128 ^ (m + 1) → (m = 8 ∨ 0 < n) → getN (m + 1) (putN n ++ r) = some (n, (putN n).length)
  | m, n, r, h, hz => by
    by_cases h1 : n < 128
    · rw [putN_small h1, List.singleton_append, getN, if_neg (by omega), if_neg (by omega)]; rfl
    · rw [putN_more h1, List.cons_append, getN, if_pos (by omega)]
      cases m with
      | zero => omega
      | succ m =>
        have hd : n / 128 < 128 ^ (m + 1) := by rw [Nat.div_lt_iff_lt_mul (by decide)]; rw [Nat.pow_succ] at h; exact h
        rw [get_put m (n / 128) r hd (by omega)]
        simp only [Option.map_some, List.length_cons]
        congr 2
        clear hd h hz
        omega
theorem get_put9 (n : Nat) (r : List Nat) (h : n < 9223372036854775808) : getN 9 (putN n ++ r) = some (n, (putN n).length) := get_put 8 n r h (.inl rfl)
theorem get_cut : ∀ (m n : Nat), getN m ((putN n).take ((putN n).length - 1)) = none
  | 0, _ => rfl
  | m + 1, n => by
    by_cases h1 : n < 128
    · rw [putN_small h1]; rfl
    · have h2 := get_cut m (n / 128)
      rw [putN_more h1]
      have h3 : 1 ≤ (putN (n / 128)).length := by
        unfold putN; split <;> simp
      have e : (((n % 128 + 128) :: putN (n / 128)).take (((n % 128 + 128) :: putN (n / 128)).length - 1)) = (n % 128 + 128) :: (putN (n / 128)).take ((putN (n / 128)).length - 1) := by
        rw [List.length_cons, show (putN (n / 128)).length + 1 - 1 = ((putN (n / 128)).length - 1) + 1 by omega, List.take_succ_cons]
      rw [e, getN, if_pos (by omega), h2]; rfl

theorem strOf_bytes (s : ByteArray) : strOfNums (bytesOf s) = s := by
  unfold strOfNums bytesOf
  rw [List.map_map]
  have : s.data.toList.map ((fun n : Int => UInt8.ofNat n.toNat) ∘ fun b : UInt8 => (b.toNat : Int)) = s.data.toList := by
    conv => rhs; rw [← List.map_id s.data.toList]
    apply List.map_congr_left; intro a _; simp
  rw [this]
theorem bytesOf_bytes (s : ByteArray) : Bytes (bytesOf s) := by
  intro x hx
  obtain ⟨c, _, rfl⟩ := List.mem_map.1 hx
  have := c.toNat_lt
  omega
def textI (s : ByteArray) : List Int := ints (putN s.size) ++ bytesOf s
theorem textI_length (s : ByteArray) : (textI s).length = (putN s.size).length + s.size := by
  unfold textI; rw [List.length_append, ints_length, bytesOf_length]
theorem textI_bytes (s : ByteArray) : Bytes (textI s) := by
  intro x hx
  rcases List.mem_append.1 hx with h | h
  · exact ints_bytes (putN_lt _ _ (Nat.le_refl _)) x h
  · exact bytesOf_bytes s x h
theorem puttext_ev (s : ByteArray) (h : s.size ≤ 1099511627776) : Ev (fun k => num_PutText.f k s) (textI s) := by
  have h1 := put_ev s.size (by omega)
  have h9 := putN_len9 (n := s.size) (by omega)
  have p : (ints (putN s.size)).length + s.size < 140737488355328 := by rw [ints_length]; omega
  exact Ev.congr (fun k => rfl) (Ev.bind h1 (Ev.congr (fun k => by rw [if_pos p]; rfl) (Ev.now _)))
def toldT (l : List Int) (at_ : Nat) : Option (Nat × Nat) → ByteArray × Int × Bool
  | none => ((⟨#[]⟩ : ByteArray), 0, false)
  | some (v, n) => if l.length < at_ + n + v then ((⟨#[]⟩ : ByteArray), 0, false) else (strOfNums ((l.take (at_ + n + v)).drop (at_ + n)), ((at_ + n + v : Nat) : Int), true)
theorem getN_bound : ∀ (m : Nat) (l : List Nat) (v n : Nat), (∀ c ∈ l, c < 256) → getN m l = some (v, n) → v < 128 ^ m ∧ 1 ≤ n ∧ n ≤ l.length
  | 0, _, _, _, _, h => by simp [getN] at h
  | m + 1, [], _, _, _, h => by simp [getN] at h
  | m + 1, c :: r, v, n, hl, h => by
    have hc := hl c (by simp)
    rw [getN] at h
    by_cases h1 : c > 127
    · rw [if_pos h1] at h
      obtain ⟨p, hp, he⟩ := Option.map_eq_some_iff.1 h
      obtain ⟨h2, h3, h4⟩ := getN_bound m r p.1 p.2 (fun x hx => hl x (by simp [hx])) hp
      simp only [Prod.mk.injEq] at he
      obtain ⟨rfl, rfl⟩ := he
      rw [List.length_cons, Nat.pow_succ]
      refine ⟨?_, by omega, by omega⟩
      omega
    · rw [if_neg h1] at h
      split at h
      · cases h
      · simp only [Option.some.injEq, Prod.mk.injEq] at h
        obtain ⟨rfl, rfl⟩ := h
        rw [List.length_cons]
        refine ⟨?_, by omega, by omega⟩
        have : 128 ^ 1 ≤ 128 ^ (m + 1) := Nat.pow_le_pow_right (by decide) (by omega)
        omega
theorem gettext_ev (l : List Int) (hb : Bytes l) (hl : l.length < 2 ^ 48) (at_ : Nat) (hat : at_ < 2 ^ 62) : Ev (fun k => num_GetText.f k l (at_ : Int)) (toldT l at_ (getN 9 ((nats l).drop at_))) := by
  have h := get_ev l hb hl at_ hat
  refine Ev.congr (fun k => rfl) (Ev.bind h (f := fun k (bt119 : Int × Int × Bool) => (if bt119.2.2 = true then (if bt119.1 > (wrap64 ((l.length : Int) - bt119.2.1)) then (some ((⟨#[]⟩ : ByteArray), 0, false)) else (if 0 ≤ bt119.2.1 then (if bt119.2.1 ≤ (wrap64 (bt119.2.1 + bt119.1)) then (if (wrap64 (bt119.2.1 + bt119.1)) ≤ (l.length : Int) then (some (strOfNums ((l.take ((wrap64 (bt119.2.1 + bt119.1)) : Int).toNat).drop (bt119.2.1 : Int).toNat), wrap64 (bt119.2.1 + bt119.1), true)) else (none)) else (none)) else (none))) else (some ((⟨#[]⟩ : ByteArray), 0, false)))) ?_)
  cases ho : getN 9 ((nats l).drop at_) with
  | none => exact Ev.congr (f := fun _ => some _) (fun k => by rw [if_neg (show ¬ (told at_ none).2.2 = true by simp [told])]; rfl) (Ev.now _)
  | some p =>
    obtain ⟨v, n⟩ := p
    obtain ⟨hv, hn1, hn2⟩ := getN_bound 9 _ v n (fun c hc => nats_lt hb c (List.mem_of_mem_drop hc)) ho
    rw [List.length_drop, nats_length] at hn2
    have hv2 : v < 9223372036854775808 := hv
    clear hv
    have et : told at_ (some (v, n)) = ((v : Int), ((at_ + n : Nat) : Int), true) := rfl
    rw [et]
    simp only [toldT]
    have p0 : (0 : Int) ≤ ((at_ + n : Nat) : Int) := by omega
    by_cases hlt : l.length < at_ + n + v
    · have p1 : (v : Int) > wrap64 ((l.length : Int) - ((at_ + n : Nat) : Int)) := by rw [w64 (by omega) (by omega)]; omega
      rw [if_pos hlt]
      exact Ev.congr (f := fun _ => some _) (fun k => by simp only [if_true, if_pos p1]) (Ev.now _)
    · have p1 : ¬ (v : Int) > wrap64 ((l.length : Int) - ((at_ + n : Nat) : Int)) := by rw [w64 (by omega) (by omega)]; omega
      have p2 : wrap64 (((at_ + n : Nat) : Int) + (v : Int)) = ((at_ + n + v : Nat) : Int) := by rw [w64 (by omega) (by omega)]; omega
      have p3 : ((at_ + n : Nat) : Int) ≤ ((at_ + n + v : Nat) : Int) := by omega
      have p4 : ((at_ + n + v : Nat) : Int) ≤ (l.length : Int) := by omega
      rw [if_neg hlt]
      exact Ev.congr (f := fun _ => some _) (fun k => by simp only [if_true, if_neg p1, if_pos p0, p2, if_pos p3, if_pos p4, Int.toNat_natCast]) (Ev.now _)

/-! ### batch.Put: the bytes of a batch -/
theorem tl_inj {a b : ByteArray} (h : a.toList = b.toList) : a = b := by
  rw [Go.ByteArray.toList_eq, Go.ByteArray.toList_eq] at h
  cases a; cases b
  simp only [ByteArray.mk.injEq]
  exact Array.toList_inj.1 h
theorem ne27 (x y : S27) : (!(x.f0 == y.f0) || (!(x.f1.toList == y.f1.toList) || !(x.f2.toList == y.f2.toList))) = true ↔ x ≠ y := by
  have e : x = y ↔ x.f0 = y.f0 ∧ x.f1.toList = y.f1.toList ∧ x.f2.toList = y.f2.toList := by
    constructor
    · rintro rfl; exact ⟨rfl, rfl, rfl⟩
    · rintro ⟨h1, h2, h3⟩
      cases x; cases y
      simp only at h1 h2 h3
      rw [h1, tl_inj h2, tl_inj h3]
  rw [Ne, e]
  simp only [Bool.or_eq_true, Bool.not_eq_true', beq_eq_false_iff_ne]
  constructor
  · rintro (h | h | h) ⟨h1, h2, h3⟩
    · exact h h1
    · exact h h2
    · exact h h3
  · intro h
    by_cases h1 : x.f0 = y.f0
    · by_cases h2 : x.f1.toList = y.f1.toList
      · exact Or.inr (Or.inr fun h3 => h ⟨h1, h2, h3⟩)
      · exact Or.inr (Or.inl h2)
    · exact Or.inl h1
theorem eqOps_l0 (a b : List S27) (hl : a.length ≤ 1000000) (he : a.length = b.length) : ∀ (d i : Nat), i + d = a.length → ∃ r : Bool, Ev (fun k => api_Op_41.l0 k a b (a.length : Int) (i : Int)) r ∧ (r = true ↔ a.drop i = b.drop i)
  | 0, i, hd => by
    refine ⟨true, Ev.step (f := fun _ => some true) (fun k => by rw [api_Op_41.l0, if_neg (by omega)]) (Ev.now _), ?_⟩
    rw [List.drop_of_length_le (by omega), List.drop_of_length_le (by omega)]; simp
  | d + 1, i, hd => by
    have hi : i < a.length := by omega
    have ew : wrap64 ((i : Int) + 1) = ((i + 1 : Nat) : Int) := by rw [w64 (by omega) (by omega)]; omega
    obtain ⟨r, h1, h2⟩ := eqOps_l0 a b hl he d (i + 1) (by omega)
    have ea : a.drop i = rd_T27 a (i : Int) :: a.drop (i + 1) := by rw [rd27_getE a i hi, List.drop_eq_getElem_cons hi]
    have eb : b.drop i = rd_T27 b (i : Int) :: b.drop (i + 1) := by rw [rd27_getE b i (by omega), List.drop_eq_getElem_cons (by omega)]
    by_cases c : rd_T27 a (i : Int) = rd_T27 b (i : Int)
    · refine ⟨r, Ev.step (fun k => ?_) h1, ?_⟩
      · rw [api_Op_41.l0, if_pos (by omega), if_pos (by omega), if_pos (by omega), if_pos (by omega), if_neg (fun h => (ne27 _ _).1 h c), ew]
      · rw [ea, eb, h2, c]; simp
    · refine ⟨false, Ev.step (f := fun _ => some false) (fun k => ?_) (Ev.now _), ?_⟩
      · rw [api_Op_41.l0, if_pos (by omega), if_pos (by omega), if_pos (by omega), if_pos (by omega), if_pos ((ne27 _ _).2 c)]
      · rw [ea, eb]
        constructor
        · intro h; cases h
        · intro h; injection h with h _; exact absurd h c
theorem eqOps_ev (a b : List S27) (hl : a.length ≤ 1000000) : ∃ r : Bool, Ev (fun k => api_Op_41.f k a b) r ∧ (r = true ↔ a = b) := by
  unfold api_Op_41.f
  by_cases c : a.length = b.length
  · obtain ⟨r, h1, h2⟩ := eqOps_l0 a b hl c a.length 0 (by omega)
    rw [List.drop_zero, List.drop_zero] at h2
    exact ⟨r, Ev.congr (fun k => by rw [if_pos (by omega)]; rfl) h1, h2⟩
  · refine ⟨false, Ev.congr (fun k => by rw [if_neg (by omega)]) (Ev.now _), ?_⟩
    constructor
    · intro h; cases h
    · intro h; exact absurd (congrArg List.length h) c
def GoodOp (x : S27) : Prop := (x.f0 = 1 ∨ x.f0 = 2) ∧ x.f1.size ≤ 64 ∧ x.f2.size ≤ 512 ∧ (x.f0 = 2 → x.f2.toList = [])
theorem mayP_good (x : S27) : mayP x.f0 x.f1 x.f2 = 0 ↔ GoodOp x := by
  unfold mayP GoodOp
  by_cases c : x.f0 = 1 ∨ x.f0 = 2
  · rw [if_pos c]
    by_cases c1 : x.f1.size > 64 ∨ x.f2.size > 512
    · rw [if_pos c1]
      constructor
      · intro h; omega
      · rintro ⟨_, h1, h2, _⟩; omega
    · rw [if_neg c1]
      by_cases c2 : x.f0 = 2 ∧ x.f2.toList ≠ []
      · rw [if_pos c2]
        constructor
        · intro h; omega
        · rintro ⟨_, _, _, h⟩; exact absurd (h c2.1) c2.2
      · rw [if_neg c2]
        refine ⟨fun _ => ⟨c, by omega, by omega, fun h => ?_⟩, fun _ => rfl⟩
        exact Classical.byContradiction fun hn => c2 ⟨h, hn⟩
  · rw [if_neg c]
    constructor
    · intro h; omega
    · rintro ⟨h, _⟩; exact absurd h c
theorem mayGo_good : ∀ l : List S27, mayGo l = 0 ↔ ∀ x ∈ l, GoodOp x
  | [] => by simp [mayGo]
  | x :: t => by
    rw [mayGo]
    by_cases c : mayP x.f0 x.f1 x.f2 = 0
    · rw [if_pos c, mayGo_good t]
      simp [(mayP_good x).1 c]
    · rw [if_neg c]
      constructor
      · intro h; exact absurd h c
      · intro h; exact (mayP_good x).2 (h x (by simp))
theorem mayL_good (l : List S27) : mayL l = 0 ↔ 1 ≤ l.length ∧ l.length ≤ 32 ∧ ∀ x ∈ l, GoodOp x := by
  unfold mayL
  by_cases c : l.length = 0
  · rw [if_pos c]; omega
  · rw [if_neg c]
    by_cases c2 : l.length > 32
    · rw [if_pos c2]; omega
    · rw [if_neg c2, mayGo_good]
      exact ⟨fun h => ⟨by omega, by omega, h⟩, fun h => h.2.2⟩
def opB (x : S27) : List Int := ints (putN x.f0.toNat) ++ textI x.f1 ++ (if x.f0 = 1 then textI x.f2 else [])
theorem textI_len (s : ByteArray) (h : s.size ≤ 100000) : (textI s).length ≤ 9 + s.size := by
  rw [textI_length]
  have := putN_len9 (n := s.size) (by omega)
  omega
theorem opB_len (x : S27) (h : GoodOp x) : (opB x).length ≤ 1000 := by
  obtain ⟨h0, h1, h2, _⟩ := h
  have g1 := textI_len x.f1 (by omega)
  have g2 := textI_len x.f2 (by omega)
  have g3 := putN_len9 (n := x.f0.toNat) (by omega)
  unfold opB
  rw [List.length_append, List.length_append, ints_length]
  by_cases c : x.f0 = 1
  · rw [if_pos c]; omega
  · rw [if_neg c, List.length_nil]; omega
def opsB (l : List S27) : List Int := l.flatMap opB
theorem opsB_len : ∀ l : List S27, (∀ x ∈ l, GoodOp x) → (opsB l).length ≤ 1000 * l.length
  | [], _ => Nat.le_refl _
  | x :: t, h => by
    have := opsB_len t (fun y hy => h y (List.mem_cons_of_mem _ hy))
    have := opB_len x (h x (by simp))
    unfold opsB at *
    rw [List.flatMap_cons, List.length_append, List.length_cons]; omega
theorem bput_l0 (l : List S27) (hl : l.length ≤ 1000) (hg : ∀ x ∈ l, GoodOp x) : ∀ (d i : Nat) (acc : List Int), i + d = l.length → acc.length + 1000 * d ≤ 100000000 → Ev (fun k => batch_Put.l0 k acc l (l.length : Int) (i : Int)) (acc ++ opsB (l.drop i))
  | 0, i, acc, hd, _ => by
    rw [List.drop_of_length_le (by omega)]
    refine Ev.step (f := fun _ => some (acc ++ opsB [])) (fun k => ?_) (Ev.now _)
    rw [batch_Put.l0, if_neg (by omega)]
    show some acc = some (acc ++ [])
    rw [List.append_nil]
  | d + 1, i, acc, hd, hb => by
    have hi : i < l.length := by omega
    have ew : wrap64 ((i : Int) + 1) = ((i + 1 : Nat) : Int) := by rw [w64 (by omega) (by omega)]; omega
    have ea : l.drop i = rd_T27 l (i : Int) :: l.drop (i + 1) := by rw [rd27_getE l i hi, List.drop_eq_getElem_cons hi]
    have hx : GoodOp (rd_T27 l (i : Int)) := by rw [rd27_getE l i hi]; exact hg _ (List.getElem_mem hi)
    obtain ⟨x, ex⟩ : ∃ x, x = rd_T27 l (i : Int) := ⟨_, rfl⟩
    rw [← ex] at ea hx
    have hlen := opB_len x hx
    have ih := bput_l0 l hl hg d (i + 1) (acc ++ opB x) (by omega) (by rw [List.length_append]; omega)
    have e1 : (acc ++ opB x) ++ opsB (l.drop (i + 1)) = acc ++ opsB (l.drop i) := by
      rw [ea]; unfold opsB; rw [List.flatMap_cons, List.append_assoc]
    rw [e1] at ih
    obtain ⟨g0, g1, g2, _⟩ := hx
    have p1 := put_ev x.f0.toNat (by omega)
    rw [Int.toNat_of_nonneg (by omega)] at p1
    have p2 := puttext_ev x.f1 (by omega)
    have p3 := puttext_ev x.f2 (by omega)
    have lt1 := textI_len x.f1 (by omega)
    have lt2 := textI_len x.f2 (by omega)
    have lt0 := putN_len9 (n := x.f0.toNat) (by omega)
    obtain ⟨K1, hK1⟩ := p1
    obtain ⟨K2, hK2⟩ := p2
    obtain ⟨K3, hK3⟩ := p3
    obtain ⟨K4, hK4⟩ := ih
    refine ⟨max (max K1 K2) (max K3 K4) + 1, fun k hk => ?_⟩
    obtain ⟨k', rfl⟩ : ∃ k', k = k' + 1 := ⟨k - 1, by omega⟩
    have q1 := hK1 k' (by omega)
    have q2 := hK2 k' (by omega)
    have q3 := hK3 k' (by omega)
    have q4 := hK4 k' (by omega)
    dsimp only at q1 q2 q3 q4
    show batch_Put.l0 (k' + 1) acc l (l.length : Int) (i : Int) = _
    have w1 : acc.length + (ints (putN x.f0.toNat)).length < 140737488355328 := by rw [ints_length]; omega
    have w2 : (acc ++ ints (putN x.f0.toNat)).length + (textI x.f1).length < 140737488355328 := by rw [List.length_append, ints_length]; omega
    have w3 : (acc ++ ints (putN x.f0.toNat) ++ textI x.f1).length + (textI x.f2).length < 140737488355328 := by rw [List.length_append, List.length_append, ints_length]; omega
    rw [batch_Put.l0, if_pos (by omega), if_pos (by omega), if_pos (by omega), ← ex, q1, Option.bind_some, if_pos w1, Option.bind_some, q2, Option.bind_some, if_pos w2, Option.bind_some]
    by_cases c : x.f0 = 1
    · have e2 : acc ++ ints (putN x.f0.toNat) ++ textI x.f1 ++ textI x.f2 = acc ++ opB x := by unfold opB; rw [if_pos c]; simp only [List.append_assoc]
      rw [if_pos c, q3, Option.bind_some, if_pos w3, ew, e2]; exact q4
    · have e2 : acc ++ ints (putN x.f0.toNat) ++ textI x.f1 = acc ++ opB x := by unfold opB; rw [if_neg c]; simp only [List.append_assoc, List.append_nil]
      rw [if_neg c, ew, e2]; exact q4
def batchB (seq : Int) (l : List S27) : List Int := ints (putN seq.toNat) ++ ints (putN l.length) ++ opsB l
def PutOk (seq : Int) (l : List S27) : Prop := mayL l = 0 ∧ 1 ≤ seq ∧ seq ≤ 9007199254740992 ∧ NormOf l = l
theorem bput_no (seq : Int) (l : List S27) : Ev (fun k => batch_Put.j0 k true seq l) [] := by
  refine Ev.step (f := fun _ => some []) (fun k => ?_) (Ev.now _)
  rw [batch_Put.j0, if_pos rfl]
theorem bput_ev (seq : Int) (l : List S27) (hl : l.length ≤ 1000) (hk : ∀ x ∈ l, x.f1.size ≤ 1000000) : (PutOk seq l → Ev (fun k => batch_Put.f k seq l) (batchB seq l)) ∧ (¬ PutOk seq l → Ev (fun k => batch_Put.f k seq l) []) := by
  have hm := mayL_ev l (by omega)
  obtain ⟨r, he, hr⟩ := eqOps_ev (NormOf l) l (Nat.le_trans (normOf_len l) (by omega))
  constructor
  · rintro ⟨g1, g2, g3, g4⟩
    rw [g1] at hm
    have hg := (mayL_good l).1 g1
    have p1 := put_ev seq.toNat (by omega)
    rw [Int.toNat_of_nonneg (by omega)] at p1
    have p2 := put_ev l.length (by omega)
    have len1 := putN_len9 (n := seq.toNat) (by omega)
    have len2 := putN_len9 (n := l.length) (by omega)
    have p3 := bput_l0 l hl hg.2.2 l.length 0 (ints (putN seq.toNat) ++ ints (putN l.length)) (by omega) (by rw [List.length_append, ints_length, ints_length]; omega)
    rw [List.drop_zero] at p3
    rw [hr.2 g4] at he
    obtain ⟨K0, hK0⟩ := hm
    obtain ⟨K1, hK1⟩ := p1
    obtain ⟨K2, hK2⟩ := p2
    obtain ⟨K3, hK3⟩ := p3
    obtain ⟨K4, hK4⟩ := he
    refine ⟨max (max K0 K1) (max (max K2 K3) K4) + 1, fun k hk' => ?_⟩
    have q0 := hK0 k (by omega)
    have q4 := hK4 k (by omega)
    obtain ⟨k', rfl⟩ : ∃ k', k = k' + 1 := ⟨k - 1, by omega⟩
    have q1 := hK1 k' (by omega)
    have q2 := hK2 k' (by omega)
    have q3 := hK3 k' (by omega)
    dsimp only at q0 q1 q2 q3 q4
    show batch_Put.f (k' + 1) seq l = _
    unfold batch_Put.f
    rw [q0, Option.bind_some, if_pos rfl, if_neg (by omega), if_neg (by omega), norm_ev l hl hk, Option.bind_some, q4, Option.bind_some]
    show batch_Put.j0 (k' + 1) false seq l = _
    rw [batch_Put.j0, if_neg Bool.false_ne_true, q1, Option.bind_some, q2, Option.bind_some, if_pos (by rw [ints_length, ints_length]; omega)]
    exact q3
  · intro hn
    have hno := bput_no seq l
    unfold batch_Put.f
    refine Ev.bind hm (f := fun k t245 => (if t245 = 0 then (if seq < 1 then (batch_Put.j0 k true seq l) else (if seq > 9007199254740992 then (batch_Put.j0 k true seq l) else ((batch_Norm.f k l).bind fun t246 => ((api_Op_41.f k t246 l).bind fun t249 => (batch_Put.j0 k (!t249) seq l))))) else (batch_Put.j0 k true seq l))) ?_
    by_cases c0 : mayL l = 0
    · by_cases c1 : seq < 1
      · exact Ev.congr (fun k => by rw [if_pos c0, if_pos c1]) hno
      · by_cases c2 : seq > 9007199254740992
        · exact Ev.congr (fun k => by rw [if_pos c0, if_neg c1, if_pos c2]) hno
        · have hrf : r = false := by
            cases r with
            | false => rfl
            | true => exact absurd ⟨c0, by omega, by omega, hr.1 rfl⟩ hn
          rw [hrf] at he
          refine Ev.congr (fun k => by rw [if_pos c0, if_neg c1, if_neg c2, norm_ev l hl hk, Option.bind_some]) (Ev.bind he (f := fun k t249 => batch_Put.j0 k (!t249) seq l) ?_)
          exact hno
    · exact Ev.congr (fun k => by rw [if_neg c0]) hno

/-! ### batch.Get: what bytes tell -/
theorem eqB_l0 (a b : List Int) (hl : a.length ≤ 1000000000) (he : a.length = b.length) : ∀ (d i : Nat), i + d = a.length → ∃ r : Bool, Ev (fun k => slices_Equal_byte_byte.l0 k a b (a.length : Int) (i : Int)) r ∧ (r = true ↔ a.drop i = b.drop i)
  | 0, i, hd => by
    refine ⟨true, Ev.step (f := fun _ => some true) (fun k => by rw [slices_Equal_byte_byte.l0, if_neg (by omega)]) (Ev.now _), ?_⟩
    rw [List.drop_of_length_le (by omega), List.drop_of_length_le (by omega)]; simp
  | d + 1, i, hd => by
    have hi : i < a.length := by omega
    have ew : wrap64 ((i : Int) + 1) = ((i + 1 : Nat) : Int) := by rw [w64 (by omega) (by omega)]; omega
    obtain ⟨r, h1, h2⟩ := eqB_l0 a b hl he d (i + 1) (by omega)
    have ea : a.drop i = rd a (i : Int) :: a.drop (i + 1) := by rw [rd_at hi, List.drop_eq_getElem_cons hi]
    have eb : b.drop i = rd b (i : Int) :: b.drop (i + 1) := by rw [rd_at (show i < b.length by omega), List.drop_eq_getElem_cons (by omega)]
    by_cases c : rd a (i : Int) = rd b (i : Int)
    · refine ⟨r, Ev.step (fun k => ?_) h1, ?_⟩
      · rw [slices_Equal_byte_byte.l0, if_pos (by omega), if_pos (by omega), if_pos (by omega), if_pos (by omega), if_pos c, ew]
      · rw [ea, eb, h2, c]; simp
    · refine ⟨false, Ev.step (f := fun _ => some false) (fun k => ?_) (Ev.now _), ?_⟩
      · rw [slices_Equal_byte_byte.l0, if_pos (by omega), if_pos (by omega), if_pos (by omega), if_pos (by omega), if_neg c]
      · rw [ea, eb]
        constructor
        · intro h; cases h
        · intro h; injection h with h _; exact absurd h c
theorem eqB_ev (a b : List Int) (hl : a.length ≤ 1000000000) : ∃ r : Bool, Ev (fun k => slices_Equal_byte_byte.f k a b) r ∧ (r = true ↔ a = b) := by
  unfold slices_Equal_byte_byte.f
  by_cases c : a.length = b.length
  · obtain ⟨r, h1, h2⟩ := eqB_l0 a b hl c a.length 0 (by omega)
    rw [List.drop_zero, List.drop_zero] at h2
    exact ⟨r, Ev.congr (fun k => by rw [if_pos (by omega)]; rfl) h1, h2⟩
  · refine ⟨false, Ev.congr (fun k => by rw [if_neg (by omega)]) (Ev.now _), ?_⟩
    constructor
    · intro h; cases h
    · intro h; exact absurd (congrArg List.length h) c
def numR (l : List Int) (p : Nat) : Option (Nat × Nat) := (getN 9 ((nats l).drop p)).map fun q => (q.1, p + q.2)
def textR (l : List Int) (p : Nat) : Option (ByteArray × Nat) := (getN 9 ((nats l).drop p)).bind fun q => if l.length < p + q.2 + q.1 then none else some (strOfNums ((l.take (p + q.2 + q.1)).drop (p + q.2)), p + q.2 + q.1)
def opR (l : List Int) (p : Nat) : Option (S27 × Nat) := (numR l p).bind fun a => (textR l a.2).bind fun b => if a.1 = 1 then (textR l b.2).bind fun c => some (⟨(a.1 : Int), b.1, c.1⟩, c.2) else some (⟨(a.1 : Int), b.1, (⟨#[]⟩ : ByteArray)⟩, b.2)
def opsR (l : List Int) : Nat → Nat → Option (List S27)
  | 0, _ => some []
  | n + 1, p => (opR l p).bind fun a => (opsR l n a.2).map fun t => a.1 :: t
theorem num_ev (l : List Int) (hb : Bytes l) (hl : l.length ≤ 1000000) (p : Nat) (hp : p ≤ l.length) :
    (∃ v q, numR l p = some (v, q) ∧ q ≤ l.length ∧ v < 9223372036854775808 ∧ Ev (fun k => num_Get.f k l (p : Int)) ((v : Int), (q : Int), true)) ∨ (numR l p = none ∧ ∃ a b, Ev (fun k => num_Get.f k l (p : Int)) (a, b, false)) := by
  have h := get_ev l hb (by omega) p (by omega)
  unfold numR
  cases ho : getN 9 ((nats l).drop p) with
  | none => rw [ho] at h; exact Or.inr ⟨rfl, _, _, h⟩
  | some q =>
    obtain ⟨v, n⟩ := q
    obtain ⟨g1, g2, g3⟩ := getN_bound 9 _ v n (fun c hc => nats_lt hb c (List.mem_of_mem_drop hc)) ho
    rw [List.length_drop, nats_length] at g3
    rw [ho] at h
    refine Or.inl ⟨v, p + n, rfl, by omega, g1, ?_⟩
    exact h
theorem text_ev (l : List Int) (hb : Bytes l) (hl : l.length ≤ 1000000) (p : Nat) (hp : p ≤ l.length) :
    (∃ s q, textR l p = some (s, q) ∧ q ≤ l.length ∧ s.size ≤ l.length ∧ Ev (fun k => num_GetText.f k l (p : Int)) (s, (q : Int), true)) ∨ (textR l p = none ∧ ∃ a b, Ev (fun k => num_GetText.f k l (p : Int)) (a, b, false)) := by
  have h := gettext_ev l hb (by omega) p (by omega)
  unfold textR
  cases ho : getN 9 ((nats l).drop p) with
  | none => rw [ho] at h; exact Or.inr ⟨rfl, _, _, h⟩
  | some q =>
    obtain ⟨v, n⟩ := q
    rw [ho] at h
    rw [Option.bind_some]
    simp only [toldT] at h
    by_cases c : l.length < p + n + v
    · rw [if_pos c] at h
      rw [if_pos c]
      exact Or.inr ⟨rfl, _, _, h⟩
    · rw [if_neg c] at h
      rw [if_neg c]
      refine Or.inl ⟨_, _, rfl, by omega, ?_, h⟩
      rw [strOfNums_size, List.length_drop, List.length_take]; omega
theorem op_ev (l : List Int) (hb : Bytes l) (hl : l.length ≤ 1000000) (p : Nat) (hp : p ≤ l.length) :
    (∃ x q, opR l p = some (x, q) ∧ q ≤ l.length ∧ x.f1.size ≤ l.length ∧ Ev (fun k => batch_op.f k l (p : Int)) (x.f0, x.f1, x.f2, (q : Int), true)) ∨ (opR l p = none ∧ ∃ a b c d, Ev (fun k => batch_op.f k l (p : Int)) (a, b, c, d, false)) := by
  unfold batch_op.f opR
  rcases num_ev l hb hl p hp with ⟨v, q, e1, hq, _, h1⟩ | ⟨e1, a, b, h1⟩
  case inr =>
    rw [e1]
    exact Or.inr ⟨rfl, _, _, _, _, Ev.bind h1 (f := fun k bt297 => (if bt297.2.2 = true then ((num_GetText.f k l bt297.2.1).bind fun bt300 => (if bt300.2.2 = true then (if bt297.1 = 1 then ((num_GetText.f k l bt300.2.1).bind fun bt303 => (some (bt297.1, bt300.1, bt303.1, bt303.2.1, bt303.2.2))) else (some (bt297.1, bt300.1, (⟨#[]⟩ : ByteArray), bt300.2.1, bt300.2.2))) else (some (bt297.1, bt300.1, (⟨#[]⟩ : ByteArray), bt300.2.1, bt300.2.2)))) else (some (bt297.1, (⟨#[]⟩ : ByteArray), (⟨#[]⟩ : ByteArray), bt297.2.1, bt297.2.2)))) (Ev.congr (fun k => by rw [if_neg Bool.false_ne_true]) (Ev.now _))⟩
  rw [e1, Option.bind_some]
  rcases text_ev l hb hl q hq with ⟨u, q2, e2, hq2, hu, h2⟩ | ⟨e2, a, b, h2⟩
  case inr =>
    rw [e2]
    refine Or.inr ⟨rfl, (v : Int), a, (⟨#[]⟩ : ByteArray), b, Ev.bind h1 (f := fun k bt297 => (if bt297.2.2 = true then ((num_GetText.f k l bt297.2.1).bind fun bt300 => (if bt300.2.2 = true then (if bt297.1 = 1 then ((num_GetText.f k l bt300.2.1).bind fun bt303 => (some (bt297.1, bt300.1, bt303.1, bt303.2.1, bt303.2.2))) else (some (bt297.1, bt300.1, (⟨#[]⟩ : ByteArray), bt300.2.1, bt300.2.2))) else (some (bt297.1, bt300.1, (⟨#[]⟩ : ByteArray), bt300.2.1, bt300.2.2)))) else (some (bt297.1, (⟨#[]⟩ : ByteArray), (⟨#[]⟩ : ByteArray), bt297.2.1, bt297.2.2)))) ?_⟩
    exact Ev.congr (fun k => by rw [if_pos rfl]) (Ev.bind h2 (f := fun k bt300 => (if bt300.2.2 = true then (if (v : Int) = 1 then ((num_GetText.f k l bt300.2.1).bind fun bt303 => (some ((v : Int), bt300.1, bt303.1, bt303.2.1, bt303.2.2))) else (some ((v : Int), bt300.1, (⟨#[]⟩ : ByteArray), bt300.2.1, bt300.2.2))) else (some ((v : Int), bt300.1, (⟨#[]⟩ : ByteArray), bt300.2.1, bt300.2.2)))) (Ev.congr (fun k => by rw [if_neg Bool.false_ne_true]) (Ev.now _)))
  rw [e2, Option.bind_some]
  have glue : ∀ r : Int × ByteArray × ByteArray × Int × Bool, Ev (fun k => (if (v : Int) = 1 then ((num_GetText.f k l (q2 : Int)).bind fun bt303 => (some ((v : Int), u, bt303.1, bt303.2.1, bt303.2.2))) else (some ((v : Int), u, (⟨#[]⟩ : ByteArray), (q2 : Int), true)))) r →
      Ev (fun k => (num_Get.f k l (p : Int)).bind fun bt297 => (if bt297.2.2 = true then ((num_GetText.f k l bt297.2.1).bind fun bt300 => (if bt300.2.2 = true then (if bt297.1 = 1 then ((num_GetText.f k l bt300.2.1).bind fun bt303 => (some (bt297.1, bt300.1, bt303.1, bt303.2.1, bt303.2.2))) else (some (bt297.1, bt300.1, (⟨#[]⟩ : ByteArray), bt300.2.1, bt300.2.2))) else (some (bt297.1, bt300.1, (⟨#[]⟩ : ByteArray), bt300.2.1, bt300.2.2)))) else (some (bt297.1, (⟨#[]⟩ : ByteArray), (⟨#[]⟩ : ByteArray), bt297.2.1, bt297.2.2)))) r := by
    intro r hr
    refine Ev.bind h1 (f := fun k bt297 => (if bt297.2.2 = true then ((num_GetText.f k l bt297.2.1).bind fun bt300 => (if bt300.2.2 = true then (if bt297.1 = 1 then ((num_GetText.f k l bt300.2.1).bind fun bt303 => (some (bt297.1, bt300.1, bt303.1, bt303.2.1, bt303.2.2))) else (some (bt297.1, bt300.1, (⟨#[]⟩ : ByteArray), bt300.2.1, bt300.2.2))) else (some (bt297.1, bt300.1, (⟨#[]⟩ : ByteArray), bt300.2.1, bt300.2.2)))) else (some (bt297.1, (⟨#[]⟩ : ByteArray), (⟨#[]⟩ : ByteArray), bt297.2.1, bt297.2.2)))) ?_
    refine Ev.congr (fun k => by rw [if_pos rfl]) (Ev.bind h2 (f := fun k bt300 => (if bt300.2.2 = true then (if (v : Int) = 1 then ((num_GetText.f k l bt300.2.1).bind fun bt303 => (some ((v : Int), bt300.1, bt303.1, bt303.2.1, bt303.2.2))) else (some ((v : Int), bt300.1, (⟨#[]⟩ : ByteArray), bt300.2.1, bt300.2.2))) else (some ((v : Int), bt300.1, (⟨#[]⟩ : ByteArray), bt300.2.1, bt300.2.2)))) ?_)
    exact Ev.congr (fun k => by rw [if_pos rfl]) hr
  by_cases c : v = 1
  · have c' : (v : Int) = 1 := by omega
    rw [if_pos c]
    rcases text_ev l hb hl q2 hq2 with ⟨s, q3, e3, hq3, hs, h3⟩ | ⟨e3, a, b, h3⟩
    · rw [e3]
      exact Or.inl ⟨_, _, rfl, hq3, hu, glue _ (Ev.congr (fun k => by rw [if_pos c']) (Ev.bind h3 (f := fun k bt303 => some ((v : Int), u, bt303.1, bt303.2.1, bt303.2.2)) (Ev.now _)))⟩
    · rw [e3]
      exact Or.inr ⟨rfl, _, _, _, _, glue _ (Ev.congr (fun k => by rw [if_pos c']) (Ev.bind h3 (f := fun k bt303 => some ((v : Int), u, bt303.1, bt303.2.1, bt303.2.2)) (Ev.now _)))⟩
  · have c' : ¬ (v : Int) = 1 := by omega
    rw [if_neg c]
    exact Or.inl ⟨_, _, rfl, hq2, hu, glue _ (Ev.congr (fun k => by rw [if_neg c']) (Ev.now _))⟩
/-- What Get answers, once operations have been read. -/
def Fin (l : List Int) (s : Int) (L : List S27) (res : Int × List S27 × Bool) : Prop := (PutOk s L ∧ batchB s L = l ∧ res = (s, L, true)) ∨ (¬ (PutOk s L ∧ batchB s L = l) ∧ res = (0, [], false))
theorem bget_fin (l : List Int) (hl : l.length ≤ 1000000) (hne : l ≠ []) (s : Int) (L : List S27) (hL : L.length ≤ 1000) (hk : ∀ x ∈ L, x.f1.size ≤ 1000000) :
    ∃ res, Ev (fun k => (batch_Put.f k s L).bind fun t325 => ((slices_Equal_byte_byte.f k t325 l).bind fun t328 => (if t328 = true then (if (l.length : Int) = 0 then (some (0, ([] : List (S27)), false)) else (some (s, L, true))) else (some (0, ([] : List (S27)), false))))) res ∧ Fin l s L res := by
  obtain ⟨h1, h2⟩ := bput_ev s L hL hk
  have hln : ¬ (l.length : Int) = 0 := fun e => hne (List.length_eq_zero_iff.1 (by omega))
  by_cases c : PutOk s L
  · have hb := h1 c
    have hbl : (batchB s L).length ≤ 1000000000 := by
      have g := ((mayL_good L).1 c.1).2
      have := opsB_len L g.2
      have l1 := putN_len9 (n := s.toNat) (by have := c.2.2.1; omega)
      have l2 := putN_len9 (n := L.length) (by omega)
      unfold batchB
      rw [List.length_append, List.length_append, ints_length, ints_length]; omega
    obtain ⟨r, he, hr⟩ := eqB_ev (batchB s L) l hbl
    refine ⟨if r = true then (s, L, true) else (0, [], false), Ev.bind hb (f := fun k t325 => ((slices_Equal_byte_byte.f k t325 l).bind fun t328 => (if t328 = true then (if (l.length : Int) = 0 then (some (0, ([] : List (S27)), false)) else (some (s, L, true))) else (some (0, ([] : List (S27)), false))))) (Ev.bind he (f := fun k t328 => (if t328 = true then (if (l.length : Int) = 0 then (some (0, ([] : List (S27)), false)) else (some (s, L, true))) else (some (0, ([] : List (S27)), false)))) ?_), ?_⟩
    · cases r with
      | true => exact Ev.congr (fun k => by rw [if_pos rfl, if_neg hln, if_pos rfl]) (Ev.now _)
      | false => exact Ev.congr (fun k => by rw [if_neg Bool.false_ne_true, if_neg Bool.false_ne_true]) (Ev.now _)
    · cases r with
      | true => exact Or.inl ⟨c, hr.1 rfl, rfl⟩
      | false => exact Or.inr ⟨fun h => Bool.false_ne_true (hr.2 h.2), rfl⟩
  · have hb := h2 c
    obtain ⟨r, he, hr⟩ := eqB_ev [] l (Nat.zero_le _)
    have hrf : r = false := by
      cases r with
      | false => rfl
      | true => exact absurd (hr.1 rfl).symm hne
    rw [hrf] at he
    refine ⟨(0, [], false), Ev.bind hb (f := fun k t325 => ((slices_Equal_byte_byte.f k t325 l).bind fun t328 => (if t328 = true then (if (l.length : Int) = 0 then (some (0, ([] : List (S27)), false)) else (some (s, L, true))) else (some (0, ([] : List (S27)), false))))) (Ev.bind he (f := fun k t328 => (if t328 = true then (if (l.length : Int) = 0 then (some (0, ([] : List (S27)), false)) else (some (s, L, true))) else (some (0, ([] : List (S27)), false)))) ?_), Or.inr ⟨fun h => c h.1, rfl⟩⟩
    exact Ev.congr (fun k => by rw [if_neg Bool.false_ne_true]) (Ev.now _)
theorem bget_l0 (l : List Int) (hb : Bytes l) (hl : l.length ≤ 1000000) (hne : l ≠ []) (s : Int) (n : Nat) (hn : n ≤ 32) : ∀ (d i p : Nat) (L : List S27), i + d = n → p ≤ l.length → L.length = i → (∀ x ∈ L, x.f1.size ≤ 1000000) →
    ∃ res, Ev (fun k => batch_Get.l0 k l (p : Int) (n : Int) (i : Int) s L) res ∧ match opsR l d p with
      | none => res = (0, [], false)
      | some t => Fin l s (L ++ t) res
  | 0, i, p, L, hd, hp, hL, hk => by
    obtain ⟨res, h1, h2⟩ := bget_fin l hl hne s L (by omega) hk
    refine ⟨res, Ev.step (fun k => ?_) h1, ?_⟩
    · rw [batch_Get.l0, if_neg (by omega)]
    · show Fin l s (L ++ []) res
      rw [List.append_nil]; exact h2
  | d + 1, i, p, L, hd, hp, hL, hk => by
    have ew : wrap64 ((i : Int) + 1) = ((i + 1 : Nat) : Int) := by rw [w64 (by omega) (by omega)]; omega
    rcases op_ev l hb hl p hp with ⟨x, q, e1, hq, hx, h1⟩ | ⟨e1, a, b, c, e, h1⟩
    · obtain ⟨res, h2, h3⟩ := bget_l0 l hb hl hne s n hn d (i + 1) q (L ++ [x]) (by omega) hq (by rw [List.length_append, List.length_singleton, hL]) (fun y hy => by
        rcases List.mem_append.1 hy with hy | hy
        · exact hk y hy
        · rw [List.mem_singleton.1 hy]; omega)
      refine ⟨res, Ev.step (fun k => by rw [batch_Get.l0, if_pos (by omega)]) (Ev.bind h1 (f := fun k bt316 => (if bt316.2.2.2.2 = true then (if L.length < 3518437208883 then (batch_Get.l0 k l bt316.2.2.2.1 (n : Int) (wrap64 ((i : Int) + 1)) s (L ++ [(⟨bt316.1, bt316.2.1, bt316.2.2.1⟩ : S27)])) else (none)) else (some (0, ([] : List (S27)), false)))) ?_), ?_⟩
      · exact Ev.congr (fun k => by rw [if_pos rfl, if_pos (by omega), ew]) h2
      · rw [opsR, e1, Option.bind_some]
        cases e2 : opsR l d q with
        | none => rw [e2] at h3; exact h3
        | some t =>
          rw [e2] at h3
          show Fin l s (L ++ x :: t) res
          have e4 : L ++ x :: t = L ++ [x] ++ t := by simp
          rw [e4]; exact h3
    · refine ⟨(0, [], false), Ev.step (fun k => by rw [batch_Get.l0, if_pos (by omega)]) (Ev.bind h1 (f := fun k bt316 => (if bt316.2.2.2.2 = true then (if L.length < 3518437208883 then (batch_Get.l0 k l bt316.2.2.2.1 (n : Int) (wrap64 ((i : Int) + 1)) s (L ++ [(⟨bt316.1, bt316.2.1, bt316.2.2.1⟩ : S27)])) else (none)) else (some (0, ([] : List (S27)), false)))) ?_), ?_⟩
      · exact Ev.congr (fun k => by rw [if_neg Bool.false_ne_true]) (Ev.now _)
      · rw [opsR, e1]; rfl
/-- All that bytes tell. -/
def allR (l : List Int) : Option (Int × List S27) := (numR l 0).bind fun a => (numR l a.2).bind fun b => if b.1 > 32 then none else (opsR l b.1 b.2).map fun t => ((a.1 : Int), t)
theorem bget_ev (l : List Int) (hb : Bytes l) (hl : l.length ≤ 1000000) : ∃ res, Ev (fun k => batch_Get.f k l) res ∧ ((res = (0, [], false) ∧ ∀ s L, allR l = some (s, L) → ¬ (PutOk s L ∧ batchB s L = l)) ∨ ∃ s L, allR l = some (s, L) ∧ PutOk s L ∧ batchB s L = l ∧ res = (s, L, true)) := by
  unfold batch_Get.f allR
  rcases num_ev l hb hl 0 (Nat.zero_le _) with ⟨v, q, e1, hq, _, h1⟩ | ⟨e1, a, b, h1⟩
  case inr =>
    refine ⟨(0, [], false), Ev.bind h1 (f := fun k bt310 => (if bt310.2.2 = true then ((num_Get.f k l bt310.2.1).bind fun bt313 => (if bt313.2.2 = true then (batch_Get.j0 k l bt310.1 bt313.2.1 bt313.1 (decide (bt313.1 > 32)) 0) else (batch_Get.j0 k l bt310.1 bt313.2.1 bt313.1 true 0))) else (some (0, ([] : List (S27)), false)))) (Ev.congr (fun k => by rw [if_neg Bool.false_ne_true]) (Ev.now _)), Or.inl ⟨rfl, fun s L h => ?_⟩⟩
    rw [e1] at h; cases h
  have hne : l ≠ [] := by
    intro e; subst e
    simp [numR, nats, getN] at e1
  rw [e1, Option.bind_some]
  have hj : ∀ x y z, Ev (fun k => batch_Get.j0 k l x y z true 0) ((0 : Int), ([] : List S27), false) := fun x y z => Ev.step (f := fun _ => some (0, [], false)) (fun k => by rw [batch_Get.j0, if_pos rfl]) (Ev.now _)
  rcases num_ev l hb hl q hq with ⟨n, q2, e2, hq2, _, h2⟩ | ⟨e2, a, b, h2⟩
  case inr =>
    refine ⟨(0, [], false), Ev.bind h1 (f := fun k bt310 => (if bt310.2.2 = true then ((num_Get.f k l bt310.2.1).bind fun bt313 => (if bt313.2.2 = true then (batch_Get.j0 k l bt310.1 bt313.2.1 bt313.1 (decide (bt313.1 > 32)) 0) else (batch_Get.j0 k l bt310.1 bt313.2.1 bt313.1 true 0))) else (some (0, ([] : List (S27)), false)))) (Ev.congr (fun k => by rw [if_pos rfl]) (Ev.bind h2 (f := fun k bt313 => (if bt313.2.2 = true then (batch_Get.j0 k l (v : Int) bt313.2.1 bt313.1 (decide (bt313.1 > 32)) 0) else (batch_Get.j0 k l (v : Int) bt313.2.1 bt313.1 true 0))) (Ev.congr (fun k => by rw [if_neg Bool.false_ne_true]) (hj _ _ _)))), Or.inl ⟨rfl, fun s L h => ?_⟩⟩
    rw [e2] at h; cases h
  rw [e2, Option.bind_some]
  have glue : ∀ r, Ev (fun k => batch_Get.j0 k l (v : Int) (q2 : Int) (n : Int) (decide ((n : Int) > 32)) 0) r → Ev (fun k => (num_Get.f k l 0).bind fun bt310 => (if bt310.2.2 = true then ((num_Get.f k l bt310.2.1).bind fun bt313 => (if bt313.2.2 = true then (batch_Get.j0 k l bt310.1 bt313.2.1 bt313.1 (decide (bt313.1 > 32)) 0) else (batch_Get.j0 k l bt310.1 bt313.2.1 bt313.1 true 0))) else (some (0, ([] : List (S27)), false)))) r := by
    intro r hr
    refine Ev.bind h1 (f := fun k bt310 => (if bt310.2.2 = true then ((num_Get.f k l bt310.2.1).bind fun bt313 => (if bt313.2.2 = true then (batch_Get.j0 k l bt310.1 bt313.2.1 bt313.1 (decide (bt313.1 > 32)) 0) else (batch_Get.j0 k l bt310.1 bt313.2.1 bt313.1 true 0))) else (some (0, ([] : List (S27)), false)))) ?_
    refine Ev.congr (fun k => by rw [if_pos rfl]) (Ev.bind h2 (f := fun k bt313 => (if bt313.2.2 = true then (batch_Get.j0 k l (v : Int) bt313.2.1 bt313.1 (decide (bt313.1 > 32)) 0) else (batch_Get.j0 k l (v : Int) bt313.2.1 bt313.1 true 0))) ?_)
    exact Ev.congr (fun k => by rw [if_pos rfl]) hr
  by_cases c : n > 32
  · refine ⟨(0, [], false), glue _ (by rw [decide_eq_true (show (n : Int) > 32 by omega)]; exact hj _ _ _), Or.inl ⟨rfl, fun s L h => ?_⟩⟩
    rw [if_pos c] at h; cases h
  · obtain ⟨res, h3, h4⟩ := bget_l0 l hb hl hne (v : Int) n (by omega) n 0 q2 [] (by omega) hq2 rfl (by simp)
    refine ⟨res, glue _ (by
      rw [decide_eq_false (show ¬ (n : Int) > 32 by omega)]
      exact Ev.step (fun k => by rw [batch_Get.j0, if_neg Bool.false_ne_true]; rfl) h3), ?_⟩
    rw [if_neg c]
    cases e3 : opsR l n q2 with
    | none =>
      rw [e3] at h4
      exact Or.inl ⟨h4, fun s L h => by cases h⟩
    | some t =>
      rw [e3] at h4
      replace h4 : Fin l (v : Int) t res := h4
      rcases h4 with ⟨g1, g2, g3⟩ | ⟨g1, g2⟩
      · exact Or.inr ⟨_, _, rfl, g1, g2, g3⟩
      · refine Or.inl ⟨g2, fun s L h => ?_⟩
        rw [Option.map_some] at h
        injection h with h; injection h with ha hb2
        rw [← ha, ← hb2]; exact g1

/-! ### a batch's bytes are told again -/
theorem nats_at (A B : List Int) : (nats (A ++ B)).drop A.length = nats B := by
  rw [nats_append, List.drop_append_of_le_length (by rw [nats_length]; exact Nat.le_refl _), List.drop_of_length_le (by rw [nats_length]; exact Nat.le_refl _), List.nil_append]
theorem numR_at (A R : List Int) (v : Nat) (h : v < 9223372036854775808) : numR (A ++ (ints (putN v) ++ R)) A.length = some (v, A.length + (putN v).length) := by
  unfold numR
  rw [nats_at, nats_append, nats_ints, get_put9 v (nats R) h]; rfl
theorem textR_at (A R : List Int) (s : ByteArray) (h : s.size ≤ 1000000) : textR (A ++ (textI s ++ R)) A.length = some (s, A.length + (textI s).length) := by
  unfold textR
  have e0 : textI s ++ R = ints (putN s.size) ++ (bytesOf s ++ R) := by unfold textI; rw [List.append_assoc]
  have hl : (textI s).length = (putN s.size).length + s.size := textI_length s
  rw [e0, nats_at, nats_append, nats_ints, get_put9 s.size _ (by omega), Option.bind_some]
  dsimp only
  have hlen : (A ++ (ints (putN s.size) ++ (bytesOf s ++ R))).length = A.length + (putN s.size).length + s.size + R.length := by
    rw [List.length_append, List.length_append, List.length_append, ints_length, bytesOf_length]; omega
  rw [hlen, if_neg (by omega), hl]
  have e1 : ((A ++ (ints (putN s.size) ++ (bytesOf s ++ R))).take (A.length + (putN s.size).length + s.size)).drop (A.length + (putN s.size).length) = bytesOf s := by
    rw [List.drop_take, show A.length + (putN s.size).length + s.size - (A.length + (putN s.size).length) = s.size by omega]
    have e2 : A ++ (ints (putN s.size) ++ (bytesOf s ++ R)) = (A ++ ints (putN s.size)) ++ (bytesOf s ++ R) := by rw [List.append_assoc]
    have e3 : (A ++ ints (putN s.size)).length = A.length + (putN s.size).length := by rw [List.length_append, ints_length]
    rw [e2, ← e3, List.drop_left, List.take_append_of_le_length (by rw [bytesOf_length]; exact Nat.le_refl _), List.take_of_length_le (by rw [bytesOf_length]; exact Nat.le_refl _)]
  rw [e1, strOf_bytes, Nat.add_assoc]
theorem opR_at (A R : List Int) (x : S27) (h : GoodOp x) : opR (A ++ (opB x ++ R)) A.length = some (x, A.length + (opB x).length) := by
  obtain ⟨h0, h1, h2, h3⟩ := h
  unfold opR
  by_cases c : x.f0 = 1
  · have e : A ++ (opB x ++ R) = A ++ (ints (putN x.f0.toNat) ++ (textI x.f1 ++ (textI x.f2 ++ R))) := by unfold opB; rw [if_pos c]; simp only [List.append_assoc]
    have e2 : A ++ (ints (putN x.f0.toNat) ++ (textI x.f1 ++ (textI x.f2 ++ R))) = (A ++ ints (putN x.f0.toNat)) ++ (textI x.f1 ++ (textI x.f2 ++ R)) := by simp only [List.append_assoc]
    have e3 : A ++ (ints (putN x.f0.toNat) ++ (textI x.f1 ++ (textI x.f2 ++ R))) = (A ++ ints (putN x.f0.toNat) ++ textI x.f1) ++ (textI x.f2 ++ R) := by simp only [List.append_assoc]
    have l1 : (A ++ ints (putN x.f0.toNat)).length = A.length + (putN x.f0.toNat).length := by rw [List.length_append, ints_length]
    have l2 : (A ++ ints (putN x.f0.toNat) ++ textI x.f1).length = A.length + (putN x.f0.toNat).length + (textI x.f1).length := by rw [List.length_append, l1]
    have l3 : (opB x).length = (putN x.f0.toNat).length + (textI x.f1).length + (textI x.f2).length := by unfold opB; rw [if_pos c, List.length_append, List.length_append, ints_length]
    rw [e, numR_at A _ x.f0.toNat (by omega), Option.bind_some]
    dsimp only
    rw [e2, ← l1, textR_at _ _ x.f1 (by omega), Option.bind_some, if_pos (by omega)]
    dsimp only
    rw [← e2, e3, l1, ← l2, textR_at _ _ x.f2 (by omega), Option.bind_some, l2, l3]
    have ex : (⟨(x.f0.toNat : Int), x.f1, x.f2⟩ : S27) = x := by rw [Int.toNat_of_nonneg (by omega)]
    rw [ex]
    simp only [Nat.add_assoc]
  · have c2 : x.f0 = 2 := by omega
    have e : A ++ (opB x ++ R) = A ++ (ints (putN x.f0.toNat) ++ (textI x.f1 ++ R)) := by unfold opB; rw [if_neg c]; simp only [List.append_assoc, List.append_nil]
    have e2 : A ++ (ints (putN x.f0.toNat) ++ (textI x.f1 ++ R)) = (A ++ ints (putN x.f0.toNat)) ++ (textI x.f1 ++ R) := by simp only [List.append_assoc]
    have l1 : (A ++ ints (putN x.f0.toNat)).length = A.length + (putN x.f0.toNat).length := by rw [List.length_append, ints_length]
    have l3 : (opB x).length = (putN x.f0.toNat).length + (textI x.f1).length := by unfold opB; rw [if_neg c, List.length_append, List.length_append, ints_length, List.length_nil]; omega
    have hf : x.f2 = (⟨#[]⟩ : ByteArray) := tl_inj (by rw [h3 c2, Go.ByteArray.toList_eq])
    rw [e, numR_at A _ x.f0.toNat (by omega), Option.bind_some]
    dsimp only
    rw [e2, ← l1, textR_at _ _ x.f1 (by omega), Option.bind_some, if_neg (by omega), l1, l3]
    have ex : (⟨(x.f0.toNat : Int), x.f1, (⟨#[]⟩ : ByteArray)⟩ : S27) = x := by rw [Int.toNat_of_nonneg (by omega), ← hf]
    rw [ex]
    simp only [Nat.add_assoc]
theorem opsR_at (R : List Int) : ∀ (L : List S27) (A : List Int), (∀ x ∈ L, GoodOp x) → opsR (A ++ (opsB L ++ R)) L.length A.length = some L
  | [], A, _ => rfl
  | x :: t, A, h => by
    have e : A ++ (opsB (x :: t) ++ R) = A ++ (opB x ++ (opsB t ++ R)) := by unfold opsB; rw [List.flatMap_cons]; simp only [List.append_assoc]
    have e2 : A ++ (opB x ++ (opsB t ++ R)) = (A ++ opB x) ++ (opsB t ++ R) := by simp only [List.append_assoc]
    have ih := opsR_at R t (A ++ opB x) (fun y hy => h y (List.mem_cons_of_mem _ hy))
    rw [List.length_append] at ih
    rw [e, List.length_cons, opsR, opR_at A _ x (h x (by simp)), Option.bind_some]
    dsimp only
    rw [e2, ih]; rfl
theorem allR_put (s : Int) (L : List S27) (h : PutOk s L) : allR (batchB s L) = some (s, L) := by
  obtain ⟨h1, h2, h3, h4⟩ := h
  obtain ⟨g1, g2, g3⟩ := (mayL_good L).1 h1
  have e1 : batchB s L = ([] : List Int) ++ (ints (putN s.toNat) ++ (ints (putN L.length) ++ opsB L)) := by unfold batchB; simp only [List.append_assoc, List.nil_append]
  have e2 : batchB s L = ints (putN s.toNat) ++ (ints (putN L.length) ++ opsB L) := by unfold batchB; simp only [List.append_assoc]
  have e3 : batchB s L = (ints (putN s.toNat) ++ ints (putN L.length)) ++ (opsB L ++ []) := by unfold batchB; simp only [List.append_nil]
  have l1 : (ints (putN s.toNat)).length = (putN s.toNat).length := ints_length _
  have l2 : (ints (putN s.toNat) ++ ints (putN L.length)).length = (putN s.toNat).length + (putN L.length).length := by rw [List.length_append, ints_length, ints_length]
  have n1 : numR (batchB s L) 0 = some (s.toNat, (putN s.toNat).length) := by
    have := numR_at [] (ints (putN L.length) ++ opsB L) s.toNat (by omega)
    rw [← e1] at this
    rw [List.length_nil, Nat.zero_add] at this; exact this
  have n2 : numR (batchB s L) (putN s.toNat).length = some (L.length, (putN s.toNat).length + (putN L.length).length) := by
    have := numR_at (ints (putN s.toNat)) (opsB L) L.length (by omega)
    rw [← e2, l1] at this; exact this
  have n3 : opsR (batchB s L) L.length ((putN s.toNat).length + (putN L.length).length) = some L := by
    have := opsR_at [] L (ints (putN s.toNat) ++ ints (putN L.length)) g3
    rw [← e3, l2] at this; exact this
  unfold allR
  rw [n1, Option.bind_some]
  dsimp only
  rw [n2, Option.bind_some]
  dsimp only
  rw [if_neg (by omega), n3, Option.map_some, Int.toNat_of_nonneg (by omega)]
theorem opB_bytes (x : S27) : Bytes (opB x) := by
  intro y hy
  unfold opB at hy
  rcases List.mem_append.1 hy with h | h
  · rcases List.mem_append.1 h with h | h
    · exact ints_bytes (putN_lt _ _ (Nat.le_refl _)) y h
    · exact textI_bytes _ y h
  · by_cases c : x.f0 = 1
    · rw [if_pos c] at h; exact textI_bytes _ y h
    · rw [if_neg c] at h; cases h
theorem batchB_bytes (s : Int) (L : List S27) : Bytes (batchB s L) := by
  intro y hy
  unfold batchB at hy
  rcases List.mem_append.1 hy with h | h
  · rcases List.mem_append.1 h with h | h
    · exact ints_bytes (putN_lt _ _ (Nat.le_refl _)) y h
    · exact ints_bytes (putN_lt _ _ (Nat.le_refl _)) y h
  · unfold opsB at h
    obtain ⟨x, _, hx⟩ := List.mem_flatMap.1 h
    exact opB_bytes x y hx
theorem batchB_len (s : Int) (L : List S27) (h : PutOk s L) : 1 ≤ (batchB s L).length ∧ (batchB s L).length ≤ 40000 := by
  obtain ⟨h1, h2, h3, h4⟩ := h
  obtain ⟨g1, g2, g3⟩ := (mayL_good L).1 h1
  have := opsB_len L g3
  have l1 := putN_len9 (n := s.toNat) (by omega)
  have l2 := putN_len9 (n := L.length) (by omega)
  unfold batchB
  rw [List.length_append, List.length_append, ints_length, ints_length]; omega
theorem bget_put (s : Int) (L : List S27) (h : PutOk s L) : Ev (fun k => batch_Get.f k (batchB s L)) (s, L, true) := by
  have hlen := batchB_len s L h
  obtain ⟨res, h1, h2⟩ := bget_ev (batchB s L) (batchB_bytes s L) (by omega)
  have ha := allR_put s L h
  rcases h2 with ⟨_, h2⟩ | ⟨s', L', h3, _, _, h4⟩
  · exact absurd ⟨h, rfl⟩ (h2 s L ha)
  · rw [ha] at h3
    injection h3 with h3; injection h3 with ea eb
    rw [h4, ← ea, ← eb] at h1; exact h1

def crcStep (r : Nat) : Nat := if r % 2 = 0 then r / 2 else (r / 2) ^^^ 2197175160
def crcBits : Nat → Nat → Nat
  | 0, r => r
  | n + 1, r => crcBits n (crcStep r)
def crcByte (r c : Nat) : Nat := crcBits 8 (r ^^^ c)
def crcFold (r : Nat) (l : List Nat) : Nat := l.foldl crcByte r
theorem crcStep_lt {r : Nat} (h : r < 2 ^ 32) : crcStep r < 2 ^ 32 := by
  unfold crcStep; split
  · omega
  · exact Nat.xor_lt_two_pow (by omega) (by decide)
theorem crcBits_lt : ∀ n {r : Nat}, r < 2 ^ 32 → crcBits n r < 2 ^ 32
  | 0, _, h => h
  | n + 1, _, h => crcBits_lt n (crcStep_lt h)
theorem crcByte_lt {r c : Nat} (h : r < 2 ^ 32) (hc : c < 256) : crcByte r c < 2 ^ 32 :=
  crcBits_lt 8 (Nat.xor_lt_two_pow h (by omega))
theorem crcFold_lt : ∀ (l : List Nat) {r : Nat}, r < 2 ^ 32 → (∀ c ∈ l, c < 256) → crcFold r l < 2 ^ 32
  | [], _, h, _ => h
  | c :: l, _, h, hl => crcFold_lt l (crcByte_lt h (hl c (by simp))) (fun x hx => hl x (by simp [hx]))
theorem rd_byte2 {l : List Int} {i : Nat} (h : i < l.length) (hb : Bytes l) : ∃ c : Nat, rd l (i : Int) = c ∧ c < 256 ∧ (nats l)[i]? = some c := by
  have := hb l[i] (List.getElem_mem h)
  refine ⟨l[i].toNat, by rw [rd_at h]; omega, by omega, ?_⟩
  unfold nats
  rw [List.getElem?_map, List.getElem?_eq_getElem h]; rfl
theorem step_bit (r : Nat) (h : r < 2 ^ 32) : (if (Go.bits .and .u32 (r : Int) 1) = 0 then ((r : Int) / 2) else Go.bits .xor .u32 ((r : Int) / 2) 2197175160) = (crcStep r : Nat) := by
  have e : Go.bits .and .u32 (r : Int) 1 = ((r % 2 : Nat) : Int) := by
    have := ba_u32 r 1 h (by decide)
    rw [Nat.and_one_is_mod] at this; exact this
  have e2 : Go.bits .xor .u32 ((r : Int) / 2) 2197175160 = (((r / 2) ^^^ 2197175160 : Nat) : Int) := by
    have := bx_u32 (r / 2) 2197175160 (by omega) (by decide)
    rw [← this]; rfl
  rw [e, e2]; unfold crcStep
  by_cases h2 : r % 2 = 0
  · rw [if_pos (by omega), if_pos h2]; rfl
  · rw [if_neg (by omega), if_neg h2]
theorem sum_l1 (l : List Int) (L i : Int) (R : Int) : ∀ {n : Nat} {r : Nat}, n ≤ 8 → r < 2 ^ 32 →
    Ev (fun k => sum_Sum.l0 k (crcBits n r : Nat) l L (wrap64 (i + 1))) R → Ev (fun k => sum_Sum.l1 k (r : Int) l L i (8 - n)) R := by
  intro n
  induction n with
  | zero =>
    intro r _ hr h
    refine Ev.step (f := fun k => sum_Sum.l0 k (r : Int) l L (wrap64 (i + 1))) (fun k => ?_) h
    simp only [sum_Sum.l1]; rw [if_neg (by omega)]
  | succ n ih =>
    intro r hn hr h
    refine Ev.step (f := fun k => sum_Sum.l1 k (crcStep r : Nat) l L i (8 - n)) (fun k => ?_) (ih (r := crcStep r) (by omega) (crcStep_lt hr) h)
    simp only [sum_Sum.l1]
    have hw : wrap64 (8 - ((n + 1 : Nat) : Int) + 1) = 8 - (n : Int) := by unfold wrap64; omega
    rw [if_pos (by omega), hw, ← step_bit r hr]
    split <;> rfl
theorem sum_l0 (l : List Int) (hb : Bytes l) (hl : l.length < 2 ^ 48) : ∀ (d i : Nat) (r : Nat), i + d = l.length → r < 2 ^ 32 →
    Ev (fun k => sum_Sum.l0 k (r : Int) l (l.length : Int) (i : Int)) ((4294967295 ^^^ crcFold r ((nats l).drop i) : Nat) : Int) := by
  intro d
  induction d with
  | zero =>
    intro i r hi hr
    have : (nats l).drop i = [] := by rw [List.drop_eq_nil_iff]; unfold nats; simp; omega
    rw [this]
    refine Ev.step (f := fun _ => some _) (fun k => ?_) (Ev.now _)
    simp only [sum_Sum.l0]
    rw [if_neg (by omega), max_u32, bx_u32 _ _ (by decide) hr]
    have := Nat.xor_lt_two_pow (n := 32) (x := 4294967295) (y := r) (by decide) hr
    rw [w64 (by omega) (by omega)]; rfl
  | succ d ih =>
    intro i r hi hr
    have hlt : i < l.length := by omega
    obtain ⟨c, hc, hc1, hc2⟩ := rd_byte2 hlt hb
    have hdrop : (nats l).drop i = c :: (nats l).drop (i + 1) := by
      have h2 : i < (nats l).length := by unfold nats; simpa using hlt
      rw [List.drop_eq_getElem_cons h2]; rw [List.getElem?_eq_getElem h2] at hc2; injection hc2 with hc2; rw [hc2]
    rw [hdrop]
    have h1 := ih (i + 1) (crcByte r c) (by omega) (crcByte_lt hr hc1)
    have hx : r ^^^ c < 2 ^ 32 := Nat.xor_lt_two_pow hr (by omega)
    have h2 := sum_l1 l (l.length : Int) (i : Int) (n := 8) (r := r ^^^ c) (by omega) hx (R := ((4294967295 ^^^ crcFold (crcByte r c) ((nats l).drop (i + 1)) : Nat) : Int)) (by
      rw [show wrap64 ((i : Int) + 1) = ((i + 1 : Nat) : Int) by unfold wrap64; omega]; exact h1)
    refine Ev.step (fun k => ?_) h2
    simp only [sum_Sum.l0]
    rw [if_pos (by omega), if_pos (by omega), if_pos (by omega), hc, show ((c : Int) % 4294967296) = c by omega, bx_u32 _ _ hr (by omega)]
    rfl
def sumN (l : List Nat) : Nat := 4294967295 ^^^ crcFold 4294967295 l
theorem sumN_lt {l : List Nat} (h : ∀ c ∈ l, c < 256) : sumN l < 2 ^ 32 := Nat.xor_lt_two_pow (by decide) (crcFold_lt l (by decide) h)
theorem sum_ev (l : List Int) (hb : Bytes l) (hl : l.length < 2 ^ 48) : Ev (fun k => sum_Sum.f k l) ((sumN (nats l) : Nat) : Int) :=
  sum_l0 l hb hl l.length 0 4294967295 (by omega) (by decide)

def fxI : Nat → Int → List Int
  | 0, _ => []
  | s + 1, n => (n / 256 ^ s % 256) :: fxI s n
theorem fxI_length : ∀ (s : Nat) (n : Int), (fxI s n).length = s
  | 0, _ => rfl
  | s + 1, n => by rw [fxI, List.length_cons, fxI_length]
theorem fxI_get : ∀ (s : Nat) (n : Int) (i : Nat) (h : i < (fxI s n).length), (fxI s n)[i] = n / 256 ^ (s - 1 - i) % 256
  | 0, n, i, h => by rw [fxI_length] at h; omega
  | s + 1, n, 0, h => by simp [fxI]
  | s + 1, n, i + 1, h => by
    simp only [fxI, List.getElem_cons_succ]
    rw [fxI_get s n i, show s + 1 - 1 - (i + 1) = s - 1 - i by omega]
theorem fxI_bytes (s : Nat) (n : Int) : Bytes (fxI s n) := by
  intro x hx
  obtain ⟨i, hi, rfl⟩ := List.mem_iff_getElem.1 hx
  rw [fxI_get]
  exact ⟨Int.emod_nonneg _ (by decide), Int.emod_lt_of_pos _ (by decide)⟩
theorem set_fill (D : List Int) (i : Nat) (h : i < D.length) : (D.take i ++ List.replicate (D.length - i) 0).set i D[i] = D.take (i + 1) ++ List.replicate (D.length - (i + 1)) 0 := by
  have hl : (D.take i).length = i := by rw [List.length_take]; omega
  rw [List.set_append_right _ _ (by omega), hl, Nat.sub_self]
  obtain ⟨m, hm⟩ : ∃ m, D.length - i = m + 1 := ⟨D.length - i - 1, by omega⟩
  rw [hm, List.replicate_succ, List.set_cons_zero, List.take_succ_eq_append_getElem h, List.append_assoc]
  rw [show D.length - (i + 1) = m by omega]; rfl
theorem pow8 (j : Nat) : (2 : Int) ^ (8 * j) = 256 ^ j := by rw [Int.pow_mul]; rfl
theorem shr_i64 (n : Int) (j : Nat) (hj : j ≤ 8) : shr .i64 n ((8 * j : Nat) : Int) = n / 256 ^ j := by
  unfold shr
  rw [Int.toNat_natCast, Nat.min_eq_left (by show 8 * j ≤ 64; omega), pow8]
theorem fixed_l0 (n : Int) (s : Nat) (hs : s ≤ 8) : ∀ (d i : Nat), i + d = s →
    Ev (fun k => num_Fixed.l0 k n (s : Int) ((fxI s n).take i ++ List.replicate (s - i) 0) (s : Int) (i : Int)) (fxI s n) := by
  intro d
  induction d with
  | zero =>
    intro i hi
    obtain rfl : i = s := by omega
    refine Ev.step (f := fun _ => some _) (fun k => ?_) (Ev.now _)
    simp only [num_Fixed.l0]
    rw [if_neg (by omega), Nat.sub_self, List.replicate_zero, List.append_nil, List.take_of_length_le (by rw [fxI_length]; omega)]
  | succ d ih =>
    intro i hi
    have hl := fxI_length s n
    have hlt : i < (fxI s n).length := by omega
    have p1 : (i : Int) < (s : Int) := by omega
    have p2 : wrap64 (8 * (wrap64 ((wrap64 ((s : Int) - 1)) - (i : Int)))) = ((8 * (s - 1 - i) : Nat) : Int) := by unfold wrap64; omega
    have p3 : ((fxI s n).take i ++ List.replicate (s - i) 0).length = s := by rw [List.length_append, List.length_take, List.length_replicate]; omega
    have p4 : wrap64 ((i : Int) + 1) = ((i + 1 : Nat) : Int) := by unfold wrap64; omega
    have p5 : (0 : Int) ≤ (i : Int) := by omega
    have p6 : (0 : Int) ≤ ((8 * (s - 1 - i) : Nat) : Int) := Int.natCast_nonneg _
    have h := ih (i + 1) (by omega)
    have hset := set_fill (fxI s n) i hlt
    rw [hl, fxI_get] at hset
    rw [← hset] at h
    refine Ev.step (fun k => ?_) h
    simp only [num_Fixed.l0]
    rw [if_pos p1, p2, if_pos p6, if_pos p5, p3, if_pos p1, shr_i64 n _ (by omega), p4, Int.toNat_natCast]
theorem fixed_ev (n : Int) (s : Nat) (h1 : 1 ≤ s) (h8 : s ≤ 8) : Ev (fun k => num_Fixed.f k n (s : Int)) (fxI s n) := by
  have h := fixed_l0 n s h8 s 0 (by omega)
  rw [List.take_zero, List.nil_append, Nat.sub_zero] at h
  have p1 : ¬ (s : Int) < 1 := by omega
  have p2 : ¬ (s : Int) > 8 := by omega
  have p3 : (0 : Int) ≤ (s : Int) := by omega
  have p4 : (s : Int).toNat ≤ 281474976710656 := by omega
  refine Ev.congr (fun k => by unfold num_Fixed.f; rw [if_neg p1, decide_eq_false p2]) (Ev.step (fun k => ?_) h)
  simp only [num_Fixed.j0]
  rw [if_neg (by decide), if_pos p3, if_pos p4, Int.toNat_natCast]; rfl
def beN (a : Nat) (l : List Nat) : Nat := l.foldl (fun n c => 256 * n + c) a
theorem or_byte (a c : Nat) (ha : a < 2 ^ 55) (hc : c < 256) : Go.bits .or .i64 (wrap64 ((a : Int) * 256)) (wrap64 (c : Int)) = ((256 * a + c : Nat) : Int) := by
  rw [w64 (by omega) (by omega), w64 (by omega) (by omega)]
  have e : (a : Int) * 256 = ((256 * a : Nat) : Int) := by omega
  rw [e, bo_i64 _ _ (by omega) (by omega)]
  congr 1
  have h1 : c < 2 ^ 8 := hc
  have h2 : 256 * a + c = 256 * a ||| c := Nat.two_pow_add_eq_or_of_lt h1 a
  exact h2.symm
theorem beN_lt : ∀ (l : List Nat) (a m : Nat), a < 256 ^ m → (∀ c ∈ l, c < 256) → beN a l < 256 ^ (m + l.length)
  | [], a, m, h, _ => h
  | c :: l, a, m, h, hl => by
    have hc := hl c (by simp)
    have : 256 * a + c < 256 ^ (m + 1) := by rw [Nat.pow_succ]; omega
    have := beN_lt l (256 * a + c) (m + 1) this (fun x hx => hl x (by simp [hx]))
    rw [List.length_cons, show m + (l.length + 1) = m + 1 + l.length by omega]
    exact this
theorem getfixed_l0 (l : List Int) (hb : Bytes l) (hl : l.length ≤ 7) : ∀ (d i a : Nat), i + d = l.length → a < 256 ^ i →
    Ev (fun k => num_GetFixed.l0 k (a : Int) l (l.length : Int) (i : Int)) (((beN a ((nats l).drop i) : Nat) : Int), true) := by
  intro d
  induction d with
  | zero =>
    intro i a hi ha
    refine Ev.step (f := fun _ => some _) (fun k => ?_) (Ev.now _)
    simp only [num_GetFixed.l0]
    have p : ¬ (i : Int) < (l.length : Int) := by omega
    rw [if_neg p, List.drop_of_length_le (by rw [nats_length]; omega)]; rfl
  | succ d ih =>
    intro i a hi ha
    have p1 : (i : Int) < (l.length : Int) := by omega
    have p2 : (0 : Int) ≤ (i : Int) := by omega
    have p4 : wrap64 ((i : Int) + 1) = ((i + 1 : Nat) : Int) := by unfold wrap64; omega
    obtain ⟨c, hc, hc1, hc2⟩ := rd_byte (l := l) (i := i) (by omega) hb
    have ha2 : 256 * a + c < 256 ^ (i + 1) := by rw [Nat.pow_succ]; omega
    have ha3 : a < 2 ^ 55 := by
      have : 256 ^ i ≤ 256 ^ 6 := Nat.pow_le_pow_right (by decide) (by omega)
      have e : (256 : Nat) ^ 6 < 2 ^ 55 := by decide
      exact Nat.lt_of_lt_of_le ha (Nat.le_trans this (Nat.le_of_lt e))
    have h := ih (i + 1) (256 * a + c) (by omega) ha2
    rw [hc2]
    refine Ev.step (fun k => ?_) h
    simp only [num_GetFixed.l0]
    rw [if_pos p1, if_pos p2, if_pos p1, hc, or_byte a c ha3 hc1, p4]
theorem getfixed_ev (l : List Int) (hb : Bytes l) (hl : l.length < 2 ^ 48) (at_ s : Nat) (h1 : 1 ≤ s) (h7 : s ≤ 7) (hin : at_ + s ≤ l.length) :
    Ev (fun k => num_GetFixed.f k l (at_ : Int) (s : Int)) (((beN 0 (((nats l).take (at_ + s)).drop at_) : Nat) : Int), true) := by
  have hll : ((l.take (at_ + s)).drop at_).length = s := by rw [List.length_drop, List.length_take]; omega
  have hb2 : Bytes ((l.take (at_ + s)).drop at_) := fun x hx => hb x (List.mem_of_mem_take (List.mem_of_mem_drop hx))
  have h := getfixed_l0 ((l.take (at_ + s)).drop at_) hb2 (by omega) s 0 0 (by omega) (by decide)
  rw [List.drop_zero, nats_drop, nats_take] at h
  have p1 : ¬ (s : Int) < 1 := by omega
  have p2 : ¬ (s : Int) > 7 := by omega
  have p3 : ¬ (at_ : Int) < 0 := by omega
  have p4 : ¬ (at_ : Int) > (l.length : Int) := by omega
  have p5 : ¬ (s : Int) > wrap64 ((l.length : Int) - (at_ : Int)) := by unfold wrap64; omega
  have p6 : (0 : Int) ≤ (at_ : Int) := by omega
  have p7 : wrap64 ((at_ : Int) + (s : Int)) = ((at_ + s : Nat) : Int) := by unfold wrap64; omega
  have p8 : (at_ : Int) ≤ ((at_ + s : Nat) : Int) := by omega
  have p9 : ((at_ + s : Nat) : Int) ≤ (l.length : Int) := by omega
  refine Ev.congr (fun k => by unfold num_GetFixed.f; rw [if_neg p1, if_neg p2, if_neg p3, if_neg p4, decide_eq_false p5]) (Ev.step (fun k => ?_) h)
  simp only [num_GetFixed.j0]
  rw [if_neg (by decide), if_pos p6, p7, if_pos p8, if_pos p9, Int.toNat_natCast, Int.toNat_natCast, Option.bind_some]
  rfl

theorem be_fx : ∀ (s m a : Nat), beN a (nats (fxI s (m : Int))) = a * 256 ^ s + m % 256 ^ s
  | 0, m, a => by simp [fxI, nats, beN]; omega
  | s + 1, m, a => by
    have e : ((m : Int) / 256 ^ s % 256).toNat = m / 256 ^ s % 256 := by
      have : (m : Int) / 256 ^ s % 256 = ((m / 256 ^ s % 256 : Nat) : Int) := by simp
      rw [this, Int.toNat_natCast]
    have ih := be_fx s m (256 * a + m / 256 ^ s % 256)
    unfold beN nats at ih ⊢
    simp only [fxI, List.map_cons, List.foldl_cons, e]
    rw [ih, Nat.pow_succ, Nat.mod_mul, Nat.add_mul, Nat.mul_comm 256 a, Nat.mul_assoc a 256, Nat.mul_comm 256 (256 ^ s), Nat.mul_comm (m / 256 ^ s % 256)]
    omega

/-! ### records: frame.Put, frame.Get -/
theorem mid_at {α : Type} (A X R : List α) : ((A ++ (X ++ R)).take (A.length + X.length)).drop A.length = X := by
  rw [List.drop_take, Nat.add_sub_cancel_left, List.drop_left, List.take_left]
def frameB (p : List Int) : List Int := fxI 4 (p.length : Int) ++ fxI 4 ((sumN (nats p) : Nat) : Int) ++ p
theorem frameB_len (p : List Int) : (frameB p).length = 8 + p.length := by
  unfold frameB; rw [List.length_append, List.length_append, fxI_length, fxI_length]
theorem frameB_bytes (p : List Int) (h : Bytes p) : Bytes (frameB p) := by
  intro x hx
  unfold frameB at hx
  rcases List.mem_append.1 hx with hx | hx
  · rcases List.mem_append.1 hx with hx | hx
    · exact fxI_bytes _ _ x hx
    · exact fxI_bytes _ _ x hx
  · exact h x hx
theorem fput_ev (p : List Int) (hb : Bytes p) (hl : p.length ≤ 1000000) : Ev (fun k => frame_Put.f k p) (frameB p) := by
  have h1 := fixed_ev (p.length : Int) 4 (by omega) (by omega)
  have h2 := sum_ev p hb (by omega)
  have h3 := fixed_ev ((sumN (nats p) : Nat) : Int) 4 (by omega) (by omega)
  unfold frame_Put.f
  refine Ev.congr (fun k => by rw [if_neg (by omega)]; rfl) (Ev.bind h1 (f := fun k t282 => ((sum_Sum.f k p).bind fun t285 => ((num_Fixed.f k t285 4).bind fun t286 => ((slices_Concat_byte_byte.f k (([t282, t286, p] : List (List Int)))).bind fun t292 => (some t292))))) ?_)
  refine Ev.bind h2 (f := fun k t285 => ((num_Fixed.f k t285 4).bind fun t286 => ((slices_Concat_byte_byte.f k (([fxI 4 (p.length : Int), t286, p] : List (List Int)))).bind fun t292 => (some t292)))) ?_
  refine Ev.bind h3 (f := fun k t286 => ((slices_Concat_byte_byte.f k (([fxI 4 (p.length : Int), t286, p] : List (List Int)))).bind fun t292 => (some t292))) ?_
  have e : ([fxI 4 (p.length : Int), fxI 4 ((sumN (nats p) : Nat) : Int), p] : List (List Int)).flatten = frameB p := by
    unfold frameB; simp only [List.flatten_cons, List.flatten_nil, List.append_nil, List.append_assoc]
  have hlen := frameB_len p
  refine Ev.congr (f := fun _ => some (frameB p)) (fun k => ?_) (Ev.now _)
  unfold slices_Concat_byte_byte.f
  rw [e, if_pos ⟨by simp, by omega⟩]; rfl
theorem getfixed_no (l : List Int) (hl : l.length < 2 ^ 48) (p : Nat) (hp : p < 2 ^ 48) (h : l.length < p + 4) : Ev (fun k => num_GetFixed.f k l (p : Int) 4) (0, false) := by
  have hj : Ev (fun k => num_GetFixed.j0 k l (p : Int) 4 true) (0, false) := Ev.step (f := fun _ => some (0, false)) (fun k => by rw [num_GetFixed.j0, if_pos rfl]) (Ev.now _)
  unfold num_GetFixed.f
  by_cases c : (p : Int) > (l.length : Int)
  · exact Ev.congr (fun k => by rw [if_neg (by decide), if_neg (by decide), if_neg (by omega), if_pos c]) hj
  · have e : decide ((4 : Int) > wrap64 ((l.length : Int) - (p : Int))) = true := decide_eq_true (by rw [w64 (by omega) (by omega)]; omega)
    exact Ev.congr (fun k => by rw [if_neg (by decide), if_neg (by decide), if_neg (by omega), if_neg c, e]) hj
def be4 (l : List Int) (p : Nat) : Nat := beN 0 (((nats l).take (p + 4)).drop p)
theorem be4_lt (l : List Int) (hb : Bytes l) (p : Nat) : be4 l p < 256 ^ 4 := by
  unfold be4
  have h := beN_lt (((nats l).take (p + 4)).drop p) 0 0 (by decide) (fun c hc => nats_lt hb c (List.mem_of_mem_take (List.mem_of_mem_drop hc)))
  have hl : (((nats l).take (p + 4)).drop p).length ≤ 4 := by rw [List.length_drop, List.length_take]; omega
  exact Nat.lt_of_lt_of_le h (Nat.pow_le_pow_right (by decide) (by omega))
def frameR (l : List Int) (p : Nat) : Option (List Int × Nat) := if l.length < p + 4 then none else if be4 l p > 1048576 ∨ l.length < p + 8 + be4 l p then none else if be4 l (p + 4) = sumN (nats ((l.take (p + 8 + be4 l p)).drop (p + 8))) then some ((l.take (p + 8 + be4 l p)).drop (p + 8), p + 8 + be4 l p) else none
theorem fget_ev (l : List Int) (hb : Bytes l) (hl : l.length ≤ 100000000) (p : Nat) (hp : p ≤ l.length) : (frameR l p = none ∧ ∃ a b, Ev (fun k => frame_Get.f k l (p : Int)) (a, b, false)) ∨ (∃ q nx, frameR l p = some (q, nx) ∧ nx ≤ l.length ∧ Bytes q ∧ q.length ≤ 1048576 ∧ Ev (fun k => frame_Get.f k l (p : Int)) (q, (nx : Int), true)) := by
  have hj : ∀ x, Ev (fun k => frame_Get.j0 k l (p : Int) x true) (([] : List Int), (0 : Int), false) := fun x => Ev.step (f := fun _ => some (([] : List Int), 0, false)) (fun k => by rw [frame_Get.j0, if_pos rfl]) (Ev.now _)
  unfold frameR frame_Get.f
  by_cases c1 : l.length < p + 4
  · rw [if_pos c1]
    exact Or.inl ⟨rfl, _, _, Ev.bind (getfixed_no l (by omega) p (by omega) c1) (f := fun k bt354 => (if bt354.2 = true then (if bt354.1 > 1048576 then (frame_Get.j0 k l (p : Int) bt354.1 true) else (frame_Get.j0 k l (p : Int) bt354.1 (decide (bt354.1 > (wrap64 ((wrap64 ((l.length : Int) - (p : Int))) - 8)))))) else (frame_Get.j0 k l (p : Int) bt354.1 true))) (Ev.congr (fun k => by rw [if_neg Bool.false_ne_true]) (hj _))⟩
  rw [if_neg c1]
  have g1 : Ev (fun k => num_GetFixed.f k l (p : Int) 4) ((be4 l p : Int), true) := getfixed_ev l hb (by omega) p 4 (by omega) (by omega) (by omega)
  have glue : ∀ r, Ev (fun k => (if ((be4 l p : Nat) : Int) > 1048576 then (frame_Get.j0 k l (p : Int) (be4 l p : Int) true) else (frame_Get.j0 k l (p : Int) (be4 l p : Int) (decide (((be4 l p : Nat) : Int) > (wrap64 ((wrap64 ((l.length : Int) - (p : Int))) - 8))))))) r → Ev (fun k => (num_GetFixed.f k l (p : Int) 4).bind fun bt354 => (if bt354.2 = true then (if bt354.1 > 1048576 then (frame_Get.j0 k l (p : Int) bt354.1 true) else (frame_Get.j0 k l (p : Int) bt354.1 (decide (bt354.1 > (wrap64 ((wrap64 ((l.length : Int) - (p : Int))) - 8)))))) else (frame_Get.j0 k l (p : Int) bt354.1 true))) r := by
    intro r hr
    refine Ev.bind g1 (f := fun k bt354 => (if bt354.2 = true then (if bt354.1 > 1048576 then (frame_Get.j0 k l (p : Int) bt354.1 true) else (frame_Get.j0 k l (p : Int) bt354.1 (decide (bt354.1 > (wrap64 ((wrap64 ((l.length : Int) - (p : Int))) - 8)))))) else (frame_Get.j0 k l (p : Int) bt354.1 true))) ?_
    exact Ev.congr (fun k => by rw [if_pos rfl]) hr
  obtain ⟨n, en⟩ : ∃ n, n = be4 l p := ⟨_, rfl⟩
  rw [← en] at glue ⊢
  have ew : wrap64 (wrap64 ((l.length : Int) - (p : Int)) - 8) = (l.length : Int) - (p : Int) - 8 := by rw [w64 (x := (l.length : Int) - (p : Int)) (by omega) (by omega), w64 (by omega) (by omega)]
  by_cases c2 : n > 1048576
  · rw [if_pos (Or.inl c2)]
    exact Or.inl ⟨rfl, _, _, glue _ (Ev.congr (fun k => by rw [if_pos (by omega)]) (hj (n : Int)))⟩
  by_cases c3 : l.length < p + 8 + n
  · rw [if_pos (Or.inr c3)]
    refine Or.inl ⟨rfl, _, _, glue _ (Ev.congr (fun k => ?_) (hj (n : Int)))⟩
    rw [if_neg (by omega), ew, decide_eq_true (by omega)]
  rw [if_neg (fun h => h.elim c2 c3)]
  have g2 : Ev (fun k => num_GetFixed.f k l ((p + 4 : Nat) : Int) 4) ((be4 l (p + 4) : Int), true) := getfixed_ev l hb (by omega) (p + 4) 4 (by omega) (by omega) (by omega)
  obtain ⟨q, eq⟩ : ∃ q, q = (l.take (p + 8 + n)).drop (p + 8) := ⟨_, rfl⟩
  have hqb : Bytes q := fun x hx => hb x (by rw [eq] at hx; exact List.mem_of_mem_take (List.mem_of_mem_drop hx))
  have hql : q.length = n := by rw [eq, List.length_drop, List.length_take]; omega
  have g3 := sum_ev q hqb (by omega)
  rw [← eq]
  have e1 : wrap64 ((p : Int) + 4) = ((p + 4 : Nat) : Int) := by rw [w64 (by omega) (by omega)]; omega
  have e2 : wrap64 ((p : Int) + 8) = ((p + 8 : Nat) : Int) := by rw [w64 (by omega) (by omega)]; omega
  have e3 : wrap64 (((p + 8 : Nat) : Int) + (n : Int)) = ((p + 8 + n : Nat) : Int) := by rw [w64 (by omega) (by omega)]; omega
  have main : ∀ b : Bool, b = decide (be4 l (p + 4) = sumN (nats q)) → Ev (fun k => frame_Get.j0 k l (p : Int) (n : Int) false) (if b = true then (q, ((p + 8 + n : Nat) : Int), true) else (([] : List Int), (0 : Int), false)) := by
    intro b hbd
    obtain ⟨K2, hK2⟩ := g2
    obtain ⟨K3, hK3⟩ := g3
    refine ⟨max K2 K3 + 1, fun k hk => ?_⟩
    obtain ⟨k', rfl⟩ : ∃ k', k = k' + 1 := ⟨k - 1, by omega⟩
    have q2 := hK2 k' (by omega)
    have q3 := hK3 k' (by omega)
    dsimp only at q2 q3
    show frame_Get.j0 (k' + 1) l (p : Int) (n : Int) false = _
    have ec : slices_Clone_byte_byte.f q = some q := by
      unfold slices_Clone_byte_byte.f
      rw [Option.bind_some, if_pos (by simp; omega), List.nil_append]
    rw [frame_Get.j0, if_neg Bool.false_ne_true, e1, q2, Option.bind_some, e2, if_pos (by omega), e3, if_pos (by omega), if_pos (by omega), Int.toNat_natCast, Int.toNat_natCast, ← eq, ec, Option.bind_some, if_pos rfl, q3, Option.bind_some]
    by_cases c : be4 l (p + 4) = sumN (nats q)
    · rw [decide_eq_true c] at hbd
      rw [hbd, if_pos (by rw [c]), if_pos rfl]
    · rw [decide_eq_false c] at hbd
      rw [hbd, if_neg (by intro h; exact c (by omega)), if_neg Bool.false_ne_true]
  by_cases c : be4 l (p + 4) = sumN (nats q)
  · rw [if_pos c]
    refine Or.inr ⟨q, p + 8 + n, rfl, by omega, hqb, by omega, glue _ (Ev.congr (fun k => ?_) (by have := main true (decide_eq_true c).symm; rw [if_pos rfl] at this; exact this))⟩
    rw [if_neg (by omega), ew, decide_eq_false (by omega)]
  · rw [if_neg c]
    refine Or.inl ⟨rfl, _, _, glue _ (Ev.congr (fun k => ?_) (by have := main false (decide_eq_false c).symm; rw [if_neg Bool.false_ne_true] at this; exact this))⟩
    rw [if_neg (by omega), ew, decide_eq_false (by omega)]
theorem be4_at (A R : List Int) (m : Nat) (hm : m < 4294967296) : be4 (A ++ (fxI 4 (m : Int) ++ R)) A.length = m := by
  unfold be4
  have h := mid_at (nats A) (nats (fxI 4 (m : Int))) (nats R)
  rw [nats_length, nats_length, fxI_length, ← nats_append, ← nats_append] at h
  rw [h, be_fx]
  omega
theorem frameR_at (A R p : List Int) (hl : p.length ≤ 1048576) (hb : Bytes p) : frameR (A ++ (frameB p ++ R)) A.length = some (p, A.length + (frameB p).length) := by
  have hs : sumN (nats p) < 2 ^ 32 := sumN_lt (fun c hc => nats_lt hb c hc)
  have e1 : A ++ (frameB p ++ R) = A ++ (fxI 4 (p.length : Int) ++ (fxI 4 ((sumN (nats p) : Nat) : Int) ++ (p ++ R))) := by unfold frameB; simp only [List.append_assoc]
  have e2 : A ++ (frameB p ++ R) = (A ++ fxI 4 (p.length : Int)) ++ (fxI 4 ((sumN (nats p) : Nat) : Int) ++ (p ++ R)) := by unfold frameB; simp only [List.append_assoc]
  have e3 : A ++ (frameB p ++ R) = (A ++ fxI 4 (p.length : Int) ++ fxI 4 ((sumN (nats p) : Nat) : Int)) ++ (p ++ R) := by unfold frameB; simp only [List.append_assoc]
  have b1 : be4 (A ++ (frameB p ++ R)) A.length = p.length := by rw [e1]; exact be4_at A _ p.length (by omega)
  have b2 : be4 (A ++ (frameB p ++ R)) (A.length + 4) = sumN (nats p) := by
    have h := be4_at (A ++ fxI 4 (p.length : Int)) (p ++ R) (sumN (nats p)) hs
    rw [List.length_append, fxI_length, ← e2] at h; exact h
  have b3 : ((A ++ (frameB p ++ R)).take (A.length + 8 + p.length)).drop (A.length + 8) = p := by
    have h := mid_at (A ++ fxI 4 (p.length : Int) ++ fxI 4 ((sumN (nats p) : Nat) : Int)) p R
    rw [List.length_append, List.length_append, fxI_length, fxI_length, ← e3] at h; exact h
  have hlen : (A ++ (frameB p ++ R)).length = A.length + 8 + p.length + R.length := by rw [List.length_append, List.length_append, frameB_len]; omega
  unfold frameR
  rw [b1, b2, b3, hlen, if_neg (by omega), if_neg (by omega), if_pos rfl, frameB_len]
  simp only [Nat.add_assoc]
theorem frameR_cut (A p : List Int) (m : Nat) (hl : p.length ≤ 1048576) (hm : m < (frameB p).length) : frameR (A ++ (frameB p).take m) A.length = none := by
  have hlen : (A ++ (frameB p).take m).length = A.length + m := by rw [List.length_append, List.length_take]; omega
  rw [frameB_len] at hm
  unfold frameR
  rw [hlen]
  by_cases c : m < 4
  · rw [if_pos (by omega)]
  · have e : (frameB p).take m = fxI 4 (p.length : Int) ++ (fxI 4 ((sumN (nats p) : Nat) : Int) ++ p).take (m - 4) := by
      unfold frameB
      rw [List.append_assoc, List.take_append, fxI_length, List.take_of_length_le (by rw [fxI_length]; omega)]
    have b1 : be4 (A ++ (frameB p).take m) A.length = p.length := by rw [e]; exact be4_at A _ p.length (by omega)
    rw [if_neg (by omega), b1, if_pos (Or.inr (by omega))]

/-! ### logs: replay.Put, replay.Scan -/
def recB (x : S37) : List Int := frameB (batchB x.f0 x.f1)
def recs (L : List S37) : List Int := L.flatMap recB
theorem recs_cons (x : S37) (t : List S37) : recs (x :: t) = recB x ++ recs t := by unfold recs; rw [List.flatMap_cons]
theorem recs_append (a b : List S37) : recs (a ++ b) = recs a ++ recs b := by unfold recs; rw [List.flatMap_append]
def Good (x : S37) : Prop := PutOk x.f0 x.f1
theorem recB_len (x : S37) (h : Good x) : 9 ≤ (recB x).length ∧ (recB x).length ≤ 40008 := by
  have := batchB_len x.f0 x.f1 h
  unfold recB; rw [frameB_len]; omega
theorem recs_len : ∀ L : List S37, (∀ x ∈ L, Good x) → (recs L).length ≤ 40008 * L.length
  | [], _ => Nat.le_refl _
  | x :: t, h => by
    have h1 := recB_len x (h x (by simp))
    have h2 := recs_len t (fun y hy => h y (List.mem_cons_of_mem _ hy))
    rw [recs_cons, List.length_append, List.length_cons]; omega
theorem recB_bytes (x : S37) : Bytes (recB x) := frameB_bytes _ (batchB_bytes _ _)
theorem recs_bytes (L : List S37) : Bytes (recs L) := by
  intro y hy
  unfold recs at hy
  obtain ⟨x, _, hx⟩ := List.mem_flatMap.1 hy
  exact recB_bytes x y hx
theorem rput_ev (x : S37) (h : Good x) : Ev (fun k => replay_Put.f k x.f0 x.f1) (recB x) := by
  obtain ⟨g1, g2, g3⟩ := (mayL_good x.f1).1 h.1
  have hb := (bput_ev x.f0 x.f1 (by omega) (fun y hy => by have := (g3 y hy).2.1; omega)).1 h
  have hlen := batchB_len x.f0 x.f1 h
  have hf := fput_ev (batchB x.f0 x.f1) (batchB_bytes _ _) (by omega)
  unfold replay_Put.f
  refine Ev.bind hb (f := fun k t296 => (if (t296.length : Int) = 0 then (some ([] : List Int)) else ((frame_Put.f k t296).bind fun t299 => (some t299)))) ?_
  exact Ev.congr (fun k => by rw [if_neg (by omega)]) (Ev.bind hf (f := fun k t299 => some t299) (Ev.now _))
def Chain : Option Int → List S37 → Prop
  | _, [] => True
  | none, x :: t => Chain (some x.f0) t
  | some s, x :: t => x.f0 = s + 1 ∧ Chain (some x.f0) t
def lastS (acc : List S37) : Option Int := acc.getLast?.map fun x => x.f0
theorem lastS_snoc (acc : List S37) (x : S37) : lastS (acc ++ [x]) = some x.f0 := by unfold lastS; simp
theorem rd37_last (acc : List S37) (x : S37) : rd_T37 (acc ++ [x]) ((acc ++ [x]).length - 1 : Int) = x := by
  unfold rd_T37
  have e : (((acc ++ [x]).length : Int) - 1).toNat = acc.length := by rw [List.length_append, List.length_singleton]; omega
  rw [e, List.getD_eq_getElem?_getD, List.getElem?_append_right (Nat.le_refl _), Nat.sub_self]; rfl
/-- May x come behind acc? -/
def Next (acc : List S37) (s : Int) : Prop := ∀ y ∈ acc.getLast?, s = y.f0 + 1
theorem scan_none (l : List Int) (hb : Bytes l) (hl : l.length ≤ 100000000) (acc : List S37) (p : Nat) (hp : p ≤ l.length) (h : frameR l p = none) : Ev (fun k => replay_Scan.l0 k l acc (p : Int)) (acc, (p : Int)) := by
  rcases fget_ev l hb hl p hp with ⟨_, a, b, h1⟩ | ⟨q, nx, h1, _⟩
  · refine Ev.step (fun k => by rw [replay_Scan.l0]) (Ev.bind h1 (f := fun k bt366 => (if bt366.2.2 = true then ((batch_Get.f k bt366.1).bind fun bt371 => (if bt371.2.2 = true then (if (acc.length : Int) > 0 then (if 0 ≤ (wrap64 ((acc.length : Int) - 1)) then (if (wrap64 ((acc.length : Int) - 1)) < (acc.length : Int) then (if bt371.1 = (wrap64 (((rd_T37 acc (wrap64 ((acc.length : Int) - 1))).f0) + 1)) then (if acc.length < 4398046511104 then (replay_Scan.l0 k l (acc ++ [(⟨bt371.1, bt371.2.1⟩ : S37)]) bt366.2.1) else (none)) else (some (acc, (p : Int)))) else (none)) else (none)) else (if acc.length < 4398046511104 then (replay_Scan.l0 k l (acc ++ [(⟨bt371.1, bt371.2.1⟩ : S37)]) bt366.2.1) else (none))) else (some (acc, (p : Int))))) else (some (acc, (p : Int))))) ?_)
    exact Ev.congr (fun k => by rw [if_neg Bool.false_ne_true]) (Ev.now _)
  · rw [h] at h1; cases h1
theorem scan_some (l : List Int) (hb : Bytes l) (hl : l.length ≤ 100000000) (acc : List S37) (hal : acc.length ≤ 1000000) (hab : ∀ y ∈ acc, -1 ≤ y.f0 ∧ y.f0 ≤ 9007199254740992) (p : Nat) (hp : p ≤ l.length) (x : S37) (hx : Good x) (nx : Nat) (h : frameR l p = some (batchB x.f0 x.f1, nx)) :
    (Next acc x.f0 → ∀ r, Ev (fun k => replay_Scan.l0 k l (acc ++ [x]) (nx : Int)) r → Ev (fun k => replay_Scan.l0 k l acc (p : Int)) r) ∧ (¬ Next acc x.f0 → Ev (fun k => replay_Scan.l0 k l acc (p : Int)) (acc, (p : Int))) := by
  have hg := bget_put x.f0 x.f1 hx
  rcases fget_ev l hb hl p hp with ⟨h1, _⟩ | ⟨q, nx', h1, _, _, _, h2⟩
  · rw [h] at h1; cases h1
  rw [h] at h1
  injection h1 with h1; injection h1 with h3 h4
  subst h3 h4
  have glue : ∀ r, Ev (fun k => (if (acc.length : Int) > 0 then (if 0 ≤ (wrap64 ((acc.length : Int) - 1)) then (if (wrap64 ((acc.length : Int) - 1)) < (acc.length : Int) then (if x.f0 = (wrap64 (((rd_T37 acc (wrap64 ((acc.length : Int) - 1))).f0) + 1)) then (if acc.length < 4398046511104 then (replay_Scan.l0 k l (acc ++ [(⟨x.f0, x.f1⟩ : S37)]) (nx : Int)) else (none)) else (some (acc, (p : Int)))) else (none)) else (none)) else (if acc.length < 4398046511104 then (replay_Scan.l0 k l (acc ++ [(⟨x.f0, x.f1⟩ : S37)]) (nx : Int)) else (none)))) r → Ev (fun k => replay_Scan.l0 k l acc (p : Int)) r := by
    intro r hr
    refine Ev.step (fun k => by rw [replay_Scan.l0]) (Ev.bind h2 (f := fun k bt366 => (if bt366.2.2 = true then ((batch_Get.f k bt366.1).bind fun bt371 => (if bt371.2.2 = true then (if (acc.length : Int) > 0 then (if 0 ≤ (wrap64 ((acc.length : Int) - 1)) then (if (wrap64 ((acc.length : Int) - 1)) < (acc.length : Int) then (if bt371.1 = (wrap64 (((rd_T37 acc (wrap64 ((acc.length : Int) - 1))).f0) + 1)) then (if acc.length < 4398046511104 then (replay_Scan.l0 k l (acc ++ [(⟨bt371.1, bt371.2.1⟩ : S37)]) bt366.2.1) else (none)) else (some (acc, (p : Int)))) else (none)) else (none)) else (if acc.length < 4398046511104 then (replay_Scan.l0 k l (acc ++ [(⟨bt371.1, bt371.2.1⟩ : S37)]) bt366.2.1) else (none))) else (some (acc, (p : Int))))) else (some (acc, (p : Int))))) ?_)
    refine Ev.congr (fun k => by rw [if_pos rfl]) (Ev.bind hg (f := fun k bt371 => (if bt371.2.2 = true then (if (acc.length : Int) > 0 then (if 0 ≤ (wrap64 ((acc.length : Int) - 1)) then (if (wrap64 ((acc.length : Int) - 1)) < (acc.length : Int) then (if bt371.1 = (wrap64 (((rd_T37 acc (wrap64 ((acc.length : Int) - 1))).f0) + 1)) then (if acc.length < 4398046511104 then (replay_Scan.l0 k l (acc ++ [(⟨bt371.1, bt371.2.1⟩ : S37)]) (nx : Int)) else (none)) else (some (acc, (p : Int)))) else (none)) else (none)) else (if acc.length < 4398046511104 then (replay_Scan.l0 k l (acc ++ [(⟨bt371.1, bt371.2.1⟩ : S37)]) (nx : Int)) else (none))) else (some (acc, (p : Int))))) ?_)
    exact Ev.congr (fun k => by rw [if_pos rfl]) hr
  have ex : (⟨x.f0, x.f1⟩ : S37) = x := rfl
  rcases List.eq_nil_or_concat acc with ea | ⟨a0, y, ea⟩
  · subst ea
    constructor
    · intro _ r hr
      exact glue r (Ev.congr (fun k => by rw [if_neg (by decide), if_pos (by decide), ex]) hr)
    · intro hn
      exact absurd (fun y hy => by simp at hy) hn
  · rw [List.concat_eq_append] at ea
    have e1 : wrap64 ((acc.length : Int) - 1) = (acc.length : Int) - 1 := by rw [w64 (by omega) (by omega)]
    have e2 : rd_T37 acc ((acc.length : Int) - 1) = y := by rw [ea]; exact rd37_last a0 y
    have hy := hab y (by rw [ea]; simp)
    have e3 : wrap64 (y.f0 + 1) = y.f0 + 1 := by rw [w64 (by omega) (by omega)]
    have hpos : (acc.length : Int) > 0 := by rw [ea, List.length_append, List.length_singleton]; omega
    have hN : Next acc x.f0 ↔ x.f0 = y.f0 + 1 := by
      unfold Next; rw [ea]; simp
    constructor
    · intro hn r hr
      refine glue r (Ev.congr (fun k => ?_) hr)
      rw [if_pos hpos, e1, if_pos (by omega), if_pos (by omega), e2, e3, if_pos (hN.1 hn), if_pos (by omega), ex]
    · intro hn
      refine glue _ (Ev.congr (fun k => ?_) (Ev.now _))
      rw [if_pos hpos, e1, if_pos (by omega), if_pos (by omega), e2, e3, if_neg (fun h => hn (hN.2 h))]
/-- Batches that follow one another are told, up to where it stops. -/
theorem scan_recs (R : List Int) : ∀ (L acc : List S37) (A : List Int), (A ++ (recs L ++ R)).length ≤ 100000000 → Bytes (A ++ (recs L ++ R)) → acc.length + L.length ≤ 1000000 → (∀ x ∈ acc ++ L, Good x) → (∀ a b x, L = a ++ x :: b → Next (acc ++ a) x.f0) →
    ∀ r, Ev (fun k => replay_Scan.l0 k (A ++ (recs L ++ R)) (acc ++ L) ((A.length + (recs L).length : Nat) : Int)) r → Ev (fun k => replay_Scan.l0 k (A ++ (recs L ++ R)) acc (A.length : Int)) r
  | [], acc, A, _, _, _, _, _, r, hr => by
    rw [List.append_nil] at hr
    exact hr
  | x :: t, acc, A, hl, hb, hn, hg, hc, r, hr => by
    have e1 : A ++ (recs (x :: t) ++ R) = A ++ (recB x ++ (recs t ++ R)) := by rw [recs_cons, List.append_assoc]
    have e2 : A ++ (recs (x :: t) ++ R) = (A ++ recB x) ++ (recs t ++ R) := by rw [recs_cons]; simp only [List.append_assoc]
    have hx : Good x := hg x (by simp)
    have hbl := batchB_len x.f0 x.f1 hx
    have hf : frameR (A ++ (recs (x :: t) ++ R)) A.length = some (batchB x.f0 x.f1, A.length + (recB x).length) := by
      rw [e1]; exact frameR_at A _ (batchB x.f0 x.f1) (by omega) (batchB_bytes _ _)
    have hst := (scan_some _ hb hl acc (by rw [List.length_cons] at hn; omega) (fun y hy => by
      have := hg y (List.mem_append_left _ hy)
      have h1 := this.2.1; have h2 := this.2.2.1
      omega) A.length (by rw [List.length_append]; omega) x hx _ hf).1 (by
      have := hc [] t x rfl
      rw [List.append_nil] at this; exact this)
    refine hst r ?_
    have ih := scan_recs R t (acc ++ [x]) (A ++ recB x) (by rw [← e2]; exact hl) (by rw [← e2]; exact hb) (by rw [List.length_append, List.length_singleton]; rw [List.length_cons] at hn; omega) (by
      intro y hy
      rw [List.append_assoc, List.singleton_append] at hy
      exact hg y hy) (fun a b y e => by
      have := hc (x :: a) b y (by rw [e]; rfl)
      rw [List.append_assoc, List.singleton_append]; exact this) r
    rw [← e2, List.append_assoc, List.singleton_append, List.length_append] at ih
    refine ih ?_
    have e3 : A.length + (recB x).length + (recs t).length = A.length + (recs (x :: t)).length := by rw [recs_cons, List.length_append]; omega
    rw [e3]; exact hr

/-! ### Make: entries in order, by numbers -/
def dg (n : Nat) : ByteArray := if n < 10 then ⟨#[UInt8.ofNat (48 + n)]⟩ else if n < 100 then ⟨#[UInt8.ofNat (48 + n / 10), UInt8.ofNat (48 + n % 10)]⟩ else ⟨#[UInt8.ofNat (48 + n / 100), UInt8.ofNat (48 + n / 10 % 10), UInt8.ofNat (48 + n % 10)]⟩
theorem dg_all : ∀ n : Nat, n < 256 → iceboxref1_Digits.f 5 (n : Int) = some (dg n) := by decide +kernel
theorem dg_size : ∀ n : Nat, n < 256 → (dg n).size ≤ 3 := by decide +kernel
theorem dg_num : ∀ n : Nat, n < 256 → (dg n).data.toList.foldl (fun a (b : UInt8) => 10 * a + (b.toNat - 48)) 0 = n := by decide +kernel
theorem dg_inj {m n : Nat} (hm : m < 256) (hn : n < 256) (h : (dg m).toList = (dg n).toList) : m = n := by
  rw [Go.ByteArray.toList_eq, Go.ByteArray.toList_eq] at h
  rw [← dg_num m hm, ← dg_num n hn, h]
theorem dg_ev (x : Int) (h0 : 0 ≤ x) (h1 : x ≤ 255) : Ev (fun k => iceboxref1_Digits.f k x) (dg x.toNat) := by
  have h := dg_all x.toNat (by omega)
  rw [Int.toNat_of_nonneg h0] at h
  exact Ev.of (fun k => iceboxref1_Digits.mono x k) h
theorem empty_tl : (⟨#[]⟩ : ByteArray).toList = [] := by rw [Go.ByteArray.toList_eq]
theorem zero_tl : (⟨#[0]⟩ : ByteArray).toList = [0] := by rw [Go.ByteArray.toList_eq]

theorem same27_ev (l : List S27) (hb : l.length ≤ 1000000) (d : Nat) : ∀ (i : Nat), i + d = l.length → Ev (fun k => iceboxref1_SameOps.l0 k l l (i : Int)) true := by
  induction d with
  | zero =>
    intro i hd
    refine Ev.step (f := fun _ => some true) (fun k => ?_) (Ev.now _)
    rw [iceboxref1_SameOps.l0, if_neg (by omega)]
  | succ d ih =>
    intro i hd
    have p0 : (0 : Int) ≤ (i : Int) := by omega
    have p1 : (i : Int) < (l.length : Int) := by omega
    have h := ih (i + 1) (by omega)
    refine Ev.step (fun k => ?_) h
    have ew : wrap64 ((i : Int) + 1) = ((i + 1 : Nat) : Int) := by rw [w64 (by omega) (by omega)]; omega
    rw [iceboxref1_SameOps.l0, if_pos p1, if_pos p0, if_pos p1]
    simp only [beq_self_eq_true, Bool.not_true, Bool.or_self]
    rw [if_neg Bool.false_ne_true, ew]
theorem same27f_ev (l : List S27) (hb : l.length ≤ 1000000) : Ev (fun k => iceboxref1_SameOps.f k l l) true := by
  refine Ev.congr (fun k => ?_) (same27_ev l hb l.length 0 (by omega))
  rw [iceboxref1_SameOps.f, if_pos rfl]; rfl

/-! ### batches by numbers -/
theorem awake9_ev : Ev iceboxlaw9_awake.f true := Ev.of (fun k => iceboxlaw9_awake.mono k) (k := 200) (by decide +kernel)
theorem S27_eta (x : S27) : (⟨x.f0, x.f1, x.f2⟩ : S27) = x := rfl
theorem rnorm1 (o : S27) : Ev (fun k => iceboxref1_Norm.f k [o]) [o] := by
  refine ⟨3, fun k hk => ?_⟩
  obtain ⟨k', rfl⟩ : ∃ k', k = k' + 3 := ⟨k - 3, by omega⟩
  show iceboxref1_Norm.l0 (k' + 2 + 1) [o] [] 0 = some [o]
  rw [iceboxref1_Norm.l0, if_pos (by first | decide | simp)]
  show iceboxref1_Norm.l1 (k' + 1 + 1) [o] [] 0 0 = some [o]
  rw [iceboxref1_Norm.l1, if_neg (by first | decide | simp), Option.bind_some, if_pos (by first | decide | simp), if_pos (by first | decide | simp), Option.bind_some, if_pos (by first | decide | simp), Option.bind_some, if_pos (by first | decide | simp), if_pos (by first | decide | simp), if_pos (by first | decide | simp), Option.bind_some, Option.bind_some, if_pos (by first | decide | simp), w64 (by decide) (by decide)]
  show iceboxref1_Norm.l0 (k' + 1) [o] [o] 1 = some [o]
  rw [iceboxref1_Norm.l0, if_neg (by first | decide | simp)]
theorem rnorm2 (o q : S27) (h : Op.bytesLess o.f1.toList q.f1.toList = true) : Ev (fun k => iceboxref1_Norm.f k [o, q]) [o, q] := by
  refine ⟨6, fun k hk => ?_⟩
  obtain ⟨k', rfl⟩ : ∃ k', k = k' + 6 := ⟨k - 6, by omega⟩
  show iceboxref1_Norm.l0 (k' + 5 + 1) [o, q] [] 0 = some [o, q]
  rw [iceboxref1_Norm.l0, if_pos (by first | decide | simp)]
  show iceboxref1_Norm.l1 (k' + 4 + 1) [o, q] [] 0 0 = some [o, q]
  rw [iceboxref1_Norm.l1, if_neg (by first | decide | simp), Option.bind_some, if_pos (by first | decide | simp), if_pos (by first | decide | simp), Option.bind_some, if_pos (by first | decide | simp), Option.bind_some, if_pos (by first | decide | simp), if_pos (by first | decide | simp), if_pos (by first | decide | simp), Option.bind_some, Option.bind_some, if_pos (by first | decide | simp), w64 (by decide) (by decide)]
  show iceboxref1_Norm.l0 (k' + 3 + 1) [o, q] [o] 1 = some [o, q]
  rw [iceboxref1_Norm.l0, if_pos (by first | decide | simp)]
  show iceboxref1_Norm.l1 (k' + 2 + 1) [o, q] [o] 1 0 = some [o, q]
  have h' : Op.bytesLess (rd_T27 [o] 0).f1.toList (rd_T27 [o, q] 1).f1.toList = true := h
  rw [iceboxref1_Norm.l1, if_pos (by simp), if_pos (by first | decide | simp), if_pos (by first | decide | simp), if_pos (by simp), if_pos h', w64 (by decide) (by decide)]
  show iceboxref1_Norm.l1 (k' + 1 + 1) [o, q] [o] 1 1 = some [o, q]
  rw [iceboxref1_Norm.l1, if_neg (by simp), Option.bind_some, if_pos (by first | decide | simp), if_pos (by simp), Option.bind_some, if_pos (by simp), Option.bind_some, if_pos (by first | decide | simp), if_pos (by simp), if_pos (by simp), Option.bind_some, Option.bind_some, if_pos (by simp), w64 (by decide) (by decide)]
  show iceboxref1_Norm.l0 (k' + 1) [o, q] [o, q] 2 = some [o, q]
  rw [iceboxref1_Norm.l0, if_neg (by simp)]
def mkOp (n : Nat) : S27 := if n % 5 = 0 then ⟨2, (⟨#[107]⟩ : ByteArray) ++ dg (n % 7), (⟨#[]⟩ : ByteArray)⟩ else ⟨1, (⟨#[107]⟩ : ByteArray) ++ dg (n % 7), dg n⟩
def mkOps (n : Nat) : List S27 := if n % 3 = 0 then [mkOp n, ⟨1, (⟨#[108]⟩ : ByteArray) ++ dg (n % 4), (⟨#[120]⟩ : ByteArray)⟩] else [mkOp n]
theorem toList_app2 (a b : ByteArray) : (a ++ b).toList = a.toList ++ b.toList := by
  rw [Go.ByteArray.toList_eq, Go.ByteArray.toList_eq, Go.ByteArray.toList_eq, ByteArray.toList_data_append]
theorem mkOp_key (n : Nat) : (mkOp n).f1 = (⟨#[107]⟩ : ByteArray) ++ dg (n % 7) := by unfold mkOp; split <;> rfl
theorem key_lt (a b : Nat) : Op.bytesLess ((⟨#[107]⟩ : ByteArray) ++ dg a).toList ((⟨#[108]⟩ : ByteArray) ++ dg b).toList = true := by
  have e1 : (⟨#[107]⟩ : ByteArray).toList = [107] := by rw [Go.ByteArray.toList_eq]
  have e2 : (⟨#[108]⟩ : ByteArray).toList = [108] := by rw [Go.ByteArray.toList_eq]
  rw [toList_app2, toList_app2, e1, e2]
  simp [Op.bytesLess]
theorem good_op (a : Int) (p : ByteArray) (m : Nat) (v : ByteArray) (ha : a = 1 ∨ a = 2) (hp : p.size = 1) (hm : m < 256) (hv : v.size ≤ 3) (h2 : a = 2 → v.toList = []) : GoodOp ⟨a, p ++ dg m, v⟩ := by
  refine ⟨ha, ?_, by show v.size ≤ 512; omega, h2⟩
  show (p ++ dg m).size ≤ 64
  have := dg_size m hm
  rw [ByteArray.size_append]; omega
theorem mkOp_good (n : Nat) (h : n < 256) : GoodOp (mkOp n) := by
  unfold mkOp
  by_cases c : n % 5 = 0
  · rw [if_pos c]; exact good_op 2 _ (n % 7) _ (Or.inr rfl) rfl (by omega) (Nat.zero_le _) (fun _ => empty_tl)
  · rw [if_neg c]; exact good_op 1 _ (n % 7) _ (Or.inl rfl) rfl (by omega) (dg_size n h) (fun h => by omega)
theorem mkOps_good (n : Nat) (h : n < 256) (s : Int) (h1 : 1 ≤ s) (h2 : s ≤ 9007199254740992) : PutOk s (mkOps n) := by
  have g1 := mkOp_good n h
  unfold mkOps
  by_cases c : n % 3 = 0
  · rw [if_pos c]
    refine ⟨(mayL_good _).2 ⟨by simp, by simp, fun x hx => ?_⟩, h1, h2, normOf_self ?_⟩
    · rcases List.mem_cons.1 hx with rfl | hx
      · exact g1
      · rw [List.mem_singleton.1 hx]
        exact good_op 1 _ (n % 4) _ (Or.inl rfl) rfl (by omega) (by show 1 ≤ 3; omega) (fun h => by omega)
    · refine List.pairwise_cons.2 ⟨fun x hx => ?_, List.pairwise_singleton _ _⟩
      rw [List.mem_singleton.1 hx, mkOp_key]
      exact key_lt _ _
  · rw [if_neg c]
    refine ⟨(mayL_good _).2 ⟨by simp, by simp, fun x hx => ?_⟩, h1, h2, normOf_self (List.pairwise_singleton _ _)⟩
    rw [List.mem_singleton.1 hx]; exact g1
def mk (ns : List Int) (s : Int) (i : Nat) : S37 := ⟨s + i, mkOps (rd ns (i : Int)).toNat⟩
theorem mk_j1 (ns : List Int) (s : Int) (acc : List S37) (i n : Nat) (hi : i < 300) (hal : acc.length ≤ 1000) (hs : 1 ≤ s ∧ s ≤ 1000000) (hn : n < 256) (r : List S37) (h : Ev (fun k => iceboxlaw9_Make.l0 k ns s (acc ++ [⟨s + i, mkOps n⟩]) ((i + 1 : Nat) : Int)) r) :
    Ev (fun k => iceboxlaw9_Make.j1 k ns s acc (i : Int) (n : Int) (mkOp n).f0 (mkOp n).f1 (mkOp n).f2) r := by
  have ew : wrap64 ((i : Int) + 1) = ((i + 1 : Nat) : Int) := by rw [w64 (by omega) (by omega)]; omega
  have es : wrap64 (s + (i : Int)) = s + i := w64 (by omega) (by omega)
  have e3 : Int.tmod (n : Int) 3 = ((n % 3 : Nat) : Int) := by rw [Int.tmod_eq_emod_of_nonneg (by omega)]; omega
  have e4 : Int.tmod (n : Int) 4 = ((n % 4 : Nat) : Int) := by rw [Int.tmod_eq_emod_of_nonneg (by omega)]; omega
  by_cases c : n % 3 = 0
  · have hd := dg_ev ((n % 4 : Nat) : Int) (by omega) (by omega)
    rw [Int.toNat_natCast] at hd
    have hds := dg_size (n % 4) (by omega)
    have hN := rnorm2 (mkOp n) ⟨1, (⟨#[108]⟩ : ByteArray) ++ dg (n % 4), (⟨#[120]⟩ : ByteArray)⟩ (by rw [mkOp_key]; exact key_lt _ _)
    have e : mkOps n = [mkOp n, ⟨1, (⟨#[108]⟩ : ByteArray) ++ dg (n % 4), (⟨#[120]⟩ : ByteArray)⟩] := by unfold mkOps; rw [if_pos c]
    rw [← e] at hN
    obtain ⟨K1, hK1⟩ := hd
    obtain ⟨K2, hK2⟩ := hN
    obtain ⟨K3, hK3⟩ := h
    refine ⟨max K1 (max K2 K3) + 1, fun k hk => ?_⟩
    obtain ⟨k', rfl⟩ : ∃ k', k = k' + 1 := ⟨k - 1, by omega⟩
    have q1 := hK1 k' (by omega)
    have q2 := hK2 k' (by omega)
    have q3 := hK3 k' (by omega)
    dsimp only at q1 q2 q3
    show iceboxlaw9_Make.j1 (k' + 1) ns s acc (i : Int) (n : Int) (mkOp n).f0 (mkOp n).f1 (mkOp n).f2 = _
    rw [iceboxlaw9_Make.j1, Option.bind_some, if_pos (by rw [e3, c]; rfl), e4, q1, Option.bind_some, if_pos (by omega), if_pos (by simp), S27_eta]
    have e5 : ([mkOp n] ++ [⟨1, (⟨#[108]⟩ : ByteArray) ++ dg (n % 4), (⟨#[120]⟩ : ByteArray)⟩] : List S27) = mkOps n := by rw [e]; rfl
    rw [e5]
    have q2' : iceboxref1_Norm.f k' (mkOps n) = some (mkOps n) := by rw [← q2, e]
    rw [q2', Option.bind_some, if_pos (by omega), es, ew]; exact q3
  · have hN := rnorm1 (mkOp n)
    have e : mkOps n = [mkOp n] := by unfold mkOps; rw [if_neg c]
    obtain ⟨K2, hK2⟩ := hN
    obtain ⟨K3, hK3⟩ := h
    refine ⟨max K2 K3 + 1, fun k hk => ?_⟩
    obtain ⟨k', rfl⟩ : ∃ k', k = k' + 1 := ⟨k - 1, by omega⟩
    have q2 := hK2 k' (by omega)
    have q3 := hK3 k' (by omega)
    dsimp only at q2 q3
    show iceboxlaw9_Make.j1 (k' + 1) ns s acc (i : Int) (n : Int) (mkOp n).f0 (mkOp n).f1 (mkOp n).f2 = _
    rw [iceboxlaw9_Make.j1, Option.bind_some, if_neg (by rw [e3]; omega), S27_eta, q2, Option.bind_some, if_pos (by omega), es, ew, ← e]; exact q3
theorem mk_l0 (ns : List Int) (hb : Bytes ns) (hl : ns.length ≤ 200) (s : Int) (hs : 1 ≤ s ∧ s ≤ 1000000) : ∀ (d i : Nat), i + d = ns.length → Ev (fun k => iceboxlaw9_Make.l0 k ns s ((List.range i).map (mk ns s)) (i : Int)) ((List.range ns.length).map (mk ns s))
  | 0, i, hd => by
    obtain rfl : i = ns.length := by omega
    refine Ev.step (f := fun _ => some _) (fun k => ?_) (Ev.now _)
    rw [iceboxlaw9_Make.l0, if_neg (by omega)]
  | d + 1, i, hd => by
    have hi : i < ns.length := by omega
    have ih := mk_l0 ns hb hl s hs d (i + 1) (by omega)
    have hr := hb (ns[i]) (List.getElem_mem hi)
    have er : rd ns (i : Int) = ((rd ns (i : Int)).toNat : Int) := by rw [rd_at hi]; omega
    obtain ⟨n, en⟩ : ∃ n, n = (rd ns (i : Int)).toNat := ⟨_, rfl⟩
    have hn : n < 256 := by rw [en, rd_at hi]; omega
    rw [List.range_succ, List.map_append, List.map_cons, List.map_nil] at ih
    have em : mk ns s i = ⟨s + i, mkOps n⟩ := by unfold mk; rw [← en]
    rw [em] at ih
    have hj := mk_j1 ns s ((List.range i).map (mk ns s)) i n (by omega) (by simp; omega) hs hn _ ih
    have hd7 := dg_ev ((n % 7 : Nat) : Int) (by omega) (by omega)
    have hdn := dg_ev (n : Int) (by omega) (by omega)
    rw [Int.toNat_natCast] at hd7 hdn
    have hds := dg_size (n % 7) (by omega)
    have e7 : Int.tmod (n : Int) 7 = ((n % 7 : Nat) : Int) := by rw [Int.tmod_eq_emod_of_nonneg (by omega)]; omega
    have e5 : Int.tmod (n : Int) 5 = ((n % 5 : Nat) : Int) := by rw [Int.tmod_eq_emod_of_nonneg (by omega)]; omega
    have ewn : wrap64 (rd ns (i : Int)) = (n : Int) := by rw [er, ← en, w64 (by omega) (by omega)]
    obtain ⟨K1, hK1⟩ := hd7
    obtain ⟨K2, hK2⟩ := hdn
    obtain ⟨K3, hK3⟩ := hj
    refine ⟨max K1 (max K2 K3) + 1, fun k hk => ?_⟩
    obtain ⟨k', rfl⟩ : ∃ k', k = k' + 1 := ⟨k - 1, by omega⟩
    have q1 := hK1 k' (by omega)
    have q2 := hK2 k' (by omega)
    have q3 := hK3 k' (by omega)
    dsimp only at q1 q2 q3
    show iceboxlaw9_Make.l0 (k' + 1) ns s ((List.range i).map (mk ns s)) (i : Int) = _
    rw [iceboxlaw9_Make.l0, if_pos (by omega), if_pos (by omega), ewn, e7, q1, Option.bind_some, if_pos (by omega), q2, Option.bind_some, e5]
    by_cases c : n % 5 = 0
    · have em2 : mkOp n = ⟨2, (⟨#[107]⟩ : ByteArray) ++ dg (n % 7), (⟨#[]⟩ : ByteArray)⟩ := by unfold mkOp; rw [if_pos c]
      rw [em2] at q3
      rw [if_pos (by omega)]; exact q3
    · have em2 : mkOp n = ⟨1, (⟨#[107]⟩ : ByteArray) ++ dg (n % 7), dg n⟩ := by unfold mkOp; rw [if_neg c]
      rw [em2] at q3
      rw [if_neg (by omega)]; exact q3
def made (ns : List Int) (s : Int) : List S37 := (List.range ns.length).map (mk ns s)
theorem made_ev (ns : List Int) (hb : Bytes ns) (hl : ns.length ≤ 200) (s : Int) (hs : 1 ≤ s ∧ s ≤ 1000000) : Ev (fun k => iceboxlaw9_Make.f k ns s) (made ns s) := mk_l0 ns hb hl s hs ns.length 0 (by omega)
theorem made_len (ns : List Int) (s : Int) : (made ns s).length = ns.length := by unfold made; simp
theorem made_get (ns : List Int) (s : Int) (i : Nat) (h : i < (made ns s).length) : (made ns s)[i] = mk ns s i := by simp [made]
theorem rd37_get (l : List S37) (i : Nat) (h : i < l.length) : rd_T37 l (i : Int) = l[i] := by
  unfold rd_T37
  rw [Int.toNat_natCast, List.getD_eq_getElem?_getD, List.getElem?_eq_getElem h]; rfl
theorem mk_good (ns : List Int) (hb : Bytes ns) (s : Int) (hs : 1 ≤ s ∧ s ≤ 1000000) (i : Nat) (hi : i < ns.length) (hl : ns.length ≤ 200) : Good (mk ns s i) := by
  have hr := hb (ns[i]) (List.getElem_mem hi)
  exact mkOps_good _ (by rw [rd_at hi]; omega) (s + (i : Int)) (by omega) (by omega)
theorem made_good (ns : List Int) (hb : Bytes ns) (s : Int) (hs : 1 ≤ s ∧ s ≤ 1000000) (hl : ns.length ≤ 200) : ∀ x ∈ made ns s, Good x := by
  intro x hx
  obtain ⟨i, hi, rfl⟩ := List.getElem_of_mem hx
  rw [made_get ns s i hi]
  exact mk_good ns hb s hs i (by rw [made_len] at hi; exact hi) hl
/-- Where numbers follow one another, each comes behind what is ahead. -/
theorem next_of (L : List S37) (s : Int) (h : ∀ i (hi : i < L.length), (L[i]).f0 = s + i) (a b : List S37) (x : S37) (e : L = a ++ x :: b) : Next a x.f0 := by
  intro y hy
  rcases List.eq_nil_or_concat a with ea | ⟨a0, z, ea⟩
  · subst ea; simp at hy
  · rw [List.concat_eq_append] at ea
    subst ea
    rw [List.getLast?_concat, Option.mem_some_iff] at hy
    subst hy
    have e2 : L = a0 ++ z :: x :: b := by rw [e]; simp
    have h1 := h a0.length (by rw [e2]; simp)
    have h2 := h (a0.length + 1) (by rw [e2]; simp)
    simp only [e2, List.getElem_append_right (Nat.le_refl _), Nat.sub_self, List.getElem_cons_zero] at h1
    have e3 : a0.length.succ - a0.length = 1 := by omega
    simp only [e2, List.getElem_append_right (Nat.le_succ _), e3, List.getElem_cons_succ, List.getElem_cons_zero] at h2
    rw [h1, h2]; omega
theorem batches_l0 (L : List S37) (hl : L.length ≤ 1000) (hg : ∀ x ∈ L, x.f1.length ≤ 1000) : ∀ (d i : Nat), i + d = L.length → Ev (fun k => iceboxref1_Batches.l0 k L L (i : Int)) true
  | 0, i, hd => by
    refine Ev.step (f := fun _ => some true) (fun k => ?_) (Ev.now _)
    rw [iceboxref1_Batches.l0, if_neg (by omega)]
  | d + 1, i, hd => by
    have hi : i < L.length := by omega
    have ih := batches_l0 L hl hg d (i + 1) (by omega)
    have ew : wrap64 ((i : Int) + 1) = ((i + 1 : Nat) : Int) := by rw [w64 (by omega) (by omega)]; omega
    have hx := hg (rd_T37 L (i : Int)) (by rw [rd37_get L i hi]; exact List.getElem_mem hi)
    have hs := same27f_ev (rd_T37 L (i : Int)).f1 (by omega)
    have hb : Ev (fun k => iceboxref1_SameBatch.f k (rd_T37 L (i : Int)).f0 (rd_T37 L (i : Int)).f1 (rd_T37 L (i : Int)).f0 (rd_T37 L (i : Int)).f1) true := by
      unfold iceboxref1_SameBatch.f
      exact Ev.congr (fun k => by rw [if_pos rfl]) (Ev.bind hs (f := fun k t => some t) (Ev.now _))
    refine Ev.step (fun k => by rw [iceboxref1_Batches.l0, if_pos (by omega), if_pos (by omega), if_pos (by omega)]) (Ev.bind hb (f := fun k t478 => (if t478 = true then (iceboxref1_Batches.l0 k L L (wrap64 ((i : Int) + 1))) else (some false))) ?_)
    exact Ev.congr (fun k => by rw [if_pos rfl, ew]) ih
theorem batches_ev (L : List S37) (hl : L.length ≤ 1000) (hg : ∀ x ∈ L, Good x) : Ev (fun k => iceboxref1_Batches.f k L L) true := by
  unfold iceboxref1_Batches.f
  exact Ev.congr (fun k => by rw [if_pos rfl]; rfl) (batches_l0 L hl (fun x hx => by have := ((mayL_good x.f1).1 (hg x hx).1).2.1; omega) L.length 0 (by omega))

/-! ### replay.Join -/
def joinT : Int → List S37 → List S37 → List S37 × Option Int
  | last, out, [] => (out, some last)
  | last, out, x :: t => if x.f0 ≤ last then joinT last out t else if x.f0 - 1 > last then (out, none) else joinT x.f0 (out ++ [x]) t
def joinL : Int → List S37 → List (List S37) → List S37
  | _, out, [] => out
  | last, out, T :: r => match joinT last out T with
    | (out', none) => out'
    | (out', some last') => joinL last' out' r
theorem join_l1 (logs : List (List Int)) (i : Nat) (hi : i < logs.length) (hll : logs.length ≤ 1000) (T : List S37) (hT : T.length ≤ 1000000) (hb : ∀ x ∈ T, -1000000 ≤ x.f0 ∧ x.f0 ≤ 9007199254740992) (r : List S37) : ∀ (d j : Nat) (last : Int) (out : List S37), j + d = T.length → out.length + d ≤ 100000000 →
    (∀ out' last', joinT last out (T.drop j) = (out', some last') → Ev (fun k => replay_Join.l0 k last' out' logs (logs.length : Int) ((i + 1 : Nat) : Int)) r) → (∀ out', joinT last out (T.drop j) = (out', none) → r = out') →
    Ev (fun k => replay_Join.l1 k last out logs (logs.length : Int) (i : Int) T (T.length : Int) (j : Int)) r
  | 0, j, last, out, hd, ho, h1, h2 => by
    have e : T.drop j = [] := List.drop_of_length_le (by omega)
    rw [e] at h1
    have h := h1 out last rfl
    have ew : wrap64 ((i : Int) + 1) = ((i + 1 : Nat) : Int) := by rw [w64 (by omega) (by omega)]; omega
    refine Ev.step (fun k => ?_) h
    rw [replay_Join.l1, if_neg (by omega), ew]
  | d + 1, j, last, out, hd, ho, h1, h2 => by
    have hj : j < T.length := by omega
    have ew : wrap64 ((j : Int) + 1) = ((j + 1 : Nat) : Int) := by rw [w64 (by omega) (by omega)]; omega
    obtain ⟨x, ex⟩ : ∃ x, x = rd_T37 T (j : Int) := ⟨_, rfl⟩
    have e : T.drop j = x :: T.drop (j + 1) := by rw [ex, rd37_get T j hj, List.drop_eq_getElem_cons hj]
    have hx := hb x (by rw [ex, rd37_get T j hj]; exact List.getElem_mem hj)
    have e1 : wrap64 (x.f0 - 1) = x.f0 - 1 := w64 (by omega) (by omega)
    rw [e] at h1 h2
    simp only [joinT] at h1 h2
    by_cases c1 : x.f0 ≤ last
    · rw [if_pos c1] at h1 h2
      refine Ev.step (fun k => ?_) (join_l1 logs i hi hll T hT hb r d (j + 1) last out (by omega) (by omega) h1 h2)
      rw [replay_Join.l1, if_pos (by omega), if_pos (by omega), if_pos (by omega), ← ex, if_pos c1, ew]
    · rw [if_neg c1] at h1 h2
      by_cases c2 : x.f0 - 1 > last
      · rw [if_pos c2] at h1 h2
        have hr := h2 out rfl
        refine Ev.step (f := fun _ => some r) (fun k => ?_) (Ev.now _)
        rw [replay_Join.l1, if_pos (by omega), if_pos (by omega), if_pos (by omega), ← ex, if_neg c1, e1, if_pos c2, hr]
      · rw [if_neg c2] at h1 h2
        refine Ev.step (fun k => ?_) (join_l1 logs i hi hll T hT hb r d (j + 1) x.f0 (out ++ [x]) (by omega) (by rw [List.length_append, List.length_singleton]; omega) h1 h2)
        have ex2 : (⟨x.f0, x.f1⟩ : S37) = x := rfl
        rw [replay_Join.l1, if_pos (by omega), if_pos (by omega), if_pos (by omega), ← ex, if_neg c1, e1, if_neg c2, if_pos (by omega), ew, ex2]
theorem joinT_len : ∀ (T : List S37) (last : Int) (out : List S37), (joinT last out T).1.length ≤ out.length + T.length
  | [], _, _ => Nat.le_refl _
  | x :: t, last, out => by
    rw [joinT]
    by_cases c1 : x.f0 ≤ last
    · rw [if_pos c1]; have := joinT_len t last out; rw [List.length_cons]; omega
    · rw [if_neg c1]
      by_cases c2 : x.f0 - 1 > last
      · rw [if_pos c2]; rw [List.length_cons]; show out.length ≤ _; omega
      · rw [if_neg c2]; have := joinT_len t x.f0 (out ++ [x]); rw [List.length_append, List.length_singleton] at this; rw [List.length_cons]; omega
theorem join_l0 (logs : List (List Int)) (Ts : List (List S37)) (hlen : Ts.length = logs.length) (hll : logs.length ≤ 1000) (hT : ∀ T ∈ Ts, T.length ≤ 10000 ∧ ∀ x ∈ T, -1000000 ≤ x.f0 ∧ x.f0 ≤ 9007199254740992) (hs : ∀ (i : Nat) (h : i < logs.length), ∃ g, Ev (fun k => replay_Scan.f k (logs[i])) (Ts[i]'(by omega), g)) :
    ∀ (d i : Nat) (last : Int) (out : List S37), i + d = logs.length → out.length + 10000 * d ≤ 20000000 → Ev (fun k => replay_Join.l0 k last out logs (logs.length : Int) (i : Int)) (joinL last out (Ts.drop i))
  | 0, i, last, out, hd, _ => by
    rw [List.drop_of_length_le (by omega)]
    refine Ev.step (f := fun _ => some out) (fun k => ?_) (Ev.now _)
    rw [replay_Join.l0, if_neg (by omega)]
  | d + 1, i, last, out, hd, ho => by
    have hi : i < logs.length := by omega
    obtain ⟨g, hg⟩ := hs i hi
    have e : Ts.drop i = Ts[i] :: Ts.drop (i + 1) := List.drop_eq_getElem_cons (by omega)
    have hTi := hT (Ts[i]) (List.getElem_mem _)
    have hjl := joinT_len (Ts[i]) last out
    rw [e]
    obtain ⟨T, eT⟩ : ∃ T, T = Ts[i] := ⟨_, rfl⟩
    rw [← eT] at hg hTi hjl ⊢
    have erd : rd_L4 logs (i : Int) = logs[i] := by
      unfold rd_L4
      rw [Int.toNat_natCast, List.getD_eq_getElem?_getD, List.getElem?_eq_getElem hi]; rfl
    refine Ev.step (fun k => by rw [replay_Join.l0, if_pos (by omega), if_pos (by omega), if_pos (by omega), erd]) (Ev.bind hg (f := fun k bt480 => replay_Join.l1 k last out logs (logs.length : Int) (i : Int) bt480.1 (bt480.1.length : Int) 0) ?_)
    refine join_l1 logs i hi hll T (by omega) hTi.2 _ T.length 0 last out (by omega) (by omega) (fun out' last' h => ?_) (fun out' h => ?_)
    · rw [List.drop_zero] at h
      rw [joinL, h]
      rw [h] at hjl
      exact join_l0 logs Ts hlen hll hT hs d (i + 1) last' out' (by omega) (by dsimp only at hjl; omega)
    · rw [List.drop_zero] at h
      rw [joinL, h]
theorem join_ev (logs : List (List Int)) (Ts : List (List S37)) (hlen : Ts.length = logs.length) (hll : logs.length ≤ 1000) (hT : ∀ T ∈ Ts, T.length ≤ 10000 ∧ ∀ x ∈ T, -1000000 ≤ x.f0 ∧ x.f0 ≤ 9007199254740992) (hs : ∀ (i : Nat) (h : i < logs.length), ∃ g, Ev (fun k => replay_Scan.f k (logs[i])) (Ts[i]'(by omega), g)) (last : Int) : Ev (fun k => replay_Join.f k logs last) (joinL last [] Ts) := by
  have h := join_l0 logs Ts hlen hll hT hs logs.length 0 last [] (by omega) (by simp; omega)
  rw [List.drop_zero] at h
  exact h
/-- Batches whose numbers follow one another from s on, behind all up to last. -/
theorem joinT_run : ∀ (T : List S37) (s last : Int) (out : List S37), (∀ i (h : i < T.length), (T[i]).f0 = s + i) → s ≤ last + 1 → joinT last out T = (out ++ T.drop (last + 1 - s).toNat, some (if s + T.length - 1 ≤ last then last else s + T.length - 1))
  | [], s, last, out, _, hs => by
    rw [joinT, List.drop_nil, List.append_nil]
    simp only [List.length_nil]
    rw [if_pos (by omega)]
  | x :: t, s, last, out, h, hs => by
    have hx : x.f0 = s := by have := h 0 (by simp); simpa using this
    have ht : ∀ i (hh : i < t.length), (t[i]).f0 = (s + 1) + i := fun i hh => by
      have := h (i + 1) (by rw [List.length_cons]; omega)
      rw [List.getElem_cons_succ] at this
      rw [this]; omega
    rw [joinT, hx]
    by_cases c1 : s ≤ last
    · rw [if_pos c1, joinT_run t (s + 1) last out ht (by omega)]
      have e : (last + 1 - s).toNat = (last + 1 - (s + 1)).toNat + 1 := by omega
      rw [e, List.drop_succ_cons, List.length_cons]
      have e2 : s + 1 + (t.length : Int) - 1 = s + ((t.length + 1 : Nat) : Int) - 1 := by omega
      rw [e2]
    · rw [if_neg c1, if_neg (by omega), joinT_run t (s + 1) s (out ++ [x]) ht (by omega)]
      have e : (last + 1 - s).toNat = 0 := by omega
      have e3 : (s + 1 - (s + 1)).toNat = 0 := by omega
      rw [e, e3, List.drop_zero, List.drop_zero, List.length_cons]
      simp only [List.append_assoc, List.singleton_append]
      congr 2
      by_cases c3 : s + 1 + (t.length : Int) - 1 ≤ s
      · rw [if_pos c3, if_neg (by omega)]; omega
      · rw [if_neg c3, if_neg (by omega)]; omega

def seg (L : List S37) (f e : Nat) : List S37 := (L.take e).drop f
theorem seg_len (L : List S37) (f e : Nat) (h : e ≤ L.length) : (seg L f e).length = e - f := by unfold seg; rw [List.length_drop, List.length_take]; omega
theorem seg_succ (L : List S37) (f e : Nat) (hf : f ≤ e) (he : e < L.length) : seg L f (e + 1) = seg L f e ++ [L[e]] := by
  unfold seg
  rw [List.take_succ_eq_append_getElem he, List.drop_append_of_le_length (by rw [List.length_take]; omega)]
theorem seg_mem (L : List S37) (f e : Nat) : ∀ x ∈ seg L f e, x ∈ L := fun x hx => List.mem_of_mem_take (List.mem_of_mem_drop hx)
theorem recs_seg (L : List S37) (f e : Nat) (hf : f ≤ e) (he : e < L.length) : recs (seg L f (e + 1)) = recs (seg L f e) ++ recB (L[e]) := by
  rw [seg_succ L f e hf he, recs_append]
  congr 1
  unfold recs; simp
theorem seg_get (L : List S37) (h : ∀ i (hi : i < L.length), (L[i]).f0 = 1 + i) (f e : Nat) (he : e ≤ L.length) (i : Nat) (hi : i < (seg L f e).length) : ((seg L f e)[i]).f0 = (f + 1 : Int) + i := by
  have hl := seg_len L f e he
  have e1 : (seg L f e)[i] = L[f + i]'(by omega) := by
    simp only [seg, List.getElem_drop, List.getElem_take]
  rw [e1, h]; omega
theorem scan_all (T : List S37) (hl : T.length ≤ 1000) (hg : ∀ x ∈ T, Good x) (s : Int) (h : ∀ i (hi : i < T.length), (T[i]).f0 = s + i) : ∃ g, Ev (fun k => replay_Scan.f k (recs T)) (T, g) := by
  have hlen := recs_len T hg
  have e : recs T = [] ++ (recs T ++ []) := by rw [List.nil_append, List.append_nil]
  have hb := recs_bytes T
  have hl2 : (recs T).length ≤ 100000000 := by omega
  have hst := scan_none (recs T) hb hl2 ([] ++ T) (recs T).length (Nat.le_refl _) (by unfold frameR; rw [if_pos (by omega)])
  rw [e] at hb hl2
  have h2 := scan_recs [] T [] [] hl2 hb (by rw [List.length_nil]; omega) hg (fun a b x ee => by
    rw [List.nil_append]
    exact next_of T s h a b x ee) _ (by rw [← e, List.length_nil, Nat.zero_add]; exact hst)
  rw [← e] at h2
  exact ⟨_, h2⟩
structure PJ (L : List S37) (m : Nat) (logs : List (List Int)) (Ts : List (List S37)) (p : Nat) : Prop where
  len : Ts.length = logs.length
  sc : ∀ (i : Nat) (h : i < logs.length), ∃ g, Ev (fun k => replay_Scan.f k (logs[i])) (Ts[i]'(by omega), g)
  bd : ∀ T ∈ Ts, T.length ≤ 10000 ∧ ∀ x ∈ T, -1000000 ≤ x.f0 ∧ x.f0 ≤ 9007199254740992
  jn : ∀ rest, joinL (m : Int) [] (Ts ++ rest) = joinL ((max p m : Nat) : Int) (seg L m (max p m)) rest
theorem PJ.start (L : List S37) (m : Nat) : PJ L m [] [] 0 := by
  refine ⟨rfl, fun i h => by simp at h, fun T h => by simp at h, fun rest => ?_⟩
  rw [List.nil_append, Nat.zero_max]
  have : seg L m m = [] := by unfold seg; rw [List.drop_of_length_le (by rw [List.length_take]; omega)]
  rw [this]
theorem good_bound {x : S37} (h : Good x) : -1000000 ≤ x.f0 ∧ x.f0 ≤ 9007199254740992 := by
  have g1 := h.2.1; have g2 := h.2.2.1
  omega
theorem PJ.more {L : List S37} {m : Nat} {logs : List (List Int)} {Ts : List (List S37)} {p : Nat} (h : PJ L m logs Ts p) (hl : L.length ≤ 1000) (hg : ∀ x ∈ L, Good x) (hs : ∀ i (hi : i < L.length), (L[i]).f0 = 1 + i) (hm : m ≤ L.length) (f e : Nat) (hf : f ≤ p) (hpe : p ≤ e) (he : e ≤ L.length) : PJ L m (logs ++ [recs (seg L f e)]) (Ts ++ [seg L f e]) e := by
  have hsl := seg_len L f e he
  obtain ⟨h1, h2, h3, h4⟩ := h
  refine ⟨by rw [List.length_append, List.length_append, h1]; rfl, fun i hi => ?_, fun T hT => ?_, fun rest => ?_⟩
  · rcases Nat.lt_or_ge i logs.length with c | c
    · obtain ⟨g, hg2⟩ := h2 i c
      refine ⟨g, ?_⟩
      have a1 : (logs ++ [recs (seg L f e)])[i]'hi = logs[i] := List.getElem_append_left c
      have a2 : (Ts ++ [seg L f e])[i]'(by rw [List.length_append, h1]; simpa using hi) = Ts[i]'(by omega) := List.getElem_append_left (by omega)
      rw [a1, a2]
      exact hg2
    · have ei : i = logs.length := by rw [List.length_append, List.length_singleton] at hi; omega
      subst ei
      obtain ⟨g, hg2⟩ := scan_all (seg L f e) (by omega) (fun x hx => hg x (seg_mem L f e x hx)) (f + 1 : Int) (seg_get L hs f e he)
      refine ⟨g, ?_⟩
      have a1 : (logs ++ [recs (seg L f e)])[logs.length]'hi = recs (seg L f e) := by rw [List.getElem_append_right (Nat.le_refl _)]; simp
      have a2 : (Ts ++ [seg L f e])[logs.length]'(by rw [List.length_append, h1]; simp) = seg L f e := by rw [List.getElem_append_right (by omega)]; simp
      rw [a1, a2]
      exact hg2
  · rcases List.mem_append.1 hT with hT | hT
    · exact h3 T hT
    · rw [List.mem_singleton.1 hT]
      exact ⟨by omega, fun x hx => good_bound (hg x (seg_mem L f e x hx))⟩
  · rw [List.append_assoc, List.singleton_append, h4, joinL, joinT_run (seg L f e) (f + 1 : Int) ((max p m : Nat) : Int) _ (seg_get L hs f e he) (by omega), hsl]
    dsimp only
    have e1 : (((max p m : Nat) : Int) + 1 - ((f : Int) + 1)).toNat = max p m - f := by omega
    have e2 : (if (f : Int) + 1 + ((e - f : Nat) : Int) - 1 ≤ ((max p m : Nat) : Int) then ((max p m : Nat) : Int) else (f : Int) + 1 + ((e - f : Nat) : Int) - 1) = ((max e m : Nat) : Int) := by
      by_cases c : (f : Int) + 1 + ((e - f : Nat) : Int) - 1 ≤ ((max p m : Nat) : Int)
      · rw [if_pos c]; omega
      · rw [if_neg c]; omega
    rw [e1, e2]
    have e3 : seg L m (max p m) ++ (seg L f e).drop (max p m - f) = seg L m (max e m) := by
      unfold seg
      rw [List.drop_drop, show f + (max p m - f) = max p m by omega]
      rcases Nat.lt_or_ge e (max p m) with c | c
      · rw [List.drop_of_length_le (l := L.take e) (by rw [List.length_take]; omega), List.append_nil]
        rw [show max p m = max e m by omega]
      · have e4 : max e m = e := by omega
        rw [e4]
        apply List.ext_getElem
        · rw [List.length_append, List.length_drop, List.length_drop, List.length_drop, List.length_take, List.length_take]; omega
        · intro i a1 a2
          rw [List.getElem_drop, List.getElem_take]
          rcases Nat.lt_or_ge i (max p m - m) with g | g
          · rw [List.getElem_append_left (by rw [List.length_drop, List.length_take]; omega), List.getElem_drop, List.getElem_take]
          · rw [List.getElem_append_right (by rw [List.length_drop, List.length_take]; omega), List.getElem_drop, List.getElem_take]
            congr 1
            rw [List.length_drop, List.length_take]; omega
    rw [e3]
theorem rj_awake (P : Nat → Option Bool) (h : ∀ k, P (k + 1) = (iceboxlaw9_awake.f k).bind fun t => some t) : Ev P true :=
  Ev.step (f := fun k => (iceboxlaw9_awake.f k).bind fun t => some t) h (Ev.bind awake9_ev (f := fun k t => some t) (Ev.now _))
theorem rj_l2 (L : List S37) (hl : L.length ≤ 100) (hg : ∀ x ∈ L, Good x) (hs : ∀ i (hi : i < L.length), (L[i]).f0 = 1 + i) (m : Nat) (hm : m + 1 < L.length) : ∀ (d i : Nat), i + d = L.length → m + 1 ≤ i → Ev (fun k => iceboxlaw9_ReplayJoins.l2 k L (m : Int) (recs (seg L (m + 1) i)) (i : Int)) true
  | 0, i, hd, hmi => by
    obtain rfl : i = L.length := by omega
    have hsl := seg_len L (m + 1) L.length (Nat.le_refl _)
    have hsg := seg_get L hs (m + 1) L.length (Nat.le_refl _)
    obtain ⟨g, hsc⟩ := scan_all (seg L (m + 1) L.length) (by omega) (fun x hx => hg x (seg_mem L _ _ x hx)) _ hsg
    have hj := join_ev [recs (seg L (m + 1) L.length)] [seg L (m + 1) L.length] rfl (by simp) (fun T hT => by
      rw [List.mem_singleton.1 hT]
      exact ⟨by omega, fun x hx => good_bound (hg x (seg_mem L _ _ x hx))⟩) (fun i h => by
      have : i = 0 := by simpa using h
      subst this
      exact ⟨g, hsc⟩) (m : Int)
    have hjl : joinL (m : Int) [] [seg L (m + 1) L.length] = [] := by
      obtain ⟨x, t, e⟩ : ∃ x t, seg L (m + 1) L.length = x :: t := by
        cases e : seg L (m + 1) L.length with
        | nil => rw [e] at hsl; simp at hsl; omega
        | cons x t => exact ⟨x, t, rfl⟩
      have hx : x.f0 = ((m + 1 : Nat) : Int) + 1 := by
        have := hsg 0 (by omega)
        simp only [e, List.getElem_cons_zero] at this
        rw [this]; omega
      rw [e, joinL, joinT, if_neg (by omega), if_pos (by omega)]
    rw [hjl] at hj
    refine Ev.step (fun k => by rw [iceboxlaw9_ReplayJoins.l2, if_neg (by omega)]) (Ev.bind hj (f := fun k t523 => (if (t523.length : Int) = 0 then ((iceboxlaw9_awake.f k).bind fun t526 => (some t526)) else (some false))) ?_)
    exact Ev.congr (fun k => by rw [if_pos (by rfl)]) (Ev.bind awake9_ev (f := fun k t => some t) (Ev.now _))
  | d + 1, i, hd, hmi => by
    have hi : i < L.length := by omega
    have ih := rj_l2 L hl hg hs m hm d (i + 1) (by omega) (by omega)
    have ew : wrap64 ((i : Int) + 1) = ((i + 1 : Nat) : Int) := by rw [w64 (by omega) (by omega)]; omega
    have hp := rput_ev (L[i]) (hg _ (List.getElem_mem hi))
    have hrl := recB_len _ (hg _ (List.getElem_mem hi))
    have hEi := recs_len (seg L (m + 1) i) (fun x hx => hg x (seg_mem L _ _ x hx))
    have hsl := seg_len L (m + 1) i (by omega)
    refine Ev.step (fun k => by rw [iceboxlaw9_ReplayJoins.l2, if_pos (by omega), if_pos (by omega), rd37_get L i hi]) (Ev.bind hp (f := fun k t514 => (if (recs (seg L (m + 1) i)).length + t514.length < 140737488355328 then (iceboxlaw9_ReplayJoins.l2 k L (m : Int) (recs (seg L (m + 1) i) ++ t514) (wrap64 ((i : Int) + 1))) else (none))) ?_)
    refine Ev.congr (fun k => ?_) ih
    rw [if_pos (by omega), ← recs_seg L (m + 1) i hmi hi, ew]
theorem rj_j5 (L : List S37) (hl : L.length ≤ 100) (hg : ∀ x ∈ L, Good x) (hs : ∀ i (hi : i < L.length), (L[i]).f0 = 1 + i) (m : Nat) (b : Bool) (hb : b = true → m + 1 < L.length) : Ev (fun k => iceboxlaw9_ReplayJoins.j5 k L (m : Int) b) true := by
  cases b with
  | false => exact rj_awake _ (fun k => by rw [iceboxlaw9_ReplayJoins.j5, if_neg Bool.false_ne_true])
  | true =>
    have h := rj_l2 L hl hg hs m (hb rfl) (L.length - (m + 1)) (m + 1) (by have := hb rfl; omega) (Nat.le_refl _)
    have e0 : recs (seg L (m + 1) (m + 1)) = [] := by
      have : seg L (m + 1) (m + 1) = [] := by unfold seg; rw [List.drop_of_length_le (by rw [List.length_take]; omega)]
      rw [this]; rfl
    have ew : wrap64 ((m : Int) + 1) = ((m + 1 : Nat) : Int) := by have := hb rfl; rw [w64 (by omega) (by omega)]; omega
    rw [e0] at h
    exact Ev.step (fun k => by rw [iceboxlaw9_ReplayJoins.j5, if_pos rfl, ew]) h
theorem rj_end (x1 : List Int) (x2 x3 : Int) (x4 : Bool) (h2 : 0 ≤ x2 ∧ x2 < 256) (L : List S37) (hl : L.length ≤ 100) (hg : ∀ x ∈ L, Good x) (hs : ∀ i (hi : i < L.length), (L[i]).f0 = 1 + i) (m : Nat) (hme : m = min x2.toNat L.length) (logs : List (List Int)) (Ts : List (List S37)) (hll : logs.length ≤ 1000) (h : PJ L m logs Ts L.length) (a b : Int) : Ev (fun k => iceboxlaw9_ReplayJoins.j2 k x1 x2 x3 x4 L logs a b false) true := by
  have em : mn (wrap64 x2) (L.length : Int) = (m : Int) := by
    rw [w64 (by omega) (by omega)]
    unfold mn
    split <;> omega
  have hj := join_ev logs Ts h.len hll h.bd h.sc (m : Int)
  have hjl : joinL (m : Int) [] Ts = L.drop m := by
    have := h.jn []
    rw [List.append_nil] at this
    rw [this, joinL]
    unfold seg
    rw [show max L.length m = L.length by omega, List.take_length]
  rw [hjl] at hj
  have hbt := batches_ev (L.drop m) (by rw [List.length_drop]; omega) (fun x hx => hg x (List.mem_of_mem_drop hx))
  have ew : wrap64 ((m : Int) + 1) = (m : Int) + 1 := w64 (by omega) (by omega)
  have hj5 : Ev (fun k => if x4 = true then (iceboxlaw9_ReplayJoins.j5 k L (m : Int) (decide ((L.length : Int) > (m : Int) + 1))) else (iceboxlaw9_ReplayJoins.j5 k L (m : Int) false)) true := by
    cases x4 with
    | true => exact Ev.congr (fun k => by rw [if_pos rfl]) (rj_j5 L hl hg hs m (decide ((L.length : Int) > (m : Int) + 1)) (fun h => by have := of_decide_eq_true h; omega))
    | false => exact Ev.congr (fun k => by rw [if_neg Bool.false_ne_true]) (rj_j5 L hl hg hs m false (fun h => by cases h))
  obtain ⟨K1, hK1⟩ := hj
  obtain ⟨K2, hK2⟩ := hbt
  obtain ⟨K3, hK3⟩ := hj5
  refine ⟨max K1 (max K2 K3) + 1, fun k hk => ?_⟩
  obtain ⟨k', rfl⟩ : ∃ k', k = k' + 1 := ⟨k - 1, by omega⟩
  have q1 := hK1 k' (by omega)
  have q2 := hK2 k' (by omega)
  have q3 := hK3 k' (by omega)
  dsimp only at q1 q2 q3
  show iceboxlaw9_ReplayJoins.j2 (k' + 1) x1 x2 x3 x4 L logs a b false = some true
  rw [iceboxlaw9_ReplayJoins.j2, if_neg Bool.false_ne_true, em, q1, Option.bind_some, if_pos (by omega), if_pos (by omega), Int.toNat_natCast, q2, Option.bind_some, if_pos rfl, ew]
  exact q3
theorem rj_l1 (x1 : List Int) (x2 x3 : Int) (x4 : Bool) (L : List S37) (hl : L.length ≤ 100) (hg : ∀ x ∈ L, Good x) (logs : List (List Int)) (hll : logs.length ≤ 1000) (p i n f : Nat) (hpn : p + n ≤ L.length) (hi : i ≤ 1000) (h : Ev (fun k => iceboxlaw9_ReplayJoins.l0 k x1 x2 x3 x4 L (logs ++ [recs (seg L f (p + n))]) ((p + n : Nat) : Int) ((i + 1 : Nat) : Int)) true) : ∀ (d e : Nat), e + d = p + n → f ≤ e → Ev (fun k => iceboxlaw9_ReplayJoins.l1 k x1 x2 x3 x4 L logs (p : Int) (i : Int) (n : Int) (recs (seg L f e)) (e : Int)) true
  | 0, e, hd, hf => by
    obtain rfl : e = p + n := by omega
    have e1 : wrap64 ((p : Int) + (n : Int)) = ((p + n : Nat) : Int) := by rw [w64 (by omega) (by omega)]; omega
    have e2 : wrap64 ((i : Int) + 1) = ((i + 1 : Nat) : Int) := by rw [w64 (by omega) (by omega)]; omega
    refine Ev.step (fun k => ?_) h
    rw [iceboxlaw9_ReplayJoins.l1, e1, if_neg (by omega), if_pos (by omega), e2]
  | d + 1, e, hd, hf => by
    have he : e < L.length := by omega
    have ih := rj_l1 x1 x2 x3 x4 L hl hg logs hll p i n f hpn hi h d (e + 1) (by omega) (by omega)
    have e1 : wrap64 ((p : Int) + (n : Int)) = ((p + n : Nat) : Int) := by rw [w64 (by omega) (by omega)]; omega
    have ew : wrap64 ((e : Int) + 1) = ((e + 1 : Nat) : Int) := by rw [w64 (by omega) (by omega)]; omega
    have hp := rput_ev (L[e]) (hg _ (List.getElem_mem he))
    have hrl := recB_len _ (hg _ (List.getElem_mem he))
    have hEi := recs_len (seg L f e) (fun x hx => hg x (seg_mem L _ _ x hx))
    have hsl := seg_len L f e (by omega)
    refine Ev.step (fun k => by rw [iceboxlaw9_ReplayJoins.l1, e1, if_pos (by omega), if_pos (by omega), if_pos (by omega), rd37_get L e he]) (Ev.bind hp (f := fun k t495 => (if (recs (seg L f e)).length + t495.length < 140737488355328 then (iceboxlaw9_ReplayJoins.l1 k x1 x2 x3 x4 L logs (p : Int) (i : Int) (n : Int) (recs (seg L f e) ++ t495) (wrap64 ((e : Int) + 1))) else (none))) ?_)
    refine Ev.congr (fun k => ?_) ih
    rw [if_pos (by omega), ← recs_seg L f e hf he, ew]
theorem rj_l0 (x1 : List Int) (hx1 : Bytes x1) (hl1 : x1.length ≤ 8) (x2 x3 : Int) (x4 : Bool) (h2 : 0 ≤ x2 ∧ x2 < 256) (h3 : 0 ≤ x3 ∧ x3 < 256) (L : List S37) (hl : L.length ≤ 100) (hg : ∀ x ∈ L, Good x) (hs : ∀ i (hi : i < L.length), (L[i]).f0 = 1 + i) (m : Nat) (hme : m = min x2.toNat L.length) :
    ∀ (d i p : Nat) (logs : List (List Int)) (Ts : List (List S37)), i + d = x1.length + 1 → logs.length ≤ i → p ≤ L.length → (d = 0 → p = L.length) → PJ L m logs Ts p → Ev (fun k => iceboxlaw9_ReplayJoins.l0 k x1 x2 x3 x4 L logs (p : Int) (i : Int)) true
  | 0, i, p, logs, Ts, hd, hlo, hp, hpl, h => by
    obtain rfl : p = L.length := hpl rfl
    refine Ev.step (fun k => ?_) (rj_end x1 x2 x3 x4 h2 L hl hg hs m hme logs Ts (by omega) h (L.length : Int) (i : Int))
    rw [iceboxlaw9_ReplayJoins.l0, if_neg (by omega)]
  | d + 1, i, p, logs, Ts, hd, hlo, hp, hpl, h => by
    by_cases c : p = L.length
    · subst c
      refine Ev.step (fun k => ?_) (rj_end x1 x2 x3 x4 h2 L hl hg hs m hme logs Ts (by omega) h (L.length : Int) (i : Int))
      rw [iceboxlaw9_ReplayJoins.l0, if_pos (by omega), decide_eq_false (by omega)]
    have eb : Int.tmod (wrap64 x3) 3 = ((x3.toNat % 3 : Nat) : Int) := by rw [w64 (by omega) (by omega), Int.tmod_eq_emod_of_nonneg (by omega)]; omega
    obtain ⟨f, ef⟩ : ∃ f, f = p - x3.toNat % 3 := ⟨_, rfl⟩
    have emx : mx 0 (wrap64 ((p : Int) - ((x3.toNat % 3 : Nat) : Int))) = (f : Int) := by
      rw [w64 (by omega) (by omega)]
      unfold mx
      split <;> omega
    have main : ∀ n : Nat, p + n ≤ L.length → (d = 0 → p + n = L.length) → Ev (fun k => iceboxlaw9_ReplayJoins.j3 k x1 x2 x3 x4 L logs (p : Int) (i : Int) (n : Int)) true := by
      intro n hn hdn
      have hP := h.more (by omega) hg hs (by omega) f (p + n) (by omega) (by omega) hn
      have ih := rj_l0 x1 hx1 hl1 x2 x3 x4 h2 h3 L hl hg hs m hme d (i + 1) (p + n) (logs ++ [recs (seg L f (p + n))]) (Ts ++ [seg L f (p + n)]) (by omega) (by rw [List.length_append, List.length_singleton]; omega) hn hdn hP
      have h1 := rj_l1 x1 x2 x3 x4 L hl hg logs (by omega) p i n f hn (by omega) ih (p + n - f) f (by omega) (Nat.le_refl _)
      have e0 : recs (seg L f f) = [] := by
        have : seg L f f = [] := by unfold seg; rw [List.drop_of_length_le (by rw [List.length_take]; omega)]
        rw [this]; rfl
      rw [e0] at h1
      refine Ev.step (fun k => ?_) h1
      rw [iceboxlaw9_ReplayJoins.j3, eb, emx]
    have ew : wrap64 ((L.length : Int) - (p : Int)) = ((L.length - p : Nat) : Int) := by rw [w64 (by omega) (by omega)]; omega
    refine Ev.step (f := fun k => iceboxlaw9_ReplayJoins.j2 k x1 x2 x3 x4 L logs (p : Int) (i : Int) true) (fun k => by rw [iceboxlaw9_ReplayJoins.l0, if_pos (by omega), decide_eq_true (by omega)]) ?_
    by_cases ci : i < x1.length
    · have hr := hx1 (x1[i]) (List.getElem_mem ci)
      have er : rd x1 (i : Int) = x1[i] := rd_at ci
      obtain ⟨v, ev⟩ : ∃ v : Nat, rd x1 (i : Int) = (v : Int) ∧ v < 256 := ⟨(x1[i]).toNat, by rw [er]; omega, by omega⟩
      have e8 : Int.tmod (wrap64 (rd x1 (i : Int))) 8 = ((v % 8 : Nat) : Int) := by
        rw [ev.1, w64 (by omega) (by omega), Int.tmod_eq_emod_of_nonneg (by omega)]; omega
      obtain ⟨n, en⟩ : ∃ n, n = min (L.length - p) (v % 8) := ⟨_, rfl⟩
      have emn : mn ((L.length - p : Nat) : Int) ((v % 8 : Nat) : Int) = (n : Int) := by
        unfold mn
        split <;> omega
      clear er hr ev
      refine Ev.step (fun k => ?_) (main n (by omega) (fun hd0 => by omega))
      rw [iceboxlaw9_ReplayJoins.j2, if_pos rfl, if_pos (by omega), if_pos (by omega), ew, e8, emn]
    · refine Ev.step (fun k => ?_) (main (L.length - p) (by omega) (fun _ => by omega))
      rw [iceboxlaw9_ReplayJoins.j2, if_pos rfl, if_neg (by omega), ew]
theorem ReplayJoins : iceboxlaw9_ReplayJoins.Pure := by
  intro ns ps a2 a3 a4 _ _ hns _ _ hps h2 h3
  have hb := bytes_wf hns
  have hbp := bytes_wf hps
  have w2 := wf_u8 h2
  have w3 := wf_u8 h3
  have hj : Ev (fun k => iceboxlaw9_ReplayJoins.j0 k ns ps a2 a3 a4 true) true := rj_awake _ (fun k => by rw [iceboxlaw9_ReplayJoins.j0, if_pos rfl])
  apply Ev.rounds
  unfold iceboxlaw9_ReplayJoins.f
  by_cases c0 : (ns.length : Int) > 40
  · exact Ev.congr (fun k => by rw [if_pos c0]) hj
  by_cases c1 : (ps.length : Int) > 8
  · exact Ev.congr (fun k => by rw [if_neg c0, decide_eq_true c1]) hj
  refine Ev.congr (f := fun k => iceboxlaw9_ReplayJoins.j0 k ns ps a2 a3 a4 false) (fun k => by rw [if_neg c0, decide_eq_false c1]) ?_
  have hm := made_ev ns hb (by omega) 1 (by omega)
  have hg := made_good ns hb 1 (by omega) (by omega)
  have hl := made_len ns 1
  have hs : ∀ i (hi : i < (made ns 1).length), ((made ns 1)[i]).f0 = 1 + i := fun i hi => by rw [made_get ns _ i hi]; rfl
  refine Ev.step (f := fun k => (iceboxlaw9_Make.f k ns 1).bind fun t490 => (iceboxlaw9_ReplayJoins.l0 k ps a2 a3 a4 t490 ([] : List (List Int)) 0 0)) (fun k => by rw [iceboxlaw9_ReplayJoins.j0, if_neg Bool.false_ne_true]) (Ev.bind hm (f := fun k t490 => iceboxlaw9_ReplayJoins.l0 k ps a2 a3 a4 t490 ([] : List (List Int)) 0 0) ?_)
  exact rj_l0 ps hbp (by omega) a2 a3 a4 w2 w3 (made ns 1) (by omega) hg hs (min a2.toNat (made ns 1).length) rfl (ps.length + 1) 0 0 [] [] (by omega) (by simp) (Nat.zero_le _) (fun h => by omega) (PJ.start _ _)

end Go.Proofs.Ytgannkfpfhdhjaa.Pure
