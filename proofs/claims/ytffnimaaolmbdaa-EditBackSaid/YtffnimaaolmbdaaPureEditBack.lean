/- The pure statement of the law EditBack: over the Lean functions that the Go code was shown to compute, the law answers true for every input within the statement's own bounds. No further conditions. -/
import Derived.Test.YtffnimaaolmbdaaPEditBackx2
import Derived.Test.YtffnimaaolmbdaaPEditBackx3
import Derived.Test.YtffnimaaolmbdaaPEditBackx4
import Derived.Test.YtffnimaaolmbdaaPEditBackx5
import Derived.Test.YtffnimaaolmbdaaPEditBackx6
import Derived.Test.YtffnimaaolmbdaaPEditBackx7
import Derived.Test.YtffnimaaolmbdaaPEditBackx8
import Derived.Test.YtffnimaaolmbdaaPEditBackx9
namespace Go.Proofs.Ytffnimaaolmbdaa.Pure
open Go.RowKit Go.Proofs.Ytffnimaaolmbdaa.PEditBack Go.Proofs.YtffnimaaolmbdaaW.PrintWords Go.Proofs.YtffnimaaolmbdaaW.PrintLast Go.Proofs.YtffnimaaolmbdaaW.PrintMore
set_option linter.unusedVariables false
set_option linter.unusedSimpArgs false

theorem w64 {x : Int} (h0 : -9223372036854775808 ≤ x) (h1 : x < 9223372036854775808) : wrap64 x = x := by
  unfold wrap64; omega
theorem bits_xor_nat (k : IntKind) (j : Nat) (hj : j ≤ k.bits) (hk : ∀ n : Int, 0 ≤ n → n < 2 ^ j → k.wrap n = n) (a b : Nat) (ha : a < 2 ^ j) (hb : b < 2 ^ j) :
    Go.bits .xor k a b = ((a ^^^ b : Nat) : Int) := by
  have hp : 2 ^ j ≤ 2 ^ k.bits := Nat.pow_le_pow_right (by decide) hj
  have ha' : a % 2 ^ k.bits = a := Nat.mod_eq_of_lt (Nat.lt_of_lt_of_le ha hp)
  have hb' : b % 2 ^ k.bits = b := Nat.mod_eq_of_lt (Nat.lt_of_lt_of_le hb hp)
  simp only [Go.bits, BitVec.ofInt_natCast, BitVec.toNat_xor, BitVec.toNat_ofNat, ha', hb']
  exact hk _ (Int.natCast_nonneg _) (by exact_mod_cast Nat.xor_lt_two_pow ha hb)
theorem wr_u32 (n : Int) (h₀ : 0 ≤ n) (h₁ : n < 2 ^ 32) : IntKind.u32.wrap n = n := by rw [IntKind.wrap_u32]; omega
theorem wr_u8 (n : Int) (h₀ : 0 ≤ n) (h₁ : n < 2 ^ 8) : IntKind.u8.wrap n = n := by rw [IntKind.wrap_u8]; omega
theorem wr_i64 (n : Int) (h₀ : 0 ≤ n) (h₁ : n < 2 ^ 63) : IntKind.i64.wrap n = n := by rw [IntKind.wrap_i64]; omega
theorem wr_u64 (n : Int) : IntKind.u64.wrap n = n % 18446744073709551616 := by simp [IntKind.wrap, IntKind.bits, IntKind.signed]
theorem bx_u32 (a b : Nat) (ha : a < 2 ^ 32) (hb : b < 2 ^ 32) : Go.bits .xor .u32 a b = ((a ^^^ b : Nat) : Int) := bits_xor_nat .u32 32 (by decide) wr_u32 a b ha hb
theorem bx_u8 (a b : Nat) (ha : a < 2 ^ 8) (hb : b < 2 ^ 8) : Go.bits .xor .u8 a b = ((a ^^^ b : Nat) : Int) := bits_xor_nat .u8 8 (by decide) wr_u8 a b ha hb
theorem bx_i64 (a b : Nat) (ha : a < 2 ^ 63) (hb : b < 2 ^ 63) : Go.bits .xor .i64 a b = ((a ^^^ b : Nat) : Int) := bits_xor_nat .i64 63 (by decide) wr_i64 a b ha hb
theorem bo_i64 (a b : Nat) (ha : a < 2 ^ 63) (hb : b < 2 ^ 63) : Go.bits .or .i64 a b = ((a ||| b : Nat) : Int) := (bits_nat .i64 63 (by decide) wr_i64 a b ha hb).2
theorem bo_u8 (a b : Nat) (ha : a < 2 ^ 8) (hb : b < 2 ^ 8) : Go.bits .or .u8 a b = ((a ||| b : Nat) : Int) := (bits_nat .u8 8 (by decide) wr_u8 a b ha hb).2
theorem ba_u8 (a b : Nat) (ha : a < 2 ^ 8) (hb : b < 2 ^ 8) : Go.bits .and .u8 a b = ((a &&& b : Nat) : Int) := (bits_nat .u8 8 (by decide) wr_u8 a b ha hb).1
theorem ba_u32 (a b : Nat) (ha : a < 2 ^ 32) (hb : b < 2 ^ 32) : Go.bits .and .u32 a b = ((a &&& b : Nat) : Int) := (bits_nat .u32 32 (by decide) wr_u32 a b ha hb).1
theorem max_u32 : IntKind.u32.max = ((4294967295 : Nat) : Int) := by decide
theorem wf_u8 {x : Int} (h : (Lit.int .u8 x).wf = true) : 0 ≤ x ∧ x < 256 := by
  simp [Lit.wf, IntKind.min, IntKind.max, IntKind.signed, IntKind.bits] at h; omega
theorem wf_u16 {x : Int} (h : (Lit.int .u16 x).wf = true) : 0 ≤ x ∧ x < 65536 := by
  simp [Lit.wf, IntKind.min, IntKind.max, IntKind.signed, IntKind.bits] at h; omega
theorem wf_u32 {x : Int} (h : (Lit.int .u32 x).wf = true) : 0 ≤ x ∧ x < 4294967296 := by
  simp [Lit.wf, IntKind.min, IntKind.max, IntKind.signed, IntKind.bits] at h; omega
theorem wf_u64 {x : Int} (h : (Lit.int .u64 x).wf = true) : 0 ≤ x ∧ x < 18446744073709551616 := by
  simp [Lit.wf, IntKind.min, IntKind.max, IntKind.signed, IntKind.bits] at h; omega
theorem wf_i64 {x : Int} (h : (Lit.int .i64 x).wf = true) : -9223372036854775808 ≤ x ∧ x < 9223372036854775808 := by
  simp [Lit.wf, IntKind.min, IntKind.max, IntKind.signed, IntKind.bits] at h; omega

def ints (l : List Nat) : List Int := l.map fun n : Nat => (n : Int)
theorem ints_length (l : List Nat) : (ints l).length = l.length := by unfold ints; simp
theorem ints_append (a b : List Nat) : ints (a ++ b) = ints a ++ ints b := by unfold ints; simp
def nats (l : List Int) : List Nat := l.map Int.toNat
def Bytes (l : List Int) : Prop := ∀ x ∈ l, 0 ≤ x ∧ x < 256
theorem bytes_wf {l : List Int} (h : ∀ x ∈ l, (Lit.int .u8 x).wf = true) : Bytes l := fun x hx => wf_u8 (h x hx)
theorem nats_length (l : List Int) : (nats l).length = l.length := by unfold nats; simp
theorem nats_ints (l : List Nat) : nats (ints l) = l := by
  unfold nats ints; rw [List.map_map]
  conv => rhs; rw [← List.map_id l]
  apply List.map_congr_left; intro a _; simp
theorem ints_nats {l : List Int} (h : Bytes l) : ints (nats l) = l := by
  unfold nats ints; rw [List.map_map]
  conv => rhs; rw [← List.map_id l]
  apply List.map_congr_left; intro a ha
  have := h a ha
  simp; omega
theorem nats_lt {l : List Int} (h : Bytes l) : ∀ c ∈ nats l, c < 256 := by
  intro c hc
  obtain ⟨x, hx, rfl⟩ := List.mem_map.1 hc
  have := h x hx; omega
theorem ints_bytes {l : List Nat} (h : ∀ c ∈ l, c < 256) : Bytes (ints l) := by
  intro x hx
  obtain ⟨c, hc, rfl⟩ := List.mem_map.1 hx
  have := h c hc; omega
theorem nats_append (a b : List Int) : nats (a ++ b) = nats a ++ nats b := by unfold nats; simp
theorem nats_take (l : List Int) (n : Nat) : nats (l.take n) = (nats l).take n := by unfold nats; rw [List.map_take]
theorem nats_drop (l : List Int) (n : Nat) : nats (l.drop n) = (nats l).drop n := by unfold nats; rw [List.map_drop]
theorem rd_at {l : List Int} {i : Nat} (h : i < l.length) : rd l (i : Int) = l[i] := by
  unfold rd; simp [h]
theorem rd_byte {l : List Int} {i : Nat} (h : i < l.length) (hb : Bytes l) : ∃ c : Nat, rd l (i : Int) = c ∧ c < 256 ∧ (nats l).drop i = c :: (nats l).drop (i + 1) := by
  have := hb l[i] (List.getElem_mem h)
  have h2 : i < (nats l).length := by rw [nats_length]; exact h
  refine ⟨l[i].toNat, by rw [rd_at h]; omega, by omega, ?_⟩
  rw [List.drop_eq_getElem_cons h2]
  have h4 : i < (l.map Int.toNat).length := h2
  have h3 : (l.map Int.toNat)[i]'h4 = l[i].toNat := by rw [List.getElem_map]
  rw [← h3]; rfl

def putN (n : Nat) : List Nat := if h : n < 128 then [n] else (n % 128 + 128) :: putN (n / 128)
termination_by n
decreasing_by omega
theorem putN_small {n : Nat} (h : n < 128) : putN n = [n] := by unfold putN; rw [dif_pos h]
theorem putN_more {n : Nat} (h : ¬ n < 128) : putN n = (n % 128 + 128) :: putN (n / 128) := by rw [putN]; rw [dif_neg h]
theorem putN_len : ∀ (m n : Nat), n < 128 ^ (m + 1) → 1 ≤ (putN n).length ∧ (putN n).length ≤ m + 1
  | 0, n, h => by rw [putN_small (by omega)]; simp
  | m + 1, n, h => by
    by_cases h1 : n < 128
    · rw [putN_small h1]; simp
    · rw [putN_more h1]
      have hd : n / 128 < 128 ^ (m + 1) := by rw [Nat.div_lt_iff_lt_mul (by decide)]; rw [Nat.pow_succ] at h; exact h
      have := putN_len m (n / 128) hd
      rw [List.length_cons]
      clear h hd
      omega
theorem putN_len9 {n : Nat} (h : n < 9223372036854775808) : 1 ≤ (putN n).length ∧ (putN n).length ≤ 9 := putN_len 8 n h
theorem putN_lt : ∀ (k n : Nat), n ≤ k → ∀ c ∈ putN n, c < 256
  | 0, n, h, c, hc => by rw [putN_small (by omega)] at hc; simp at hc; omega
  | k + 1, n, h, c, hc => by
    by_cases h1 : n < 128
    · rw [putN_small h1] at hc; simp at hc; omega
    · rw [putN_more h1] at hc
      rcases List.mem_cons.1 hc with rfl | hc
      · omega
      · exact putN_lt k (n / 128) (by omega) c hc
theorem or128 (n : Nat) : Go.bits .or .u8 ((n : Int) % 256) 128 = ((n % 128 + 128 : Nat) : Int) := by
  have e : (n : Int) % 256 = ((n % 256 : Nat) : Int) := by omega
  have h := bo_u8 (n % 256) 128 (by omega) (by omega)
  rw [e]
  refine h.trans ?_
  congr 1
  have h1 : n % 128 < 2 ^ 7 := by omega
  have e2 : 128 + n % 128 = 128 ||| n % 128 := Nat.two_pow_add_eq_or_of_lt h1 1
  by_cases h2 : n % 256 < 128
  · have e3 : n % 256 = n % 128 := by omega
    rw [e3, Nat.or_comm]
    omega
  · have e3 : n % 256 = 128 ||| (n % 128) := by omega
    have e4 : 128 ||| (n % 128) = 128 + n % 128 := by omega
    rw [e3, Nat.or_assoc, Nat.or_comm (n % 128), ← Nat.or_assoc, Nat.or_self, e4]
    omega
theorem put_l0 : ∀ (m n : Nat) (acc : List Int), n < 128 ^ (m + 1) → acc.length + (m + 1) < 140737488355328 →
    Ev (fun k => num_Put.l0 k (n : Int) acc) (acc ++ ints (putN n)) := by
  intro m
  induction m with
  | zero =>
    intro n acc h hl
    have h1 : n < 128 := by omega
    rw [putN_small h1]
    refine Ev.step (f := fun _ => some _) (fun k => ?_) (Ev.now _)
    simp only [num_Put.l0]
    rw [if_neg (by omega), if_pos (by omega), show (n : Int) % 256 = n by omega]; rfl
  | succ m ih =>
    intro n acc h hl
    by_cases h1 : n < 128
    · rw [putN_small h1]
      refine Ev.step (f := fun _ => some _) (fun k => ?_) (Ev.now _)
      simp only [num_Put.l0]
      clear h
      rw [if_neg (by omega), if_pos (by omega), show (n : Int) % 256 = n by omega]; rfl
    · have hd : n / 128 < 128 ^ (m + 1) := by rw [Nat.div_lt_iff_lt_mul (by decide)]; rw [Nat.pow_succ] at h; exact h
      have h2 := ih (n / 128) (acc ++ [((n % 128 + 128 : Nat) : Int)]) hd (by rw [List.length_append, List.length_singleton]; omega)
      rw [putN_more h1]
      rw [List.append_assoc] at h2
      refine Ev.step (fun k => ?_) h2
      simp only [num_Put.l0]
      clear h hd
      rw [if_pos (by omega), if_pos (by omega), or128]
      rfl
theorem put_ev (n : Nat) (h : n < 9223372036854775808) : Ev (fun k => num_Put.f k (n : Int)) (ints (putN n)) := by
  have := put_l0 8 n [] h (by decide)
  refine Ev.congr (fun k => ?_) this
  unfold num_Put.f; rw [if_neg (by omega)]

def getN : Nat → List Nat → Option (Nat × Nat)
  | 0, _ => none
  | _ + 1, [] => none
  | m + 1, c :: r => if c > 127 then (getN m r).map (fun p => (c - 128 + 128 * p.1, p.2 + 1)) else if c = 0 ∧ m ≠ 8 then none else some (c, 1)
def tell (acc i at_ : Nat) : Option (Nat × Nat) → Int × Int × Bool
  | none => (0, 0, false)
  | some (v, n) => (((acc + 2 ^ (7 * i) * v : Nat) : Int), ((at_ + i + n : Nat) : Int), true)
theorem and127 (c : Nat) (h : c < 256) : Go.bits .and .u8 (c : Int) 127 = ((c % 128 : Nat) : Int) := by
  have := ba_u8 c 127 h (by decide)
  rw [show (127 : Nat) = 2 ^ 7 - 1 from rfl, Nat.and_two_pow_sub_one_eq_mod] at this
  exact this
theorem acc_or (acc d i : Nat) (h : acc < 2 ^ (7 * i)) (hd : d < 128) (hi : i ≤ 8) :
    Go.bits .or .i64 (acc : Int) (shl .i64 (wrap64 (d : Int)) (wrap64 (7 * (i : Int)))) = ((acc + 2 ^ (7 * i) * d : Nat) : Int) := by
  have e1 : wrap64 (d : Int) = d := w64 (by omega) (by omega)
  have e2 : wrap64 (7 * (i : Int)) = ((7 * i : Nat) : Int) := by unfold wrap64; omega
  have hP : 2 ^ (7 * i) ≤ 2 ^ 56 := Nat.pow_le_pow_right (by decide) (by omega)
  have hm : 2 ^ (7 * i) * d < 2 ^ 63 := by
    have h1 : 2 ^ (7 * i) * d ≤ 2 ^ 56 * 127 := Nat.mul_le_mul hP (by omega)
    exact Nat.lt_of_le_of_lt h1 (by decide)
  have ha : acc < 2 ^ 63 := Nat.lt_of_lt_of_le h (Nat.le_trans hP (by decide))
  have e3 : shl .i64 (d : Int) ((7 * i : Nat) : Int) = ((2 ^ (7 * i) * d : Nat) : Int) := by
    unfold shl
    rw [Int.toNat_natCast, Nat.min_eq_left (by show 7 * i ≤ 64; omega)]
    have : (d : Int) * 2 ^ (7 * i) = ((2 ^ (7 * i) * d : Nat) : Int) := by rw [Int.natCast_mul, Int.mul_comm]; simp
    rw [this]
    exact wr_i64 _ (Int.natCast_nonneg _) (by exact_mod_cast hm)
  rw [e1, e2, e3, bo_i64 _ _ ha hm]
  congr 1
  have := Nat.two_pow_add_eq_or_of_lt h d
  rw [Nat.or_comm, ← this, Nat.add_comm]
theorem acc_lt (acc d i : Nat) (h : acc < 2 ^ (7 * i)) (hd : d < 128) : acc + 2 ^ (7 * i) * d < 2 ^ (7 * (i + 1)) := by
  have e : 2 ^ (7 * (i + 1)) = 2 ^ (7 * i) * 128 := by rw [Nat.mul_add, Nat.pow_add]
  rw [e]
  generalize 2 ^ (7 * i) = P at h ⊢
  have : P * d ≤ P * 127 := Nat.mul_le_mul_left _ (by omega)
  omega
theorem tell_more (acc i at_ d : Nat) (o : Option (Nat × Nat)) : tell acc i at_ (o.map (fun p => (d + 128 * p.1, p.2 + 1))) = tell (acc + 2 ^ (7 * i) * d) (i + 1) at_ o := by
  cases o with
  | none => rfl
  | some p =>
    obtain ⟨v, n⟩ := p
    simp only [tell, Option.map_some]
    have e : 2 ^ (7 * (i + 1)) = 2 ^ (7 * i) * 128 := by rw [Nat.mul_add, Nat.pow_add]
    rw [e, Nat.mul_add, ← Nat.mul_assoc, ← Nat.add_assoc, show at_ + (i + 1) + n = at_ + i + (n + 1) by omega]
theorem get_l0 (l : List Int) (hb : Bytes l) (hl : l.length < 2 ^ 48) (at_ : Nat) (hat : at_ < 2 ^ 62) : ∀ (m i acc : Nat), i + m = 9 → acc < 2 ^ (7 * i) →
    Ev (fun k => num_Get.l0 k l (at_ : Int) (acc : Int) (i : Int)) (tell acc i at_ (getN m ((nats l).drop (at_ + i)))) := by
  intro m
  induction m with
  | zero =>
    intro i acc hi ha
    refine Ev.step (f := fun _ => some _) (fun k => ?_) (Ev.now _)
    simp only [num_Get.l0]
    have p : ¬ (i : Int) < 9 := by omega
    rw [if_neg p]; simp only [getN, tell]
  | succ m ih =>
    intro i acc hi ha
    have p1 : (i : Int) < 9 := by omega
    by_cases hin : at_ + i < l.length
    · have p2 : ¬ (at_ : Int) ≥ wrap64 ((l.length : Int) - (i : Int)) := by unfold wrap64; omega
      have p3 : wrap64 ((at_ : Int) + (i : Int)) = ((at_ + i : Nat) : Int) := by unfold wrap64; omega
      have p4 : (0 : Int) ≤ ((at_ + i : Nat) : Int) := by omega
      have p5 : ((at_ + i : Nat) : Int) < (l.length : Int) := by omega
      have p6 : 0 ≤ wrap64 (7 * (i : Int)) := by rw [w64 (by omega) (by omega)]; omega
      have p7 : wrap64 ((i : Int) + 1) = ((i + 1 : Nat) : Int) := by unfold wrap64; omega
      have p8 : wrap64 (((at_ + i : Nat) : Int) + 1) = ((at_ + i + 1 : Nat) : Int) := by unfold wrap64; omega
      have him : (m = 8) = (i = 0) := by rw [eq_iff_iff]; omega
      obtain ⟨c, hc, hc1, hc2⟩ := rd_byte (l := l) (i := at_ + i) hin hb
      have hor := acc_or acc (c % 128) i ha (Nat.mod_lt _ (by decide)) (by omega)
      have hlt := acc_lt acc (c % 128) i ha (Nat.mod_lt _ (by decide))
      rw [hc2]
      have head : ∀ k, num_Get.l0 (k + 1) l (at_ : Int) (acc : Int) (i : Int) = (if (c : Int) > 127 then (num_Get.l0 k l (at_ : Int) ((acc + 2 ^ (7 * i) * (c % 128) : Nat) : Int) ((i + 1 : Nat) : Int)) else (if (c : Int) = 0 then (if (i : Int) > 0 then (some (0, 0, false)) else (some (((acc + 2 ^ (7 * i) * (c % 128) : Nat) : Int), ((at_ + i + 1 : Nat) : Int), true))) else (some (((acc + 2 ^ (7 * i) * (c % 128) : Nat) : Int), ((at_ + i + 1 : Nat) : Int), true)))) := by
        intro k
        simp only [num_Get.l0]
        rw [if_pos p1, if_neg p2, p3, if_pos p4, if_pos p5, if_pos p6, hc, and127 c hc1, hor, p7, p8]
      by_cases hc3 : c > 127
      · have q1 : (c : Int) > 127 := by omega
        have q2 : c % 128 = c - 128 := by omega
        have h := ih (i + 1) (acc + 2 ^ (7 * i) * (c % 128)) (by omega) hlt
        rw [← tell_more, q2, ← Nat.add_assoc] at h
        simp only [getN]
        rw [if_pos hc3]
        refine Ev.step (fun k => ?_) h
        rw [head, if_pos q1, q2]
      · have q1 : ¬ (c : Int) > 127 := by omega
        have q2 : c % 128 = c := by omega
        simp only [getN]
        rw [if_neg hc3]
        refine Ev.step (f := fun _ => some _) (fun k => ?_) (Ev.now _)
        rw [head, if_neg q1, q2]
        by_cases hz : c = 0
        · have q3 : (c : Int) = 0 := by omega
          rw [if_pos q3]
          by_cases hi0 : i = 0
          · have q4 : ¬ (i : Int) > 0 := by omega
            rw [if_neg q4, if_neg (by intro h; exact h.2 (him.mpr hi0))]; rfl
          · have q4 : (i : Int) > 0 := by omega
            rw [if_pos q4, if_pos ⟨hz, fun h => hi0 (him.mp h)⟩]; rfl
        · have q3 : ¬ (c : Int) = 0 := by omega
          rw [if_neg q3, if_neg (fun h => hz h.1)]; rfl
    · have p2 : (at_ : Int) ≥ wrap64 ((l.length : Int) - (i : Int)) := by unfold wrap64; omega
      rw [List.drop_of_length_le (by rw [nats_length]; omega)]
      refine Ev.step (f := fun _ => some _) (fun k => ?_) (Ev.now _)
      simp only [num_Get.l0]
      rw [if_pos p1, if_pos p2]; simp only [getN, tell]
def told (at_ : Nat) : Option (Nat × Nat) → Int × Int × Bool
  | none => (0, 0, false)
  | some (v, n) => ((v : Int), ((at_ + n : Nat) : Int), true)
theorem tell_told (at_ : Nat) (o : Option (Nat × Nat)) : tell 0 0 at_ o = told at_ o := by
  cases o with
  | none => rfl
  | some p =>
    obtain ⟨v, n⟩ := p
    simp only [tell, told, Nat.mul_zero, Nat.pow_zero, Nat.one_mul, Nat.zero_add, Nat.add_zero]
theorem get_ev (l : List Int) (hb : Bytes l) (hl : l.length < 2 ^ 48) (at_ : Nat) (hat : at_ < 2 ^ 62) : Ev (fun k => num_Get.f k l (at_ : Int)) (told at_ (getN 9 ((nats l).drop at_))) := by
  have h := get_l0 l hb hl at_ hat 9 0 0 (by omega) (by decide)
  rw [tell_told, Nat.add_zero] at h
  have p : ¬ (at_ : Int) < 0 := by omega
  exact Ev.congr (fun k => by unfold num_Get.f; rw [if_neg p]; rfl) h

theorem get_put : ∀ (m n : Nat) (r : List Nat), n < 128 ^ (m + 1) → (m = 8 ∨ 0 < n) → getN (m + 1) (putN n ++ r) = some (n, (putN n).length)
  | m, n, r, h, hz => by
    by_cases h1 : n < 128
    · rw [putN_small h1, List.singleton_append, getN, if_neg (by omega), if_neg (by omega)]; rfl
    · rw [putN_more h1, List.cons_append, getN, if_pos (by omega)]
      cases m with
      | zero => omega
      | succ m =>
        have hd : n / 128 < 128 ^ (m + 1) := by rw [Nat.div_lt_iff_lt_mul (by decide)]; rw [Nat.pow_succ] at h; exact h
        rw [get_put m (n / 128) r hd (by omega)]
        simp only [Option.map_some, List.length_cons]
        congr 2
        clear hd h hz
        omega
theorem get_put9 (n : Nat) (r : List Nat) (h : n < 9223372036854775808) : getN 9 (putN n ++ r) = some (n, (putN n).length) := get_put 8 n r h (.inl rfl)
theorem get_cut : ∀ (m n : Nat), getN m ((putN n).take ((putN n).length - 1)) = none
  | 0, _ => rfl
  | m + 1, n => by
    by_cases h1 : n < 128
    · rw [putN_small h1]; rfl
    · have h2 := get_cut m (n / 128)
      rw [putN_more h1]
      have h3 : 1 ≤ (putN (n / 128)).length := by
        unfold putN; split <;> simp
      have e : (((n % 128 + 128) :: putN (n / 128)).take (((n % 128 + 128) :: putN (n / 128)).length - 1)) = (n % 128 + 128) :: (putN (n / 128)).take ((putN (n / 128)).length - 1) := by
        rw [List.length_cons, show (putN (n / 128)).length + 1 - 1 = ((putN (n / 128)).length - 1) + 1 by omega, List.take_succ_cons]
      rw [e, getN, if_pos (by omega), h2]; rfl

theorem strOf_bytes (s : ByteArray) : strOfNums (bytesOf s) = s := by
  unfold strOfNums bytesOf
  rw [List.map_map]
  have : s.data.toList.map ((fun n : Int => UInt8.ofNat n.toNat) ∘ fun b : UInt8 => (b.toNat : Int)) = s.data.toList := by
    conv => rhs; rw [← List.map_id s.data.toList]
    apply List.map_congr_left; intro a _; simp
  rw [this]
theorem bytesOf_bytes (s : ByteArray) : Bytes (bytesOf s) := by
  intro x hx
  obtain ⟨c, _, rfl⟩ := List.mem_map.1 hx
  have := c.toNat_lt
  omega
def textI (s : ByteArray) : List Int := ints (putN s.size) ++ bytesOf s
theorem textI_length (s : ByteArray) : (textI s).length = (putN s.size).length + s.size := by
  unfold textI; rw [List.length_append, ints_length, bytesOf_length]
theorem textI_bytes (s : ByteArray) : Bytes (textI s) := by
  intro x hx
  rcases List.mem_append.1 hx with h | h
  · exact ints_bytes (putN_lt _ _ (Nat.le_refl _)) x h
  · exact bytesOf_bytes s x h
theorem puttext_ev (s : ByteArray) (h : s.size ≤ 1099511627776) : Ev (fun k => num_PutText.f k s) (textI s) := by
  have h1 := put_ev s.size (by omega)
  have h9 := putN_len9 (n := s.size) (by omega)
  have p : (ints (putN s.size)).length + s.size < 140737488355328 := by rw [ints_length]; omega
  exact Ev.congr (fun k => rfl) (Ev.bind h1 (Ev.congr (fun k => by rw [if_pos p]; rfl) (Ev.now _)))
def toldT (l : List Int) (at_ : Nat) : Option (Nat × Nat) → ByteArray × Int × Bool
  | none => ((⟨#[]⟩ : ByteArray), 0, false)
  | some (v, n) => if l.length < at_ + n + v then ((⟨#[]⟩ : ByteArray), 0, false) else (strOfNums ((l.take (at_ + n + v)).drop (at_ + n)), ((at_ + n + v : Nat) : Int), true)
theorem getN_bound : ∀ (m : Nat) (l : List Nat) (v n : Nat), (∀ c ∈ l, c < 256) → getN m l = some (v, n) → v < 128 ^ m ∧ 1 ≤ n ∧ n ≤ l.length
  | 0, _, _, _, _, h => by simp [getN] at h
  | m + 1, [], _, _, _, h => by simp [getN] at h
  | m + 1, c :: r, v, n, hl, h => by
    have hc := hl c (by simp)
    rw [getN] at h
    by_cases h1 : c > 127
    · rw [if_pos h1] at h
      obtain ⟨p, hp, he⟩ := Option.map_eq_some_iff.1 h
      obtain ⟨h2, h3, h4⟩ := getN_bound m r p.1 p.2 (fun x hx => hl x (by simp [hx])) hp
      simp only [Prod.mk.injEq] at he
      obtain ⟨rfl, rfl⟩ := he
      rw [List.length_cons, Nat.pow_succ]
      refine ⟨?_, by omega, by omega⟩
      omega
    · rw [if_neg h1] at h
      split at h
      · cases h
      · simp only [Option.some.injEq, Prod.mk.injEq] at h
        obtain ⟨rfl, rfl⟩ := h
        rw [List.length_cons]
        refine ⟨?_, by omega, by omega⟩
        have : 128 ^ 1 ≤ 128 ^ (m + 1) := Nat.pow_le_pow_right (by decide) (by omega)
        omega
theorem gettext_ev (l : List Int) (hb : Bytes l) (hl : l.length < 2 ^ 48) (at_ : Nat) (hat : at_ < 2 ^ 62) : Ev (fun k => num_GetText.f k l (at_ : Int)) (toldT l at_ (getN 9 ((nats l).drop at_))) := by
  have h := get_ev l hb hl at_ hat
  refine Ev.congr (fun k => rfl) (Ev.bind h (f := fun k (bt119 : Int × Int × Bool) => (if bt119.2.2 = true then (if bt119.1 > (wrap64 ((l.length : Int) - bt119.2.1)) then (some ((⟨#[]⟩ : ByteArray), 0, false)) else (if 0 ≤ bt119.2.1 then (if bt119.2.1 ≤ (wrap64 (bt119.2.1 + bt119.1)) then (if (wrap64 (bt119.2.1 + bt119.1)) ≤ (l.length : Int) then (some (strOfNums ((l.take ((wrap64 (bt119.2.1 + bt119.1)) : Int).toNat).drop (bt119.2.1 : Int).toNat), wrap64 (bt119.2.1 + bt119.1), true)) else (none)) else (none)) else (none))) else (some ((⟨#[]⟩ : ByteArray), 0, false)))) ?_)
  cases ho : getN 9 ((nats l).drop at_) with
  | none => exact Ev.congr (f := fun _ => some _) (fun k => by rw [if_neg (show ¬ (told at_ none).2.2 = true by simp [told])]; rfl) (Ev.now _)
  | some p =>
    obtain ⟨v, n⟩ := p
    obtain ⟨hv, hn1, hn2⟩ := getN_bound 9 _ v n (fun c hc => nats_lt hb c (List.mem_of_mem_drop hc)) ho
    rw [List.length_drop, nats_length] at hn2
    have hv2 : v < 9223372036854775808 := hv
    clear hv
    have et : told at_ (some (v, n)) = ((v : Int), ((at_ + n : Nat) : Int), true) := rfl
    rw [et]
    simp only [toldT]
    have p0 : (0 : Int) ≤ ((at_ + n : Nat) : Int) := by omega
    by_cases hlt : l.length < at_ + n + v
    · have p1 : (v : Int) > wrap64 ((l.length : Int) - ((at_ + n : Nat) : Int)) := by rw [w64 (by omega) (by omega)]; omega
      rw [if_pos hlt]
      exact Ev.congr (f := fun _ => some _) (fun k => by simp only [if_true, if_pos p1]) (Ev.now _)
    · have p1 : ¬ (v : Int) > wrap64 ((l.length : Int) - ((at_ + n : Nat) : Int)) := by rw [w64 (by omega) (by omega)]; omega
      have p2 : wrap64 (((at_ + n : Nat) : Int) + (v : Int)) = ((at_ + n + v : Nat) : Int) := by rw [w64 (by omega) (by omega)]; omega
      have p3 : ((at_ + n : Nat) : Int) ≤ ((at_ + n + v : Nat) : Int) := by omega
      have p4 : ((at_ + n + v : Nat) : Int) ≤ (l.length : Int) := by omega
      rw [if_neg hlt]
      exact Ev.congr (f := fun _ => some _) (fun k => by simp only [if_true, if_neg p1, if_pos p0, p2, if_pos p3, if_pos p4, Int.toNat_natCast]) (Ev.now _)

/-! ### numbers and texts, put and read -/
theorem eqB_l0 (a b : List Int) (hl : a.length ≤ 1000000000) (he : a.length = b.length) : ∀ (d i : Nat), i + d = a.length → ∃ r : Bool, Ev (fun k => slices_Equal_byte_byte.l0 k a b (a.length : Int) (i : Int)) r ∧ (r = true ↔ a.drop i = b.drop i)
  | 0, i, hd => by
    refine ⟨true, Ev.step (f := fun _ => some true) (fun k => by rw [slices_Equal_byte_byte.l0, if_neg (by omega)]) (Ev.now _), ?_⟩
    rw [List.drop_of_length_le (by omega), List.drop_of_length_le (by omega)]; simp
  | d + 1, i, hd => by
    have hi : i < a.length := by omega
    have ew : wrap64 ((i : Int) + 1) = ((i + 1 : Nat) : Int) := by rw [w64 (by omega) (by omega)]; omega
    obtain ⟨r, h1, h2⟩ := eqB_l0 a b hl he d (i + 1) (by omega)
    have ea : a.drop i = rd a (i : Int) :: a.drop (i + 1) := by rw [rd_at hi, List.drop_eq_getElem_cons hi]
    have eb : b.drop i = rd b (i : Int) :: b.drop (i + 1) := by rw [rd_at (show i < b.length by omega), List.drop_eq_getElem_cons (by omega)]
    by_cases c : rd a (i : Int) = rd b (i : Int)
    · refine ⟨r, Ev.step (fun k => ?_) h1, ?_⟩
      · rw [slices_Equal_byte_byte.l0, if_pos (by omega), if_pos (by omega), if_pos (by omega), if_pos (by omega), if_pos c, ew]
      · rw [ea, eb, h2, c]; simp
    · refine ⟨false, Ev.step (f := fun _ => some false) (fun k => ?_) (Ev.now _), ?_⟩
      · rw [slices_Equal_byte_byte.l0, if_pos (by omega), if_pos (by omega), if_pos (by omega), if_pos (by omega), if_neg c]
      · rw [ea, eb]
        constructor
        · intro h; cases h
        · intro h; injection h with h _; exact absurd h c
theorem eqB_ev (a b : List Int) (hl : a.length ≤ 1000000000) : ∃ r : Bool, Ev (fun k => slices_Equal_byte_byte.f k a b) r ∧ (r = true ↔ a = b) := by
  unfold slices_Equal_byte_byte.f
  by_cases c : a.length = b.length
  · obtain ⟨r, h1, h2⟩ := eqB_l0 a b hl c a.length 0 (by omega)
    rw [List.drop_zero, List.drop_zero] at h2
    exact ⟨r, Ev.congr (fun k => by rw [if_pos (by omega)]; rfl) h1, h2⟩
  · refine ⟨false, Ev.congr (fun k => by rw [if_neg (by omega)]) (Ev.now _), ?_⟩
    constructor
    · intro h; cases h
    · intro h; exact absurd (congrArg List.length h) c
def numR (l : List Int) (p : Nat) : Option (Nat × Nat) := (getN 9 ((nats l).drop p)).map fun q => (q.1, p + q.2)
def textR (l : List Int) (p : Nat) : Option (ByteArray × Nat) := (getN 9 ((nats l).drop p)).bind fun q => if l.length < p + q.2 + q.1 then none else some (strOfNums ((l.take (p + q.2 + q.1)).drop (p + q.2)), p + q.2 + q.1)
theorem num_ev (l : List Int) (hb : Bytes l) (hl : l.length ≤ 1000000) (p : Nat) (hp : p ≤ l.length) :
    (∃ v q, numR l p = some (v, q) ∧ q ≤ l.length ∧ v < 9223372036854775808 ∧ Ev (fun k => num_Get.f k l (p : Int)) ((v : Int), (q : Int), true)) ∨ (numR l p = none ∧ ∃ a b, Ev (fun k => num_Get.f k l (p : Int)) (a, b, false)) := by
  have h := get_ev l hb (by omega) p (by omega)
  unfold numR
  cases ho : getN 9 ((nats l).drop p) with
  | none => rw [ho] at h; exact Or.inr ⟨rfl, _, _, h⟩
  | some q =>
    obtain ⟨v, n⟩ := q
    obtain ⟨g1, g2, g3⟩ := getN_bound 9 _ v n (fun c hc => nats_lt hb c (List.mem_of_mem_drop hc)) ho
    rw [List.length_drop, nats_length] at g3
    rw [ho] at h
    refine Or.inl ⟨v, p + n, rfl, by omega, g1, ?_⟩
    exact h
theorem text_ev (l : List Int) (hb : Bytes l) (hl : l.length ≤ 1000000) (p : Nat) (hp : p ≤ l.length) :
    (∃ s q, textR l p = some (s, q) ∧ q ≤ l.length ∧ s.size ≤ l.length ∧ Ev (fun k => num_GetText.f k l (p : Int)) (s, (q : Int), true)) ∨ (textR l p = none ∧ ∃ a b, Ev (fun k => num_GetText.f k l (p : Int)) (a, b, false)) := by
  have h := gettext_ev l hb (by omega) p (by omega)
  unfold textR
  cases ho : getN 9 ((nats l).drop p) with
  | none => rw [ho] at h; exact Or.inr ⟨rfl, _, _, h⟩
  | some q =>
    obtain ⟨v, n⟩ := q
    rw [ho] at h
    rw [Option.bind_some]
    simp only [toldT] at h
    by_cases c : l.length < p + n + v
    · rw [if_pos c] at h
      rw [if_pos c]
      exact Or.inr ⟨rfl, _, _, h⟩
    · rw [if_neg c] at h
      rw [if_neg c]
      refine Or.inl ⟨_, _, rfl, by omega, ?_, h⟩
      rw [strOfNums_size, List.length_drop, List.length_take]; omega
theorem nats_at (A B : List Int) : (nats (A ++ B)).drop A.length = nats B := by
  rw [nats_append, List.drop_append_of_le_length (by rw [nats_length]; exact Nat.le_refl _), List.drop_of_length_le (by rw [nats_length]; exact Nat.le_refl _), List.nil_append]
theorem numR_at (A R : List Int) (v : Nat) (h : v < 9223372036854775808) : numR (A ++ (ints (putN v) ++ R)) A.length = some (v, A.length + (putN v).length) := by
  unfold numR
  rw [nats_at, nats_append, nats_ints, get_put9 v (nats R) h]; rfl
theorem textR_at (A R : List Int) (s : ByteArray) (h : s.size ≤ 1000000) : textR (A ++ (textI s ++ R)) A.length = some (s, A.length + (textI s).length) := by
  unfold textR
  have e0 : textI s ++ R = ints (putN s.size) ++ (bytesOf s ++ R) := by unfold textI; rw [List.append_assoc]
  have hl : (textI s).length = (putN s.size).length + s.size := textI_length s
  rw [e0, nats_at, nats_append, nats_ints, get_put9 s.size _ (by omega), Option.bind_some]
  dsimp only
  have hlen : (A ++ (ints (putN s.size) ++ (bytesOf s ++ R))).length = A.length + (putN s.size).length + s.size + R.length := by
    rw [List.length_append, List.length_append, List.length_append, ints_length, bytesOf_length]; omega
  rw [hlen, if_neg (by omega), hl]
  have e1 : ((A ++ (ints (putN s.size) ++ (bytesOf s ++ R))).take (A.length + (putN s.size).length + s.size)).drop (A.length + (putN s.size).length) = bytesOf s := by
    rw [List.drop_take, show A.length + (putN s.size).length + s.size - (A.length + (putN s.size).length) = s.size by omega]
    have e2 : A ++ (ints (putN s.size) ++ (bytesOf s ++ R)) = (A ++ ints (putN s.size)) ++ (bytesOf s ++ R) := by rw [List.append_assoc]
    have e3 : (A ++ ints (putN s.size)).length = A.length + (putN s.size).length := by rw [List.length_append, ints_length]
    rw [e2, ← e3, List.drop_left, List.take_append_of_le_length (by rw [bytesOf_length]; exact Nat.le_refl _), List.take_of_length_le (by rw [bytesOf_length]; exact Nat.le_refl _)]
  rw [e1, strOf_bytes, Nat.add_assoc]
theorem textI_len (s : ByteArray) (h : s.size ≤ 100000) : (textI s).length ≤ 9 + s.size := by
  rw [textI_length]
  have := putN_len9 (n := s.size) (by omega)
  omega

/-! ### edit.May -/
theorem within_eq (a lo hi : Int) : edit_within.f a lo hi = some (decide (lo ≤ a ∧ a ≤ hi)) := by
  unfold edit_within.f
  by_cases c : a ≥ lo
  · rw [if_pos c]
    by_cases d : a ≤ hi
    · rw [decide_eq_true d, decide_eq_true ⟨c, d⟩]
    · rw [decide_eq_false d, decide_eq_false (fun h => d h.2)]
  · rw [if_neg c, decide_eq_false (fun h => c h.1)]
def okNum (lo a : Int) : Bool := decide (lo ≤ a ∧ a ≤ 9007199254740992)
def mayT (t : S31) : Bool := okNum 1 t.f0 && (okNum 0 t.f1 && (decide (0 ≤ t.f2 ∧ t.f2 ≤ 4) && (decide ((t.f3.size : Int) ≤ 64) && (decide ((t.f4.size : Int) ≤ 64) && (!(Op.bytesLess t.f4.toList t.f3.toList) && (decide (0 ≤ t.f5 ∧ t.f5 ≤ 1048576) && (decide (1 ≤ t.f6 ∧ t.f6 ≤ 256) && (t.f7 || t.f8))))))))
theorem mayT_eq (x0 x1 x2 : Int) (x3 x4 : ByteArray) (x5 x6 : Int) (x7 x8 : Bool) : edit_MayTable.f x0 x1 x2 x3 x4 x5 x6 x7 x8 = some (mayT ⟨x0, x1, x2, x3, x4, x5, x6, x7, x8⟩) := by
  unfold edit_MayTable.f mayT okNum
  simp only [within_eq, Option.bind_some]
  generalize decide (1 ≤ x0 ∧ x0 ≤ 9007199254740992) = p0
  generalize decide (0 ≤ x1 ∧ x1 ≤ 9007199254740992) = p1
  generalize decide (0 ≤ x2 ∧ x2 ≤ 4) = p2
  generalize decide (0 ≤ x5 ∧ x5 ≤ 1048576) = p5
  generalize decide (1 ≤ x6 ∧ x6 ≤ 256) = p6
  generalize Op.bytesLess x4.toList x3.toList = pl
  by_cases c3 : (x3.size : Int) ≤ 64 <;> by_cases c4 : (x4.size : Int) ≤ 64 <;> simp only [c3, c4, if_true, if_false, decide_true, decide_false] <;> cases p0 <;> cases p1 <;> cases p2 <;> cases pl <;> cases p5 <;> cases p6 <;> cases x7 <;> cases x8 <;> rfl
theorem idxT (l : List S31) (hl : l.length ≤ 100000) : ∀ (d i : Nat), i + d = l.length → ∃ r : Int, Ev (fun k => api_Table_70.l0 k l (l.length : Int) (i : Int)) r ∧ (r ≥ 0 ↔ (l.drop i).all mayT = false)
  | 0, i, hd => by
    refine ⟨-1, Ev.step (f := fun _ => some (-1)) (fun k => by rw [api_Table_70.l0, if_neg (by omega)]) (Ev.now _), ?_⟩
    rw [List.drop_of_length_le (by omega)]; simp
  | d + 1, i, hd => by
    have hi : i < l.length := by omega
    obtain ⟨r, h1, h2⟩ := idxT l hl d (i + 1) (by omega)
    have ew : wrap64 ((i : Int) + 1) = ((i + 1 : Nat) : Int) := by rw [w64 (by omega) (by omega)]; omega
    have ed : l.drop i = rd_T31 l (i : Int) :: l.drop (i + 1) := by rw [rdE31_get l i hi, List.drop_eq_getElem_cons hi]
    obtain ⟨t, et⟩ : ∃ t, rd_T31 l (i : Int) = t := ⟨_, rfl⟩
    rw [ed, et, List.all_cons]
    cases c : mayT t with
    | false =>
      refine ⟨(i : Int), Ev.step (f := fun _ => some (i : Int)) (fun k => ?_) (Ev.now _), by simp⟩
      rw [api_Table_70.l0, if_pos (by omega), if_pos (by omega), if_pos (by omega), et]
      unfold edit_May_1.f
      rw [mayT_eq, Option.bind_some, Option.bind_some, c]; rfl
    | true =>
      refine ⟨r, Ev.step (fun k => ?_) h1, by rw [h2]; simp⟩
      rw [api_Table_70.l0, if_pos (by omega), if_pos (by omega), if_pos (by omega), et]
      unfold edit_May_1.f
      rw [mayT_eq, Option.bind_some, Option.bind_some, c, ew]; rfl
theorem idxI (l : List Int) (hl : l.length ≤ 100000) : ∀ (d i : Nat), i + d = l.length → ∃ r : Int, Ev (fun k => slices_IndexFunc_int_int.l0 k l (l.length : Int) (i : Int)) r ∧ (r ≥ 0 ↔ (l.drop i).all (okNum 1) = false)
  | 0, i, hd => by
    refine ⟨-1, Ev.step (f := fun _ => some (-1)) (fun k => by rw [slices_IndexFunc_int_int.l0, if_neg (by omega)]) (Ev.now _), ?_⟩
    rw [List.drop_of_length_le (by omega)]; simp
  | d + 1, i, hd => by
    have hi : i < l.length := by omega
    obtain ⟨r, h1, h2⟩ := idxI l hl d (i + 1) (by omega)
    have ew : wrap64 ((i : Int) + 1) = ((i + 1 : Nat) : Int) := by rw [w64 (by omega) (by omega)]; omega
    have ed : l.drop i = rd l (i : Int) :: l.drop (i + 1) := by rw [rd_at hi, List.drop_eq_getElem_cons hi]
    obtain ⟨t, et⟩ : ∃ t, rd l (i : Int) = t := ⟨_, rfl⟩
    rw [ed, et, List.all_cons]
    have ek : edit_May_2.f t = some (!(okNum 1 t)) := by unfold edit_May_2.f; rw [within_eq]; rfl
    cases c : okNum 1 t with
    | false =>
      refine ⟨(i : Int), Ev.step (f := fun _ => some (i : Int)) (fun k => ?_) (Ev.now _), by simp⟩
      rw [slices_IndexFunc_int_int.l0, if_pos (by omega), if_pos (by omega), if_pos (by omega), et, ek, Option.bind_some, c]; rfl
    | true =>
      refine ⟨r, Ev.step (fun k => ?_) h1, by rw [h2]; simp⟩
      rw [slices_IndexFunc_int_int.l0, if_pos (by omega), if_pos (by omega), if_pos (by omega), et, ek, Option.bind_some, c, ew]; rfl
def mayE (a0 a1 a2 a3 : Int) (l4 : List S31) (l5 : List Int) : Bool := okNum 0 a0 && (okNum 0 a1 && (okNum 0 a2 && (okNum 0 a3 && (decide ((l4.length : Int) ≤ 256) && (decide ((l5.length : Int) ≤ 256) && (l4.all mayT && l5.all (okNum 1)))))))
theorem may_last (a0 a1 a2 a3 : Int) (y : List Int) (hy : y.length = 4) (l4 : List S31) (l5 : List Int) :
    Ev (fun k => edit_May.l0 k y 4 4 a0 a1 a2 a3 l4 l5) (decide ((l4.length : Int) ≤ 256) && (decide ((l5.length : Int) ≤ 256) && (l4.all mayT && l5.all (okNum 1)))) := by
  by_cases c4 : (l4.length : Int) ≤ 256
  · by_cases c5 : (l5.length : Int) ≤ 256
    · obtain ⟨r, h1, h2⟩ := idxT l4 (by omega) l4.length 0 (by omega)
      obtain ⟨s, g1, g2⟩ := idxI l5 (by omega) l5.length 0 (by omega)
      rw [List.drop_zero] at h2 g2
      rw [decide_eq_true c4, decide_eq_true c5, Bool.true_and, Bool.true_and]
      refine Ev.step (f := fun k => (api_Table_58.f k l4).bind fun t => (if t = true then (some false) else ((slices_ContainsFunc_int_int.f k l5).bind fun t123 => (some (!t123))))) (fun k => by rw [edit_May.l0, if_neg (by decide), if_pos c4, if_pos c5]) ?_
      refine Ev.bind (a := decide (r ≥ 0)) (Ev.bind h1 (Ev.now _)) ?_
      cases e : l4.all mayT with
      | false =>
        rw [decide_eq_true (h2.2 e), Bool.false_and]
        exact Ev.now _
      | true =>
        have : ¬ r ≥ 0 := fun h => by rw [h2.1 h] at e; cases e
        rw [decide_eq_false this, Bool.true_and]
        refine Ev.congr (f := fun k => (slices_ContainsFunc_int_int.f k l5).bind fun t123 => (some (!t123))) (fun k => rfl) (Ev.bind (a := decide (s ≥ 0)) (Ev.bind g1 (Ev.now _)) ?_)
        cases e2 : l5.all (okNum 1) with
        | false => rw [decide_eq_true (g2.2 e2)]; exact Ev.now _
        | true =>
          have : ¬ s ≥ 0 := fun h => by rw [g2.1 h] at e2; cases e2
          rw [decide_eq_false this]; exact Ev.now _
    · rw [decide_eq_false c5, Bool.false_and, Bool.and_false]
      exact Ev.step (f := fun _ => some false) (fun k => by rw [edit_May.l0, if_neg (by decide), if_pos c4, if_neg c5]) (Ev.now _)
  · rw [decide_eq_false c4, Bool.false_and]
    exact Ev.step (f := fun _ => some false) (fun k => by rw [edit_May.l0, if_neg (by decide), if_neg c4]) (Ev.now _)
theorem may_step (a0 a1 a2 a3 : Int) (y : List Int) (hy : y.length = 4) (l4 : List S31) (l5 : List Int) (i : Nat) (hi : i < 4) (x : Int) (hx : rd y (i : Int) = x) {r : Bool}
    (h : Ev (fun k => edit_May.l0 k y 4 ((i + 1 : Nat) : Int) a0 a1 a2 a3 l4 l5) r) : Ev (fun k => edit_May.l0 k y 4 (i : Int) a0 a1 a2 a3 l4 l5) (okNum 0 x && r) := by
  have ew : wrap64 ((i : Int) + 1) = ((i + 1 : Nat) : Int) := by rw [w64 (by omega) (by omega)]; omega
  have ek : edit_within.f x 0 9007199254740992 = some (okNum 0 x) := within_eq _ _ _
  cases c : okNum 0 x with
  | false =>
    rw [Bool.false_and]
    refine Ev.step (f := fun _ => some false) (fun k => ?_) (Ev.now _)
    rw [edit_May.l0, if_pos (by omega), if_pos (by omega), if_pos (by omega), hx, ek, Option.bind_some, c]; rfl
  | true =>
    rw [Bool.true_and]
    refine Ev.step (fun k => ?_) h
    rw [edit_May.l0, if_pos (by omega), if_pos (by omega), if_pos (by omega), hx, ek, Option.bind_some, c, ew]; rfl
theorem may_ev (a0 a1 a2 a3 : Int) (l4 : List S31) (l5 : List Int) : Ev (fun k => edit_May.f k a0 a1 a2 a3 l4 l5) (mayE a0 a1 a2 a3 l4 l5) := by
  have h4 := may_last a0 a1 a2 a3 [a0, a1, a2, a3] rfl l4 l5
  have h3 := may_step a0 a1 a2 a3 [a0, a1, a2, a3] rfl l4 l5 3 (by omega) a3 rfl h4
  have h2 := may_step a0 a1 a2 a3 [a0, a1, a2, a3] rfl l4 l5 2 (by omega) a2 rfl h3
  have h1 := may_step a0 a1 a2 a3 [a0, a1, a2, a3] rfl l4 l5 1 (by omega) a1 rfl h2
  have h0 := may_step a0 a1 a2 a3 [a0, a1, a2, a3] rfl l4 l5 0 (by omega) a0 rfl h1
  exact Ev.congr (fun k => rfl) h0

/-! ### tables by numbers -/
def keyB (n : Nat) : ByteArray := ⟨#[107, UInt8.ofNat (48 + n / 10), UInt8.ofNat (48 + n % 10)]⟩
theorem key_all : ∀ n : Nat, n < 40 → iceboxlaw17_key.f 5 (n : Int) = some (keyB n) := by decide +kernel
theorem key_ev (x : Int) (h0 : 0 ≤ x) (h1 : x < 40) : Ev (fun k => iceboxlaw17_key.f k x) (keyB x.toNat) := by
  have h := key_all x.toNat (by omega)
  rw [Int.toNat_of_nonneg h0] at h
  exact Ev.of (fun k => iceboxlaw17_key.mono x k) h
theorem key_up : ∀ m : Nat, m < 40 → ∀ n : Nat, n < 40 → m ≤ n → Op.bytesLess (keyB n).data.toList (keyB m).data.toList = false := by decide +kernel
theorem key_a : ∀ m : Nat, m < 40 → Op.bytesLess [97] (keyB m).data.toList = true := by decide +kernel
def tabOf (i : Nat) (a b c : Int) : S31 := ⟨1 + (i : Int), b % 3, c % 5, keyB (a % 30).toNat, keyB (a % 30 + b % 8).toNat, 10 * (1 + b), 1 + b, (c % 3) != 0, (c % 3) != 1⟩
def tabsOf : Nat → List Int → List S31
  | i, a :: b :: c :: r => if i < 20 then tabOf i a b c :: tabsOf (i + 1) r else []
  | _, _ => []
theorem tm (a : Int) (h : 0 ≤ a) (n : Int) (hn : 0 < n) : Int.tmod a n = a % n := Int.tmod_eq_emod_of_nonneg h
theorem tabsOf_short (i : Nat) : ∀ r : List Int, r.length ≤ 2 → tabsOf i r = []
  | [], _ => by rw [tabsOf]; intros; simp_all
  | [_], _ => by rw [tabsOf]; intros; simp_all
  | [_, _], _ => by rw [tabsOf]; intros; simp_all
  | _ :: _ :: _ :: _, h => by simp only [List.length_cons] at h; omega
theorem tabs_end (l acc : List Int) (z : Int) (a : List S31) : Ev (fun k => iceboxlaw17_Tables.j1 k l a z false) a := Ev.step (f := fun _ => some a) (fun k => by rw [iceboxlaw17_Tables.j1, if_neg Bool.false_ne_true]) (Ev.now _)
theorem w64s {x : Int} (h : 0 ≤ x ∧ x < 1000000) : wrap64 x = x := w64 (by omega) (by omega)
theorem tabs_one (l : List Int) (hl : l.length < 2 ^ 48) (i : Nat) (hi : i < 20) (h2 : 3 * i + 2 < l.length) (acc : List S31) (hacc : acc.length ≤ 200) (a b c : Int) (ra : rd l ((3 * i : Nat) : Int) = a) (rb : rd l ((3 * i + 1 : Nat) : Int) = b) (rc : rd l ((3 * i + 2 : Nat) : Int) = c)
    (ha : 0 ≤ a ∧ a < 256) (hbb : 0 ≤ b ∧ b < 256) (hc : 0 ≤ c ∧ c < 256) {res : List S31} (h : Ev (fun k => iceboxlaw17_Tables.l0 k l (acc ++ [tabOf i a b c]) ((3 * (i + 1) : Nat) : Int)) res) :
    Ev (fun k => iceboxlaw17_Tables.l0 k l acc ((3 * i : Nat) : Int)) res := by
  have RA := Aside0.mk ra
  have RB := Aside0.mk rb
  have RC := Aside0.mk rc
  clear ra rb rc
  have k1 := key_ev (a % 30) (by omega) (by omega)
  have k2 := key_ev (a % 30 + b % 8) (by omega) (by omega)
  have p1 : (0 : Int) ≤ ((3 * i : Nat) : Int) := by omega
  have p2 : ((3 * i : Nat) : Int) < (l.length : Int) := by omega
  have p3 : (0 : Int) ≤ ((3 * i + 1 : Nat) : Int) := by omega
  have p4 : ((3 * i + 1 : Nat) : Int) < (l.length : Int) := by omega
  have p5 : (0 : Int) ≤ ((3 * i + 2 : Nat) : Int) := by omega
  have p6 : ((3 * i + 2 : Nat) : Int) < (l.length : Int) := by omega
  have p7 : ((3 * i : Nat) : Int) < 60 := by omega
  have p8 : acc.length < 1759218604441 := by omega
  have t1 := tm a (by omega) 30 (by decide)
  have t2 := tm b (by omega) 8 (by decide)
  have t3 := tm b (by omega) 3 (by decide)
  have t4 := tm c (by omega) 5 (by decide)
  have t5 := tm c (by omega) 3 (by decide)
  have et : Int.tdiv ((3 * i : Nat) : Int) 3 = (i : Int) := by rw [Int.tdiv_eq_ediv_of_nonneg p1]; omega
  have g2 : ((3 * i : Nat) : Int) + 2 = ((3 * i + 2 : Nat) : Int) := by omega
  have g1 : ((3 * i : Nat) : Int) + 1 = ((3 * i + 1 : Nat) : Int) := by omega
  have g3 : ((3 * i : Nat) : Int) + 3 = ((3 * (i + 1) : Nat) : Int) := by omega
  have b2 : (0 : Int) ≤ ((3 * i + 2 : Nat) : Int) ∧ ((3 * i + 2 : Nat) : Int) < 1000000 := by omega
  have b1 : (0 : Int) ≤ ((3 * i + 1 : Nat) : Int) ∧ ((3 * i + 1 : Nat) : Int) < 1000000 := by omega
  have b3 : (0 : Int) ≤ ((3 * (i + 1) : Nat) : Int) ∧ ((3 * (i + 1) : Nat) : Int) < 1000000 := by omega
  have bi : (0 : Int) ≤ (i : Int) ∧ (i : Int) < 1000000 := by omega
  have bi1 : (0 : Int) ≤ 1 + (i : Int) ∧ 1 + (i : Int) < 1000000 := by omega
  have ba : 0 ≤ a ∧ a < 1000000 := by omega
  have bb : 0 ≤ b ∧ b < 1000000 := by omega
  have bc : 0 ≤ c ∧ c < 1000000 := by omega
  have bb1 : 0 ≤ 1 + b ∧ 1 + b < 1000000 := by omega
  have bb2 : 0 ≤ 10 * (1 + b) ∧ 10 * (1 + b) < 1000000 := by omega
  have bs : 0 ≤ a % 30 + b % 8 ∧ a % 30 + b % 8 < 1000000 := by omega
  have e2 : wrap64 (((3 * i : Nat) : Int) + 2) = ((3 * i + 2 : Nat) : Int) := g2 ▸ w64s b2
  have e1 : wrap64 (((3 * i : Nat) : Int) + 1) = ((3 * i + 1 : Nat) : Int) := g1 ▸ w64s b1
  have e3 : wrap64 (((3 * i : Nat) : Int) + 3) = ((3 * (i + 1) : Nat) : Int) := g3 ▸ w64s b3
  have ea := w64s ba
  have eb := w64s bb
  have ec := w64s bc
  have ei := w64s bi
  have ei1 := w64s bi1
  have eb1 := w64s bb1
  have eb2 := w64s bb2
  have es := w64s bs
  refine Ev.step (f := fun k => iceboxlaw17_Tables.j1 k l acc ((3 * i : Nat) : Int) true) (fun k => by rw [iceboxlaw17_Tables.l0, e2, if_pos p6, decide_eq_true p7]) ?_
  refine Ev.step (f := fun k => (iceboxlaw17_key.f k (a % 30)).bind fun t183 => (iceboxlaw17_key.f k (a % 30 + b % 8)).bind fun t184 => if acc.length < 1759218604441 then iceboxlaw17_Tables.l0 k l (acc ++ [(⟨1 + (i : Int), b % 3, c % 5, t183, t184, 10 * (1 + b), 1 + b, (c % 3) != 0, (c % 3) != 1⟩ : S31)]) ((3 * (i + 1) : Nat) : Int) else none) (fun k => ?_) ?_
  · rw [iceboxlaw17_Tables.j1, if_pos rfl, e1, e2, e3, if_pos p1, if_pos p2, if_pos p3, if_pos p4, if_pos p5, if_pos p6, RA.out, RB.out, RC.out, ea, eb, ec, et, ei, ei1, eb1, eb2, t1, t2, t3, t4, t5, es]
  · unfold tabOf at h
    exact Ev.bind k1 (Ev.bind k2 (Ev.congr (fun k => if_pos p8) h))
theorem tabs_l0 (l : List Int) (hl : l.length < 2 ^ 48) (hb : Bytes l) : ∀ (d i : Nat) (acc : List S31), i + d = 20 → acc.length ≤ 100 + i → 3 * i ≤ l.length → Ev (fun k => iceboxlaw17_Tables.l0 k l acc ((3 * i : Nat) : Int)) (acc ++ tabsOf i (l.drop (3 * i))) := by
  intro d
  induction d with
  | zero =>
    intro i acc hd hacc hil
    have e2 : wrap64 (((3 * i : Nat) : Int) + 2) = ((3 * i + 2 : Nat) : Int) := by rw [w64 (by omega) (by omega)]; omega
    have hz : tabsOf i (l.drop (3 * i)) = [] := by
      by_cases h2 : 3 * i + 2 < l.length
      · have q0 : 3 * i < l.length := by omega
        have q1 : 3 * i + 1 < l.length := by omega
        rw [List.drop_eq_getElem_cons q0, List.drop_eq_getElem_cons q1, List.drop_eq_getElem_cons h2, tabsOf, if_neg (by omega)]
      · exact tabsOf_short i _ (by rw [List.length_drop]; omega)
    rw [hz, List.append_nil]
    refine Ev.step (fun k => ?_) (tabs_end l [] ((3 * i : Nat) : Int) acc)
    by_cases h2 : ((3 * i + 2 : Nat) : Int) < (l.length : Int)
    · rw [iceboxlaw17_Tables.l0, e2, if_pos h2, decide_eq_false (by omega)]
    · rw [iceboxlaw17_Tables.l0, e2, if_neg h2]
  | succ d ihd =>
    intro i acc hd hacc hil
    have e2 : wrap64 (((3 * i : Nat) : Int) + 2) = ((3 * i + 2 : Nat) : Int) := by rw [w64 (by omega) (by omega)]; omega
    by_cases h2 : 3 * i + 2 < l.length
    · have q0 : 3 * i < l.length := by omega
      have q1 : 3 * i + 1 < l.length := by omega
      have ed : l.drop (3 * i) = l[3 * i] :: l[3 * i + 1] :: l[3 * i + 2] :: l.drop (3 * (i + 1)) := by
        rw [show 3 * (i + 1) = 3 * i + 2 + 1 by omega, List.drop_eq_getElem_cons q0, List.drop_eq_getElem_cons q1, List.drop_eq_getElem_cons h2]
      rw [ed, tabsOf]
      have ih := ihd (i + 1) (acc ++ [tabOf i l[3 * i] l[3 * i + 1] l[3 * i + 2]]) (by omega) (by rw [List.length_append, List.length_singleton]; omega) (by omega)
      rw [List.append_assoc, List.singleton_append] at ih
      rw [if_pos (by omega)]
      exact tabs_one l hl i (by omega) h2 acc (by omega) _ _ _ (rd_at q0) (rd_at q1) (rd_at h2) (hb _ (List.getElem_mem q0)) (hb _ (List.getElem_mem q1)) (hb _ (List.getElem_mem h2)) ih
    · rw [tabsOf_short i _ (by rw [List.length_drop]; omega), List.append_nil]
      refine Ev.step (fun k => ?_) (tabs_end l [] ((3 * i : Nat) : Int) acc)
      rw [iceboxlaw17_Tables.l0, e2, if_neg (by omega)]
theorem tabs_ev (l : List Int) (hl : l.length < 2 ^ 48) (hb : Bytes l) : Ev (fun k => iceboxlaw17_Tables.f k l) (tabsOf 0 l) := by
  have h := tabs_l0 l hl hb 20 0 [] (by omega) (by simp) (by omega)
  rw [List.nil_append] at h
  exact h
theorem tabOf_may (i : Nat) (hi : i < 20) (a b c : Int) (ha : 0 ≤ a ∧ a < 256) (hb : 0 ≤ b ∧ b < 256) (hc : 0 ≤ c ∧ c < 256) : mayT (tabOf i a b c) = true := by
  unfold mayT tabOf okNum
  dsimp only
  have e3 : (keyB (a % 30).toNat).size = 3 := rfl
  have e4 : (keyB (a % 30 + b % 8).toNat).size = 3 := rfl
  have e5 : Op.bytesLess (keyB (a % 30 + b % 8).toNat).toList (keyB (a % 30).toNat).toList = false := by
    rw [Go.ByteArray.toList_eq, Go.ByteArray.toList_eq]
    exact key_up _ (by omega) _ (by omega) (by omega)
  rw [e3, e4, e5, decide_eq_true (by omega), decide_eq_true (by omega), decide_eq_true (by omega), decide_eq_true (by omega), decide_eq_true (by omega), decide_eq_true (by omega)]
  have e7 : ((c % 3 != 0) || (c % 3 != 1)) = true := by
    by_cases h : c % 3 = 0
    · rw [h]; rfl
    · rw [show (c % 3 != 0) = true from bne_iff_ne.2 h, Bool.true_or]
  rw [e7]; rfl
theorem awake_now : iceboxlaw17_awake.f 60 = some true := by decide +kernel
theorem awake_ev : Ev (fun k => iceboxlaw17_awake.f k) true := Ev.of (fun k => iceboxlaw17_awake.mono k) awake_now

/-! ### edit.Put -/
def numB (l : List Int) : List Int := l.flatMap fun x => ints (putN x.toNat)
def whB (x y : Bool) : Int := if x = true then (if y = true then 3 else 1) else if y = true then 2 else 0
def tabB (t : S31) : List Int := numB [t.f0, t.f1, t.f2] ++ textI t.f3 ++ textI t.f4 ++ numB [t.f5, t.f6, whB t.f7 t.f8]
def eB (a0 a1 a2 a3 : Int) (l4 : List S31) (l5 : List Int) : List Int := numB [a0, a1, a2, a3, (l4.length : Int)] ++ l4.flatMap tabB ++ numB [(l5.length : Int)] ++ numB l5
def Num (x : Int) : Prop := 0 ≤ x ∧ x < 9223372036854775808
theorem numB_cons (x : Int) (l : List Int) : numB (x :: l) = ints (putN x.toNat) ++ numB l := by unfold numB; rw [List.flatMap_cons]
theorem numB_len : ∀ l : List Int, (∀ x ∈ l, Num x) → (numB l).length ≤ 9 * l.length
  | [], _ => Nat.le_refl _
  | x :: t, h => by
    have := numB_len t (fun y hy => h y (List.mem_cons_of_mem _ hy))
    have h1 := h x (by simp)
    have := (putN_len9 (n := x.toNat) (by unfold Num at h1; omega)).2
    rw [numB_cons, List.length_append, ints_length, List.length_cons]; omega
theorem pencs_ev : ∀ l : List Int, (∀ x ∈ l, Num x) → Ev (fun k => pencs k l) (numB l)
  | [], _ => Ev.now _
  | x :: t, h => by
    have ih := pencs_ev t (fun y hy => h y (List.mem_cons_of_mem _ hy))
    have h1 := h x (by simp)
    have hp := put_ev x.toNat (by unfold Num at h1; omega)
    rw [Int.toNat_of_nonneg h1.1] at hp
    rw [numB_cons]
    exact Ev.congr (fun k => rfl) (Ev.bind hp (Ev.bind ih (Ev.now _)))
theorem mayT_parts {t : S31} (h : mayT t = true) : (1 ≤ t.f0 ∧ t.f0 ≤ 9007199254740992) ∧ (0 ≤ t.f1 ∧ t.f1 ≤ 9007199254740992) ∧ (0 ≤ t.f2 ∧ t.f2 ≤ 4) ∧ (t.f3.size : Int) ≤ 64 ∧ (t.f4.size : Int) ≤ 64 ∧ (0 ≤ t.f5 ∧ t.f5 ≤ 1048576) ∧ (1 ≤ t.f6 ∧ t.f6 ≤ 256) := by
  unfold mayT okNum at h
  simp only [Bool.and_eq_true, decide_eq_true_eq] at h
  obtain ⟨h0, h1, h2, h3, h4, _, h5, h6, _⟩ := h
  exact ⟨h0, h1, h2, h3, h4, h5, h6⟩
theorem whB_num (x y : Bool) : Num (whB x y) := by unfold Num whB; cases x <;> cases y <;> decide
theorem mem3 {a b c : Int} (ha : Num a) (hb : Num b) (hc : Num c) : ∀ x ∈ [a, b, c], Num x := by
  intro x hx
  simp only [List.mem_cons, List.not_mem_nil, or_false] at hx
  rcases hx with rfl | rfl | rfl <;> assumption
theorem tab_ev {t : S31} (h : mayT t = true) : Ev (fun k => encT k t) (tabB t) := by
  obtain ⟨h0, h1, h2, h3, h4, h5, h6⟩ := mayT_parts h
  have p1 := pencs_ev [t.f0, t.f1, t.f2] (mem3 (by unfold Num; omega) (by unfold Num; omega) (by unfold Num; omega))
  have p2 := pencs_ev [t.f5, t.f6, whB t.f7 t.f8] (mem3 (by unfold Num; omega) (by unfold Num; omega) (whB_num _ _))
  have q1 := puttext_ev t.f3 (by omega)
  have q2 := puttext_ev t.f4 (by omega)
  have w : edit_where.f t.f0 t.f1 t.f2 t.f3 t.f4 t.f5 t.f6 t.f7 t.f8 = some (whB t.f7 t.f8) := by
    unfold edit_where.f whB; cases t.f7 <;> cases t.f8 <;> rfl
  unfold tabB
  refine Ev.congr (fun k => rfl) (Ev.bind p1 (Ev.bind q1 (Ev.bind q2 ?_)))
  exact Ev.congr (fun k => by rw [w, Option.bind_some]) (Ev.bind p2 (Ev.now _))
theorem tabB_len {t : S31} (h : mayT t = true) : (tabB t).length ≤ 200 := by
  obtain ⟨h0, h1, h2, h3, h4, h5, h6⟩ := mayT_parts h
  have p1 := numB_len [t.f0, t.f1, t.f2] (mem3 (by unfold Num; omega) (by unfold Num; omega) (by unfold Num; omega))
  have p2 := numB_len [t.f5, t.f6, whB t.f7 t.f8] (mem3 (by unfold Num; omega) (by unfold Num; omega) (whB_num _ _))
  have q1 := textI_len t.f3 (by omega)
  have q2 := textI_len t.f4 (by omega)
  simp only [List.length_cons, List.length_nil] at p1 p2
  unfold tabB
  simp only [List.length_append]; omega
theorem tabs_enc : ∀ l : List S31, l.all mayT = true → Ev (fun k => encTs k l) (l.flatMap tabB)
  | [], _ => Ev.now _
  | t :: r, h => by
    rw [List.all_cons, Bool.and_eq_true] at h
    rw [List.flatMap_cons]
    exact Ev.congr (fun k => rfl) (Ev.bind (tab_ev h.1) (Ev.bind (tabs_enc r h.2) (Ev.now _)))
theorem tabs_len : ∀ l : List S31, l.all mayT = true → (l.flatMap tabB).length ≤ 200 * l.length
  | [], _ => Nat.le_refl _
  | t :: r, h => by
    rw [List.all_cons, Bool.and_eq_true] at h
    have := tabB_len h.1
    have := tabs_len r h.2
    rw [List.flatMap_cons, List.length_append, List.length_cons]; omega
theorem mayE_parts {a0 a1 a2 a3 : Int} {l4 : List S31} {l5 : List Int} (h : mayE a0 a1 a2 a3 l4 l5 = true) : (∀ x ∈ [a0, a1, a2, a3, (l4.length : Int)], Num x) ∧ l4.length ≤ 256 ∧ l5.length ≤ 256 ∧ l4.all mayT = true ∧ (∀ x ∈ l5, Num x) := by
  unfold mayE okNum at h
  simp only [Bool.and_eq_true, decide_eq_true_eq] at h
  obtain ⟨h0, h1, h2, h3, h4, h5, h6, h7⟩ := h
  refine ⟨?_, by omega, by omega, h6, ?_⟩
  · intro x hx
    simp only [List.mem_cons, List.not_mem_nil, or_false] at hx
    unfold Num
    rcases hx with rfl | rfl | rfl | rfl | rfl <;> omega
  · intro x hx
    have := List.all_eq_true.1 h7 x hx
    simp only [decide_eq_true_eq] at this
    unfold Num; omega
theorem eB_len {a0 a1 a2 a3 : Int} {l4 : List S31} {l5 : List Int} (h : mayE a0 a1 a2 a3 l4 l5 = true) : (eB a0 a1 a2 a3 l4 l5).length ≤ 60000 := by
  obtain ⟨h1, h2, h3, h4, h5⟩ := mayE_parts h
  have e1 := numB_len _ h1
  have e2 := tabs_len l4 h4
  have e3 := numB_len [(l5.length : Int)] (by intro x hx; simp only [List.mem_singleton] at hx; subst hx; unfold Num; omega)
  have e4 := numB_len l5 h5
  simp only [List.length_cons, List.length_nil] at e1 e3
  unfold eB
  simp only [List.length_append]; omega
theorem put_good {a0 a1 a2 a3 : Int} {l4 : List S31} {l5 : List Int} (h : mayE a0 a1 a2 a3 l4 l5 = true) : Ev (fun k => edit_Put.f k a0 a1 a2 a3 l4 l5) (eB a0 a1 a2 a3 l4 l5) := by
  have hm := may_ev a0 a1 a2 a3 l4 l5
  rw [h] at hm
  obtain ⟨h1, h2, h3, h4, h5⟩ := mayE_parts h
  have hl := eB_len h
  have p1 := pencs_ev _ h1
  have p3 := pencs_ev [(l5.length : Int)] (by intro x hx; simp only [List.mem_singleton] at hx; subst hx; unfold Num; omega)
  refine Ev.congr (fun k => rfl) (Ev.bind hm (Ev.congr (f := fun k => putEd k a0 a1 a2 a3 l4 l5) (fun k => if_pos rfl) ?_))
  refine Ev.congr (fun k => rfl) (Ev.bind p1 (Ev.bind (tabs_enc l4 h4) (Ev.bind p3 (Ev.bind (pencs_ev l5 h5) ?_))))
  exact Ev.congr (fun k => if_pos ⟨by omega, by omega, by unfold eB at hl; omega⟩) (Ev.now _)
theorem put_bad {a0 a1 a2 a3 : Int} {l4 : List S31} {l5 : List Int} (h : mayE a0 a1 a2 a3 l4 l5 = false) : Ev (fun k => edit_Put.f k a0 a1 a2 a3 l4 l5) [] := by
  have h1 := may_ev a0 a1 a2 a3 l4 l5
  rw [h] at h1
  exact Ev.congr (fun k => rfl) (Ev.bind h1 (Ev.congr (f := fun _ => some []) (fun k => if_neg Bool.false_ne_true) (Ev.now _)))
def putP (a0 a1 a2 a3 : Int) (l4 : List S31) (l5 : List Int) : List Int := if mayE a0 a1 a2 a3 l4 l5 = true then eB a0 a1 a2 a3 l4 l5 else []
theorem putP_ev (a0 a1 a2 a3 : Int) (l4 : List S31) (l5 : List Int) : Ev (fun k => edit_Put.f k a0 a1 a2 a3 l4 l5) (putP a0 a1 a2 a3 l4 l5) ∧ (putP a0 a1 a2 a3 l4 l5).length ≤ 60000 := by
  unfold putP
  cases h : mayE a0 a1 a2 a3 l4 l5 with
  | true => rw [if_pos rfl]; exact ⟨put_good h, eB_len h⟩
  | false => rw [if_neg Bool.false_ne_true]; exact ⟨put_bad h, Nat.zero_le _⟩

/-! ### edit.Get -/
theorem ev_uniq {α : Type} {g : Nat → Option α} (hg : ∀ k, LeO (g k) (g (k + 1))) {r x : α} (h : Ev g r) {k : Nat} (hx : g k = some x) : x = r := by
  obtain ⟨K, hK⟩ := h
  have a := hK (max k K) (Nat.le_max_right ..)
  have b := at_rounds hg (Nat.le_max_left k K) hx
  rw [a] at b
  exact (Option.some.inj b).symm
theorem gN_eq {k : Nat} {b : List Int} (hb : Bytes b) (hl : b.length ≤ 1000000) (ht : tot k b = true) {a : Nat} (ha : a ≤ b.length) : gN k b a = (numR b a).map fun q => ((q.1 : Int), q.2) := by
  obtain ⟨x, hx⟩ := okN_some (tot_1 ht ha).1
  unfold gN
  rw [hx]
  rcases num_ev b hb hl a ha with ⟨v, q, e1, _, _, h1⟩ | ⟨e1, v, q, h1⟩
  · rw [ev_uniq (fun k => num_Get.mono _ _ k) h1 hx, e1]; rfl
  · rw [ev_uniq (fun k => num_Get.mono _ _ k) h1 hx, e1]; rfl
theorem gT_eq {k : Nat} {b : List Int} (hb : Bytes b) (hl : b.length ≤ 1000000) (ht : tot k b = true) {a : Nat} (ha : a ≤ b.length) : gT k b a = textR b a := by
  obtain ⟨x, hx⟩ := okT_some (tot_1 ht ha).2
  unfold gT
  rw [hx]
  rcases text_ev b hb hl a ha with ⟨v, q, e1, _, _, h1⟩ | ⟨e1, v, q, h1⟩
  · rw [ev_uniq (fun k => num_GetText.mono _ _ k) h1 hx, e1]; rfl
  · rw [ev_uniq (fun k => num_GetText.mono _ _ k) h1 hx, e1]; rfl
theorem tot_all {b : List Int} (hb : Bytes b) (hl : b.length ≤ 1000000) : ∀ n, n ≤ b.length + 1 → ∃ K, ∀ k, K ≤ k → ∀ a, a < n → (okN b.length (num_Get.f k b (a : Int)) && okT b.length (num_GetText.f k b (a : Int))) = true
  | 0, _ => ⟨0, fun _ _ a ha => absurd ha (Nat.not_lt_zero a)⟩
  | n + 1, h => by
    obtain ⟨K, hK⟩ := tot_all hb hl n (by omega)
    have h1 : ∃ K1, ∀ k, K1 ≤ k → okN b.length (num_Get.f k b (n : Int)) = true := by
      rcases num_ev b hb hl n (by omega) with ⟨v, q, _, hq, _, K1, h1⟩ | ⟨_, v, q, K1, h1⟩
      · exact ⟨K1, fun k hk => by rw [show num_Get.f k b (n : Int) = _ from h1 k hk]; unfold okN; dsimp only; rw [decide_eq_true (show (0 : Int) ≤ (q : Int) by omega), decide_eq_true (show (q : Int) ≤ (b.length : Int) by omega)]; rfl⟩
      · exact ⟨K1, fun k hk => by rw [show num_Get.f k b (n : Int) = _ from h1 k hk]; rfl⟩
    have h2 : ∃ K2, ∀ k, K2 ≤ k → okT b.length (num_GetText.f k b (n : Int)) = true := by
      rcases text_ev b hb hl n (by omega) with ⟨v, q, _, hq, _, K1, h1⟩ | ⟨_, v, q, K1, h1⟩
      · exact ⟨K1, fun k hk => by rw [show num_GetText.f k b (n : Int) = _ from h1 k hk]; unfold okT; dsimp only; rw [decide_eq_true (show (0 : Int) ≤ (q : Int) by omega), decide_eq_true (show (q : Int) ≤ (b.length : Int) by omega)]; rfl⟩
      · exact ⟨K1, fun k hk => by rw [show num_GetText.f k b (n : Int) = _ from h1 k hk]; rfl⟩
    obtain ⟨K1, h1⟩ := h1
    obtain ⟨K2, h2⟩ := h2
    refine ⟨max K (max K1 K2), fun k hk a ha => ?_⟩
    rcases Nat.lt_or_ge a n with c | c
    · exact hK k (by omega) a c
    · have : a = n := by omega
      subst this
      rw [h1 k (by omega), h2 k (by omega)]; rfl
theorem tot_ev {b : List Int} (hb : Bytes b) (hl : b.length ≤ 1000000) : ∃ K, tot K b = true := by
  obtain ⟨K, hK⟩ := tot_all hb hl (b.length + 1) (Nat.le_refl _)
  refine ⟨K, ?_⟩
  unfold tot
  rw [List.all_eq_true]
  exact fun a ha => hK K (Nat.le_refl _) a (List.mem_range.1 ha)
theorem tot_stab {b : List Int} {K : Nat} (h : tot K b = true) : ∀ d, tot (K + d) b = true ∧ getS (K + d) b = getS K b
  | 0 => ⟨h, rfl⟩
  | d + 1 => by
    obtain ⟨h1, h2⟩ := tot_stab h d
    exact ⟨tot_up h1, (getS_up rfl h1).trans h2⟩
theorem numsS_put {k : Nat} : ∀ (vs A R : List Int), (∀ x ∈ vs, Num x) → Bytes (A ++ (numB vs ++ R)) → (A ++ (numB vs ++ R)).length ≤ 1000000 → tot k (A ++ (numB vs ++ R)) = true → numsS k (A ++ (numB vs ++ R)) vs.length A.length = (vs, (A ++ numB vs).length, true)
  | [], A, R, _, _, _, _ => by rw [List.length_nil, numsS_zero]; simp [numB]
  | x :: t, A, R, hv, hb, hl, ht => by
    have h1 := hv x (by simp)
    have e : A ++ (numB (x :: t) ++ R) = (A ++ ints (putN x.toNat)) ++ (numB t ++ R) := by rw [numB_cons]; simp only [List.append_assoc]
    have e0 : A ++ (numB (x :: t) ++ R) = A ++ (ints (putN x.toNat) ++ (numB t ++ R)) := by rw [numB_cons]; simp only [List.append_assoc]
    have g : gN k (A ++ (numB (x :: t) ++ R)) A.length = some (x, (A ++ ints (putN x.toNat)).length) := by
      rw [gN_eq hb hl ht (by rw [List.length_append]; omega), e0, numR_at A _ x.toNat (by unfold Num at h1; omega)]
      simp only [Option.map_some, Int.toNat_of_nonneg h1.1, List.length_append, ints_length]
    rw [List.length_cons, numsS_some _ g]
    rw [e] at hb hl ht ⊢
    rw [numsS_put t _ R (fun y hy => hv y (List.mem_cons_of_mem _ hy)) hb hl ht]
    rw [numB_cons, List.append_assoc]
theorem textS_put {k : Nat} (s : ByteArray) (hs : s.size ≤ 1000) (A R : List Int) (hb : Bytes (A ++ (textI s ++ R))) (hl : (A ++ (textI s ++ R)).length ≤ 1000000) (ht : tot k (A ++ (textI s ++ R)) = true) : textS k (A ++ (textI s ++ R)) A.length = (s, (A ++ textI s).length, true) := by
  refine textS_some ?_
  rw [gT_eq hb hl ht (by rw [List.length_append]; omega), textR_at A R s (by omega), List.length_append]
theorem tableS_put {k : Nat} (t : S31) (hm : mayT t = true) (A R : List Int) (hb : Bytes (A ++ (tabB t ++ R))) (hl : (A ++ (tabB t ++ R)).length ≤ 1000000) (ht : tot k (A ++ (tabB t ++ R)) = true) : tableS k (A ++ (tabB t ++ R)) A.length = (t, (A ++ tabB t).length, true) := by
  obtain ⟨h0, h1, h2, h3, h4, h5, h6⟩ := mayT_parts hm
  have n1 : ∀ x ∈ [t.f0, t.f1, t.f2], Num x := mem3 (by unfold Num; omega) (by unfold Num; omega) (by unfold Num; omega)
  have n2 : ∀ x ∈ [t.f5, t.f6, whB t.f7 t.f8], Num x := mem3 (by unfold Num; omega) (by unfold Num; omega) (whB_num _ _)
  have e1 : A ++ (tabB t ++ R) = A ++ (numB [t.f0, t.f1, t.f2] ++ (textI t.f3 ++ (textI t.f4 ++ (numB [t.f5, t.f6, whB t.f7 t.f8] ++ R)))) := by unfold tabB; simp only [List.append_assoc]
  have e2 : A ++ (tabB t ++ R) = (A ++ numB [t.f0, t.f1, t.f2]) ++ (textI t.f3 ++ (textI t.f4 ++ (numB [t.f5, t.f6, whB t.f7 t.f8] ++ R))) := by unfold tabB; simp only [List.append_assoc]
  have e3 : A ++ (tabB t ++ R) = ((A ++ numB [t.f0, t.f1, t.f2]) ++ textI t.f3) ++ (textI t.f4 ++ (numB [t.f5, t.f6, whB t.f7 t.f8] ++ R)) := by unfold tabB; simp only [List.append_assoc]
  have e4 : A ++ (tabB t ++ R) = (((A ++ numB [t.f0, t.f1, t.f2]) ++ textI t.f3) ++ textI t.f4) ++ (numB [t.f5, t.f6, whB t.f7 t.f8] ++ R) := by unfold tabB; simp only [List.append_assoc]
  have r1 := numsS_put (k := k) [t.f0, t.f1, t.f2] A _ n1 (e1 ▸ hb) (e1 ▸ hl) (e1 ▸ ht)
  rw [← e1] at r1
  have r2 := textS_put (k := k) t.f3 (by omega) _ _ (e2 ▸ hb) (e2 ▸ hl) (e2 ▸ ht)
  rw [← e2] at r2
  have r3 := textS_put (k := k) t.f4 (by omega) _ _ (e3 ▸ hb) (e3 ▸ hl) (e3 ▸ ht)
  rw [← e3] at r3
  have r4 := numsS_put (k := k) [t.f5, t.f6, whB t.f7 t.f8] _ R n2 (e4 ▸ hb) (e4 ▸ hl) (e4 ▸ ht)
  rw [← e4] at r4
  simp only [List.length_cons, List.length_nil, Nat.zero_add, Nat.reduceAdd] at r1 r4
  unfold tableS
  dsimp only
  rw [r1]
  dsimp only
  rw [r2]
  dsimp only
  rw [r3]
  dsimp only
  rw [r4]
  have hw : decide (Go.bits .and .i64 (whB t.f7 t.f8) 1 = 1) = t.f7 ∧ decide (Go.bits .and .i64 (whB t.f7 t.f8) 2 = 2) = t.f8 := by
    cases t.f7 <;> cases t.f8 <;> exact ⟨by decide +kernel, by decide +kernel⟩
  have el : (((A ++ numB [t.f0, t.f1, t.f2]) ++ textI t.f3) ++ textI t.f4 ++ numB [t.f5, t.f6, whB t.f7 t.f8]).length = (A ++ tabB t).length := by unfold tabB; simp only [List.append_assoc]
  rw [el]
  show ((⟨t.f0, t.f1, t.f2, t.f3, t.f4, t.f5, t.f6, decide (Go.bits .and .i64 (whB t.f7 t.f8) 1 = 1), decide (Go.bits .and .i64 (whB t.f7 t.f8) 2 = 2)⟩ : S31), _, _) = _
  rw [hw.1, hw.2]
  rfl
theorem tabsS_put {k : Nat} : ∀ (l : List S31) (A R : List Int), l.all mayT = true → Bytes (A ++ (l.flatMap tabB ++ R)) → (A ++ (l.flatMap tabB ++ R)).length ≤ 1000000 → tot k (A ++ (l.flatMap tabB ++ R)) = true → tabsS k (A ++ (l.flatMap tabB ++ R)) l.length A.length false = (l, (A ++ l.flatMap tabB).length, false)
  | [], A, R, _, _, _, _ => by rw [List.length_nil, tabsS_zero]; simp
  | t :: r, A, R, hm, hb, hl, ht => by
    rw [List.all_cons, Bool.and_eq_true] at hm
    have e : A ++ ((t :: r).flatMap tabB ++ R) = (A ++ tabB t) ++ (r.flatMap tabB ++ R) := by rw [List.flatMap_cons]; simp only [List.append_assoc]
    have e0 : A ++ ((t :: r).flatMap tabB ++ R) = A ++ (tabB t ++ (r.flatMap tabB ++ R)) := by rw [List.flatMap_cons]; simp only [List.append_assoc]
    have g := tableS_put (k := k) t hm.1 A _ (e0 ▸ hb) (e0 ▸ hl) (e0 ▸ ht)
    rw [← e0] at g
    rw [List.length_cons, tabsS_one, g]
    dsimp only
    rw [e] at hb hl ht ⊢
    rw [Bool.not_true, tabsS_put r _ R hm.2 hb hl ht, List.flatMap_cons, List.append_assoc]
theorem dropsS_put {k : Nat} : ∀ (l A R : List Int), (∀ x ∈ l, Num x) → Bytes (A ++ (numB l ++ R)) → (A ++ (numB l ++ R)).length ≤ 1000000 → tot k (A ++ (numB l ++ R)) = true → dropsS k (A ++ (numB l ++ R)) l.length A.length false = (l, (A ++ numB l).length, false)
  | [], A, R, _, _, _, _ => by rw [List.length_nil, dropsS_zero]; simp [numB]
  | x :: r, A, R, hm, hb, hl, ht => by
    have e : A ++ (numB (x :: r) ++ R) = (A ++ numB [x]) ++ (numB r ++ R) := by simp [numB]
    have e0 : A ++ (numB (x :: r) ++ R) = A ++ (numB [x] ++ (numB r ++ R)) := by simp [numB]
    have g := numsS_put (k := k) [x] A (numB r ++ R) (fun y hy => by simp only [List.mem_singleton] at hy; subst hy; exact hm y (by simp)) (e0 ▸ hb) (e0 ▸ hl) (e0 ▸ ht)
    rw [← e0] at g
    simp only [List.length_cons, List.length_nil, Nat.zero_add] at g
    rw [List.length_cons, dropsS_one, g]
    dsimp only
    rw [e] at hb hl ht ⊢
    rw [Bool.not_true, dropsS_put r _ R (fun y hy => hm y (List.mem_cons_of_mem _ hy)) hb hl ht]
    have e2 : A ++ numB [x] ++ numB r = A ++ numB (x :: r) := by simp [numB]
    rw [e2]; rfl
theorem getS_put {k : Nat} {a0 a1 a2 a3 : Int} {l4 : List S31} {l5 : List Int} (hm : mayE a0 a1 a2 a3 l4 l5 = true) (R : List Int) (hb : Bytes (eB a0 a1 a2 a3 l4 l5 ++ R)) (hl : (eB a0 a1 a2 a3 l4 l5 ++ R).length ≤ 1000000) (ht : tot k (eB a0 a1 a2 a3 l4 l5 ++ R) = true) :
    getS k (eB a0 a1 a2 a3 l4 l5 ++ R) = ⟨[a0, a1, a2, a3, (l4.length : Int)], l4, l5, (eB a0 a1 a2 a3 l4 l5).length, false⟩ := by
  obtain ⟨h1, h2, h3, h4, h5⟩ := mayE_parts hm
  have n5 : ∀ x ∈ [(l5.length : Int)], Num x := by intro x hx; simp only [List.mem_singleton] at hx; subst hx; unfold Num; omega
  have e1 : eB a0 a1 a2 a3 l4 l5 ++ R = [] ++ (numB [a0, a1, a2, a3, (l4.length : Int)] ++ (l4.flatMap tabB ++ (numB [(l5.length : Int)] ++ (numB l5 ++ R)))) := by unfold eB; simp only [List.append_assoc, List.nil_append]
  have e2 : eB a0 a1 a2 a3 l4 l5 ++ R = ([] ++ numB [a0, a1, a2, a3, (l4.length : Int)]) ++ (l4.flatMap tabB ++ (numB [(l5.length : Int)] ++ (numB l5 ++ R))) := by unfold eB; simp only [List.append_assoc, List.nil_append]
  have e3 : eB a0 a1 a2 a3 l4 l5 ++ R = (([] ++ numB [a0, a1, a2, a3, (l4.length : Int)]) ++ l4.flatMap tabB) ++ (numB [(l5.length : Int)] ++ (numB l5 ++ R)) := by unfold eB; simp only [List.append_assoc, List.nil_append]
  have e4 : eB a0 a1 a2 a3 l4 l5 ++ R = ((([] ++ numB [a0, a1, a2, a3, (l4.length : Int)]) ++ l4.flatMap tabB) ++ numB [(l5.length : Int)]) ++ (numB l5 ++ R) := by unfold eB; simp only [List.append_assoc, List.nil_append]
  have r1 := numsS_put (k := k) _ [] _ h1 (e1 ▸ hb) (e1 ▸ hl) (e1 ▸ ht)
  rw [← e1] at r1
  have r2 := tabsS_put (k := k) l4 _ _ h4 (e2 ▸ hb) (e2 ▸ hl) (e2 ▸ ht)
  rw [← e2] at r2
  have r3 := numsS_put (k := k) _ _ _ n5 (e3 ▸ hb) (e3 ▸ hl) (e3 ▸ ht)
  rw [← e3] at r3
  have r4 := dropsS_put (k := k) l5 _ R h5 (e4 ▸ hb) (e4 ▸ hl) (e4 ▸ ht)
  rw [← e4] at r4
  simp only [List.length_cons, List.length_nil, Nat.zero_add, Nat.reduceAdd] at r1 r3
  have c4 : capN ((l4.length : Int)) = l4.length := by unfold capN; omega
  have c5 : capN ((l5.length : Int)) = l5.length := by unfold capN; omega
  unfold getS
  dsimp only
  rw [r1]
  dsimp only
  rw [show ([a0, a1, a2, a3, (l4.length : Int)] : List Int).getD 4 0 = (l4.length : Int) from rfl, c4, Bool.not_true, r2]
  dsimp only
  rw [r3]
  dsimp only
  rw [show ([(l5.length : Int)] : List Int).getD 0 0 = (l5.length : Int) from rfl, c5, Bool.not_true, Bool.or_false, r4]
  have el : (((([] ++ numB [a0, a1, a2, a3, (l4.length : Int)]) ++ l4.flatMap tabB) ++ numB [(l5.length : Int)]) ++ numB l5).length = (eB a0 a1 a2 a3 l4 l5).length := by unfold eB; rw [List.nil_append]
  rw [el]
def yP (y : GS) : List Int := putP (y.h.getD 0 0) (y.h.getD 1 0) (y.h.getD 2 0) (y.h.getD 3 0) y.ts y.ds
/-- What Get tells of any bytes. -/
theorem get_any {b : List Int} (hb : Bytes b) (hl : b.length ≤ 1000000) {K : Nat} (hK : tot K b = true) :
    (((getS K b).bad = false ∧ b ≠ [] ∧ yP (getS K b) = b) ∧ Ev (fun k => edit_Get.f k b) ((getS K b).h.getD 0 0, (getS K b).h.getD 1 0, (getS K b).h.getD 2 0, (getS K b).h.getD 3 0, (getS K b).ts, (getS K b).ds, true)) ∨
    (¬ ((getS K b).bad = false ∧ b ≠ [] ∧ yP (getS K b) = b) ∧ Ev (fun k => edit_Get.f k b) (0, 0, 0, 0, ([] : List S31), ([] : List Int), false)) := by
  obtain ⟨y, ey⟩ : ∃ y, getS K b = y := ⟨_, rfl⟩
  rw [ey]
  have hst : ∀ k, K ≤ k → tot k b = true ∧ getS k b = y := fun k hk => by
    have := tot_stab hK (k - K)
    rw [show K + (k - K) = k by omega, ey] at this
    exact this
  have shift : ∀ {r : Int × Int × Int × Int × List S31 × List Int × Bool}, Ev (fun k => if y.bad = true then some (0, 0, 0, 0, ([] : List S31), ([] : List Int), false) else if b.length = 0 then some (0, 0, 0, 0, ([] : List S31), ([] : List Int), false) else (edit_Put.f k (y.h.getD 0 0) (y.h.getD 1 0) (y.h.getD 2 0) (y.h.getD 3 0) y.ts y.ds).bind fun p => (slices_Equal_byte_byte.f k p b).bind fun t => if t = true then some (y.h.getD 0 0, y.h.getD 1 0, y.h.getD 2 0, y.h.getD 3 0, y.ts, y.ds, true) else some (0, 0, 0, 0, ([] : List S31), ([] : List Int), false)) r → Ev (fun k => edit_Get.f k b) r := by
    rintro r ⟨K1, h1⟩
    refine ⟨max K K1, fun k hk => ?_⟩
    obtain ⟨g1, g2⟩ := hst k (by omega)
    show edit_Get.f k b = some r
    unfold edit_Get.f
    rw [if_pos g1, g2]
    exact h1 k (by omega)
  cases hbad : y.bad with
  | true => exact Or.inr ⟨fun h => Bool.noConfusion h.1, shift (Ev.congr (fun k => if_pos hbad) (Ev.now _))⟩
  | false =>
    have hn : ¬ y.bad = true := by rw [hbad]; exact Bool.false_ne_true
    by_cases c : b.length = 0
    · exact Or.inr ⟨fun h => h.2.1 (List.length_eq_zero_iff.1 c), shift (Ev.congr (fun k => by rw [if_neg hn, if_pos c]) (Ev.now _))⟩
    · have hne : b ≠ [] := fun h => c (by rw [h]; rfl)
      obtain ⟨hp, hpl⟩ := putP_ev (y.h.getD 0 0) (y.h.getD 1 0) (y.h.getD 2 0) (y.h.getD 3 0) y.ts y.ds
      obtain ⟨t, h1, h2⟩ := eqB_ev (yP y) b (by unfold yP; omega)
      cases t with
      | true => exact Or.inl ⟨⟨rfl, hne, h2.1 rfl⟩, shift (Ev.congr (fun k => by rw [if_neg hn, if_neg c]) (Ev.bind hp (Ev.bind h1 (Ev.congr (fun k => if_pos rfl) (Ev.now _)))))⟩
      | false => exact Or.inr ⟨fun h => Bool.false_ne_true (h2.2 h.2.2), shift (Ev.congr (fun k => by rw [if_neg hn, if_neg c]) (Ev.bind hp (Ev.bind h1 (Ev.congr (fun k => if_neg Bool.false_ne_true) (Ev.now _)))))⟩

/-! ### told again; cut; with more behind -/
theorem numB_bytes : ∀ l : List Int, Bytes (numB l)
  | [] => by intro x hx; cases hx
  | y :: t => by
    intro x hx
    rw [numB_cons] at hx
    rcases List.mem_append.1 hx with h | h
    · exact ints_bytes (putN_lt _ _ (Nat.le_refl _)) x h
    · exact numB_bytes t x h
theorem bytes_app {a b : List Int} (ha : Bytes a) (hb : Bytes b) : Bytes (a ++ b) := fun x hx => (List.mem_append.1 hx).elim (ha x) (hb x)
theorem tabB_bytes (t : S31) : Bytes (tabB t) := bytes_app (bytes_app (bytes_app (numB_bytes _) (textI_bytes _)) (textI_bytes _)) (numB_bytes _)
theorem tabsB_bytes : ∀ l : List S31, Bytes (l.flatMap tabB)
  | [] => by intro x hx; cases hx
  | t :: r => by rw [List.flatMap_cons]; exact bytes_app (tabB_bytes t) (tabsB_bytes r)
theorem eB_bytes (a0 a1 a2 a3 : Int) (l4 : List S31) (l5 : List Int) : Bytes (eB a0 a1 a2 a3 l4 l5) := bytes_app (bytes_app (bytes_app (numB_bytes _) (tabsB_bytes _)) (numB_bytes _)) (numB_bytes _)
theorem eB_pos (a0 a1 a2 a3 : Int) (l4 : List S31) (l5 : List Int) (h : mayE a0 a1 a2 a3 l4 l5 = true) : 1 ≤ (eB a0 a1 a2 a3 l4 l5).length := by
  have h1 := (mayE_parts h).1 a0 (by simp)
  have := (putN_len9 (n := a0.toNat) (by unfold Num at h1; omega)).1
  unfold eB
  rw [numB_cons]
  simp only [List.length_append, ints_length]; omega
section
variable {a0 a1 a2 a3 : Int} {l4 : List S31} {l5 : List Int}
theorem yP_put (hm : mayE a0 a1 a2 a3 l4 l5 = true) (n : Int) (q : Nat) : yP ⟨[a0, a1, a2, a3, n], l4, l5, q, false⟩ = eB a0 a1 a2 a3 l4 l5 := by
  show putP a0 a1 a2 a3 l4 l5 = _
  unfold putP; rw [if_pos hm]
theorem get_self (hm : mayE a0 a1 a2 a3 l4 l5 = true) : Ev (fun k => edit_Get.f k (eB a0 a1 a2 a3 l4 l5)) (a0, a1, a2, a3, l4, l5, true) := by
  have hb := eB_bytes a0 a1 a2 a3 l4 l5
  have hl := eB_len hm
  have hp := eB_pos _ _ _ _ _ _ hm
  obtain ⟨K, hK⟩ := tot_ev hb (by omega)
  have hg := getS_put (k := K) hm [] (by rw [List.append_nil]; exact hb) (by rw [List.append_nil]; omega) (by rw [List.append_nil]; exact hK)
  rw [List.append_nil] at hg
  rcases get_any hb (by omega) hK with ⟨_, h⟩ | ⟨hn, _⟩
  · rw [hg] at h; exact h
  · exact absurd ⟨by rw [hg], fun e => by rw [e] at hp; exact absurd hp (by decide), by rw [hg, yP_put hm]⟩ hn
theorem get_more (hm : mayE a0 a1 a2 a3 l4 l5 = true) (R : List Int) (hR : R ≠ []) (hb : Bytes R) (hl : R.length ≤ 1000) : Ev (fun k => edit_Get.f k (eB a0 a1 a2 a3 l4 l5 ++ R)) (0, 0, 0, 0, ([] : List S31), ([] : List Int), false) := by
  have hb2 := bytes_app (eB_bytes a0 a1 a2 a3 l4 l5) hb
  have hl1 := eB_len hm
  have hl2 : (eB a0 a1 a2 a3 l4 l5 ++ R).length ≤ 1000000 := by rw [List.length_append]; omega
  obtain ⟨K, hK⟩ := tot_ev hb2 hl2
  have hg := getS_put (k := K) hm R hb2 hl2 hK
  rcases get_any hb2 hl2 hK with ⟨⟨_, _, h⟩, _⟩ | ⟨_, h⟩
  · rw [hg, yP_put hm] at h
    have := congrArg List.length h
    rw [List.length_append] at this
    exact absurd (List.length_eq_zero_iff.1 (by omega)) hR
  · exact h
theorem get_cut1 (hm : mayE a0 a1 a2 a3 l4 l5 = true) : Ev (fun k => edit_Get.f k ((eB a0 a1 a2 a3 l4 l5).take ((eB a0 a1 a2 a3 l4 l5).length - 1))) (0, 0, 0, 0, ([] : List S31), ([] : List Int), false) := by
  obtain ⟨P, eP⟩ : ∃ P, eB a0 a1 a2 a3 l4 l5 = P := ⟨_, rfl⟩
  have hb : Bytes P := eP ▸ eB_bytes a0 a1 a2 a3 l4 l5
  have hl : P.length ≤ 60000 := eP ▸ eB_len hm
  have hp : 1 ≤ P.length := eP ▸ eB_pos _ _ _ _ _ _ hm
  rw [eP]
  have hb2 : Bytes (P.take (P.length - 1)) := fun x hx => hb x (List.mem_of_mem_take hx)
  have hl2 : (P.take (P.length - 1)).length = P.length - 1 := by rw [List.length_take]; omega
  obtain ⟨K, hK⟩ := tot_ev hb2 (by omega)
  rcases get_any hb2 (by omega) hK with ⟨⟨_, hne, h⟩, _⟩ | ⟨_, h⟩
  · exfalso
    obtain ⟨y, ey⟩ : ∃ y, getS K (P.take (P.length - 1)) = y := ⟨_, rfl⟩
    rw [ey] at h
    unfold yP putP at h
    by_cases c : mayE (y.h.getD 0 0) (y.h.getD 1 0) (y.h.getD 2 0) (y.h.getD 3 0) y.ts y.ds = true
    · rw [if_pos c] at h
      obtain ⟨K3, hK3⟩ := tot_ev hb (by omega)
      have e1 : P = eB (y.h.getD 0 0) (y.h.getD 1 0) (y.h.getD 2 0) (y.h.getD 3 0) y.ts y.ds ++ P.drop (P.length - 1) := by rw [h, List.take_append_drop]
      have g1 := getS_put (k := K3) c (P.drop (P.length - 1)) (e1 ▸ hb) (by rw [← e1]; omega) (by rw [← e1]; exact hK3)
      rw [← e1] at g1
      have g2 := getS_put (k := K3) hm [] (by rw [List.append_nil, eP]; exact hb) (by rw [List.append_nil, eP]; omega) (by rw [List.append_nil, eP]; exact hK3)
      rw [List.append_nil, eP, g1] at g2
      have g3 := congrArg GS.at_ g2
      dsimp only at g3
      rw [h, hl2] at g3
      omega
    · rw [if_neg c] at h
      exact hne h.symm
  · exact h
end
theorem sameT_l0 (l : List S31) (hl : l.length ≤ 100000) : ∀ (d i : Nat), i + d = l.length → Ev (fun k => iceboxref17_Tables.l0 k l l (i : Int)) true
  | 0, i, hd => Ev.step (f := fun _ => some true) (fun k => by rw [iceboxref17_Tables.l0, if_neg (by omega)]) (Ev.now _)
  | d + 1, i, hd => by
    have ew : wrap64 ((i : Int) + 1) = ((i + 1 : Nat) : Int) := by rw [w64 (by omega) (by omega)]; omega
    have p1 : (i : Int) < (l.length : Int) := by omega
    have p0 : (0 : Int) ≤ (i : Int) := by omega
    refine Ev.step (fun k => ?_) (sameT_l0 l hl d (i + 1) (by omega))
    rw [iceboxref17_Tables.l0, if_pos p1, if_pos p0, if_pos p1, if_neg (by simp), ew]
theorem sameE_l0 (a0 a1 a2 a3 : Int) (l4 : List S31) (l5 : List Int) (h4 : l4.length ≤ 100000) (h5 : l5.length ≤ 100000) : ∀ (d i : Nat), i + d = l5.length → Ev (fun k => iceboxref17_SameEdit.l0 k (i : Int) a0 a1 a2 a3 l4 l5 a0 a1 a2 a3 l4 l5) true
  | 0, i, hd => by
    refine Ev.step (f := fun k => (iceboxref17_Tables.f k l4 l4).bind fun t176 => (some t176)) (fun k => by rw [iceboxref17_SameEdit.l0, if_neg (by omega)]) ?_
    refine Ev.bind (a := true) ?_ (Ev.now _)
    have h := sameT_l0 l4 h4 l4.length 0 (by omega)
    exact Ev.congr (fun k => by unfold iceboxref17_Tables.f; rw [if_pos rfl]; rfl) h
  | d + 1, i, hd => by
    have ew : wrap64 ((i : Int) + 1) = ((i + 1 : Nat) : Int) := by rw [w64 (by omega) (by omega)]; omega
    have p1 : (i : Int) < (l5.length : Int) := by omega
    have p0 : (0 : Int) ≤ (i : Int) := by omega
    refine Ev.step (fun k => ?_) (sameE_l0 a0 a1 a2 a3 l4 l5 h4 h5 d (i + 1) (by omega))
    rw [iceboxref17_SameEdit.l0, if_pos p1, if_pos p0, if_pos p1, if_pos rfl, ew]
theorem sameE_ev (a0 a1 a2 a3 : Int) (l4 : List S31) (l5 : List Int) (h4 : l4.length ≤ 100000) (h5 : l5.length ≤ 100000) : Ev (fun k => iceboxref17_SameEdit.f k a0 a1 a2 a3 l4 l5 a0 a1 a2 a3 l4 l5) true := by
  have h := sameE_l0 a0 a1 a2 a3 l4 l5 h4 h5 l5.length 0 (by omega)
  have e : ((l5.length : Int) != (l5.length : Int)) = false := by simp
  refine Ev.congr (fun k => by unfold iceboxref17_SameEdit.f; rw [if_pos rfl, if_pos rfl, if_pos rfl, if_pos rfl, e]) ?_
  exact Ev.step (fun k => by rw [iceboxref17_SameEdit.j0, if_neg Bool.false_ne_true]; rfl) h
theorem tabsOf_good : ∀ (n : Nat) (r : List Int) (i : Nat), r.length ≤ n → Bytes r → i ≤ 20 → (tabsOf i r).all mayT = true ∧ (tabsOf i r).length ≤ 20 - i
  | n, [], i, _, _, _ => by rw [tabsOf_short i [] (by simp)]; simp
  | n, [x], i, _, _, _ => by rw [tabsOf_short i [x] (by simp)]; simp
  | n, [x, y], i, _, _, _ => by rw [tabsOf_short i [x, y] (by simp)]; simp
  | 0, _ :: _ :: _ :: _, _, h, _, _ => by simp at h
  | n + 1, a :: b :: c :: r, i, h, hb, hi => by
    rw [tabsOf]
    by_cases c20 : i < 20
    · rw [if_pos c20]
      obtain ⟨h1, h2⟩ := tabsOf_good n r (i + 1) (by simp only [List.length_cons] at h; omega) (fun x hx => hb x (by simp [hx])) (by omega)
      rw [List.all_cons, h1, tabOf_may i c20 a b c (hb a (by simp)) (hb b (by simp)) (hb c (by simp)), List.length_cons]
      exact ⟨rfl, by omega⟩
    · rw [if_neg c20]; simp

theorem j2_ev {a0 a1 a2 a3 : Int} {l4 : List S31} {l5 : List Int} (hm : mayE a0 a1 a2 a3 l4 l5 = true) (l6 l7 : List Int) (h6 : l6 ≠ []) (h6b : Bytes l6) (h6l : l6.length ≤ 50) (h7b : Bytes l7) (h7l : l7.length ≤ 2000) :
    Ev (fun k => iceboxlaw17_EditBack.j2 k l6 l7 (eB a0 a1 a2 a3 l4 l5) false) true := by
  have c1 := get_cut1 hm
  have c2 := get_more hm l6 h6 h6b (by omega)
  have hl := eB_len hm
  have hp := eB_pos _ _ _ _ _ _ hm
  obtain ⟨P, eP⟩ : ∃ P, eB a0 a1 a2 a3 l4 l5 = P := ⟨_, rfl⟩
  rw [eP] at c1 c2 hl hp ⊢
  obtain ⟨K, hK⟩ := tot_ev h7b (by omega)
  have ew : wrap64 ((P.length : Int) - 1) = ((P.length - 1 : Nat) : Int) := by rw [w64 (by omega) (by omega)]; omega
  have p0 : (0 : Int) ≤ ((P.length - 1 : Nat) : Int) := by omega
  have p1 : ((P.length - 1 : Nat) : Int) ≤ (P.length : Int) := by omega
  have p2 : ([] : List Int).length + P.length < 140737488355328 := by simp only [List.length_nil]; omega
  have p3 : ([] ++ P).length + l6.length < 140737488355328 := by rw [List.nil_append]; omega
  refine Ev.step (f := fun k => (edit_Get.f k (P ++ l6)).bind fun bt234 => (edit_Get.f k (P.take (P.length - 1))).bind fun bt250 => ((edit_Get.f k l7).bind fun bt262 => (if bt234.2.2.2.2.2.2 = true then (none) else (if bt250.2.2.2.2.2.2 = true then (none) else (if bt262.2.2.2.2.2.2 = true then ((edit_Put.f k bt262.1 bt262.2.1 bt262.2.2.1 bt262.2.2.2.1 bt262.2.2.2.2.1 bt262.2.2.2.2.2.1).bind fun t274 => (if (strOfNums t274).toList = (strOfNums l7).toList then ((iceboxlaw17_awake.f k).bind fun t277 => (some t277)) else (none))) else ((iceboxlaw17_awake.f k).bind fun t278 => (some t278))))))) (fun k => ?_) ?_
  · rw [iceboxlaw17_EditBack.j2, if_neg Bool.false_ne_true, Option.bind_some, if_pos p2, Option.bind_some, if_pos p3, ew, List.nil_append]
    simp only [if_pos p0, if_pos p1, Int.toNat_natCast]
  · refine Ev.bind c2 (Ev.bind c1 ?_)
    rcases get_any h7b (by omega) hK with ⟨⟨_, _, hy⟩, h⟩ | ⟨_, h⟩
    · refine Ev.bind h ?_
      obtain ⟨hput, _⟩ := putP_ev ((getS K l7).h.getD 0 0) ((getS K l7).h.getD 1 0) ((getS K l7).h.getD 2 0) ((getS K l7).h.getD 3 0) (getS K l7).ts (getS K l7).ds
      rw [show putP ((getS K l7).h.getD 0 0) ((getS K l7).h.getD 1 0) ((getS K l7).h.getD 2 0) ((getS K l7).h.getD 3 0) (getS K l7).ts (getS K l7).ds = l7 from hy] at hput
      refine Ev.congr (fun k => by rw [if_neg Bool.false_ne_true, if_neg Bool.false_ne_true, if_pos rfl]) ?_
      exact Ev.bind hput (Ev.congr (fun k => if_pos rfl) (Ev.bind awake_ev (Ev.now _)))
    · refine Ev.bind h ?_
      exact Ev.congr (fun k => by rw [if_neg Bool.false_ne_true, if_neg Bool.false_ne_true, if_neg Bool.false_ne_true]) (Ev.bind awake_ev (Ev.now _))
theorem main_l0 (a2 a3 a4 a5 : Int) (T : List S31) (l1 l6 l7 : List Int) (hl1 : l1.length ≤ 50) (hw : ∀ x ∈ l1, 0 ≤ x ∧ x < 4294967296) (hm : mayE a2 a3 a4 a5 T (l1.map fun x => 1 + x) = true) (h6 : l6 ≠ []) (h6b : Bytes l6) (h6l : l6.length ≤ 50) (h7b : Bytes l7) (h7l : l7.length ≤ 2000) :
    ∀ (d i : Nat), i + d = l1.length → Ev (fun k => iceboxlaw17_EditBack.l0 k l1 l6 l7 (i : Int) a2 a3 a4 a5 T ((l1.take i).map fun x => 1 + x)) true
  | 0, i, hd => by
    have e : l1.take i = l1 := List.take_of_length_le (by omega)
    rw [e]
    obtain ⟨D, eD⟩ : ∃ D, l1.map (fun x => 1 + x) = D := ⟨_, rfl⟩
    rw [eD] at hm ⊢
    obtain ⟨h1, h2, h3, h4, h5⟩ := mayE_parts hm
    have hp := eB_pos _ _ _ _ _ _ hm
    refine Ev.step (f := fun k => (edit_Put.f k a2 a3 a4 a5 T D).bind fun t209 => ((edit_Get.f k t209).bind fun bt212 => (if bt212.2.2.2.2.2.2 = true then ((iceboxref17_SameEdit.f k bt212.1 bt212.2.1 bt212.2.2.1 bt212.2.2.2.1 bt212.2.2.2.2.1 bt212.2.2.2.2.2.1 a2 a3 a4 a5 T D).bind fun t224 => (if t224 = true then (iceboxlaw17_EditBack.j2 k l6 l7 t209 ((t209.length : Int) == 0)) else (iceboxlaw17_EditBack.j2 k l6 l7 t209 true))) else (iceboxlaw17_EditBack.j2 k l6 l7 t209 true)))) (fun k => by rw [iceboxlaw17_EditBack.l0, if_neg (by omega)]) ?_
    refine Ev.bind (put_good hm) (Ev.bind (get_self hm) ?_)
    refine Ev.congr (f := fun k => (iceboxref17_SameEdit.f k a2 a3 a4 a5 T D a2 a3 a4 a5 T D).bind fun t224 => (if t224 = true then (iceboxlaw17_EditBack.j2 k l6 l7 (eB a2 a3 a4 a5 T D) (((eB a2 a3 a4 a5 T D).length : Int) == 0)) else (iceboxlaw17_EditBack.j2 k l6 l7 (eB a2 a3 a4 a5 T D) true))) (fun k => if_pos rfl) ?_
    refine Ev.bind (sameE_ev a2 a3 a4 a5 T D (by omega) (by omega)) ?_
    have e0 : (((eB a2 a3 a4 a5 T D).length : Int) == 0) = false := by rw [beq_eq_false_iff_ne]; omega
    exact Ev.congr (fun k => by rw [if_pos rfl, e0]) (j2_ev hm l6 l7 h6 h6b h6l h7b h7l)
  | d + 1, i, hd => by
    have hi : i < l1.length := by omega
    have hx := hw l1[i] (List.getElem_mem hi)
    have ih := main_l0 a2 a3 a4 a5 T l1 l6 l7 hl1 hw hm h6 h6b h6l h7b h7l d (i + 1) (by omega)
    have ea : (l1.take (i + 1)).map (fun x => 1 + x) = (l1.take i).map (fun x => 1 + x) ++ [1 + l1[i]] := by rw [List.take_succ_eq_append_getElem hi, List.map_append]; rfl
    rw [ea] at ih
    have ew : wrap64 ((i : Int) + 1) = ((i + 1 : Nat) : Int) := by rw [w64 (by omega) (by omega)]; omega
    have w1 : wrap64 l1[i] = l1[i] := w64 (by omega) (by omega)
    have w2 : wrap64 (1 + l1[i]) = 1 + l1[i] := w64 (by omega) (by omega)
    have p0 : (0 : Int) ≤ (i : Int) := Int.natCast_nonneg _
    have p1 : (i : Int) < (l1.length : Int) := by exact_mod_cast hi
    have p2 : ((l1.take i).map fun x => 1 + x).length < 17592186044416 := by rw [List.length_map, List.length_take]; exact Nat.lt_of_le_of_lt (Nat.le_trans (Nat.min_le_right ..) hl1) (by decide)
    refine Ev.step (fun k => ?_) ih
    rw [iceboxlaw17_EditBack.l0, if_pos p1, if_pos p0, if_pos p2, rd_at hi, w1, w2, ew]
theorem EditBack : iceboxlaw17_EditBack.Pure := by
  intro l0 l1 a2 a3 a4 a5 l6 l7 _ hl0 hw0 _ hl1 hw1 w2 w3 w4 w5 _ hl6 hw6 _ hl7 hw7
  have b0 := bytes_wf hw0
  have b6 := bytes_wf hw6
  have b7 := bytes_wf hw7
  have b2 := wf_u32 w2
  have b3 := wf_u32 w3
  have b4 := wf_u32 w4
  have b5 := wf_u32 w5
  have triv : Ev (fun k => iceboxlaw17_EditBack.j0 k l0 l1 a2 a3 a4 a5 l6 l7 true) true := Ev.step (f := fun k => (iceboxlaw17_awake.f k).bind fun t200 => (some t200)) (fun k => by rw [iceboxlaw17_EditBack.j0, if_pos rfl]) (Ev.bind awake_ev (Ev.now _))
  refine Ev.rounds ?_
  by_cases c1 : (l1.length : Int) > 50
  · exact Ev.congr (fun k => by unfold iceboxlaw17_EditBack.f; rw [if_pos c1]) triv
  · by_cases c2 : (l6.length : Int) = 0
    · exact Ev.congr (fun k => by unfold iceboxlaw17_EditBack.f; rw [if_neg c1, if_pos c2]) triv
    · by_cases c3 : (l6.length : Int) > 50
      · exact Ev.congr (fun k => by unfold iceboxlaw17_EditBack.f; rw [if_neg c1, if_neg c2, if_pos c3]) triv
      · by_cases c4 : (l7.length : Int) > 2000
        · exact Ev.congr (fun k => by unfold iceboxlaw17_EditBack.f; rw [if_neg c1, if_neg c2, if_neg c3, decide_eq_true c4]) triv
        · have hw : ∀ x ∈ l1, 0 ≤ x ∧ x < 4294967296 := fun x hx => wf_u32 (hw1 x hx)
          obtain ⟨t1, t2⟩ := tabsOf_good l0.length l0 0 (Nat.le_refl _) b0 (by omega)
          have hD : (l1.map fun x => 1 + x).all (okNum 1) = true := by
            rw [List.all_eq_true]
            intro y hy
            obtain ⟨x, hx, rfl⟩ := List.mem_map.1 hy
            have := hw x hx
            unfold okNum
            exact decide_eq_true (by omega)
          have hm : mayE a2 a3 a4 a5 (tabsOf 0 l0) (l1.map fun x => 1 + x) = true := by
            unfold mayE
            rw [hD, t1, List.length_map, decide_eq_true (show ((tabsOf 0 l0).length : Int) ≤ 256 by omega), decide_eq_true (show (l1.length : Int) ≤ 256 by omega)]
            unfold okNum
            rw [decide_eq_true (by omega), decide_eq_true (by omega), decide_eq_true (by omega), decide_eq_true (by omega)]; rfl
          have h := main_l0 a2 a3 a4 a5 (tabsOf 0 l0) l1 l6 l7 (by omega) hw hm (fun e => c2 (by rw [e]; rfl)) b6 (by omega) b7 (by omega) l1.length 0 (by omega)
          refine Ev.congr (fun k => by unfold iceboxlaw17_EditBack.f; rw [if_neg c1, if_neg c2, if_neg c3, decide_eq_false c4]) ?_
          have e2 : wrap64 a2 = a2 := w64 (by omega) (by omega)
          have e3 : wrap64 a3 = a3 := w64 (by omega) (by omega)
          have e4 : wrap64 a4 = a4 := w64 (by omega) (by omega)
          have e5 : wrap64 a5 = a5 := w64 (by omega) (by omega)
          refine Ev.step (f := fun k => (iceboxlaw17_Tables.f k l0).bind fun t201 => (iceboxlaw17_EditBack.l0 k l1 l6 l7 0 a2 a3 a4 a5 t201 ([] : List Int))) (fun k => by rw [iceboxlaw17_EditBack.j0, if_neg Bool.false_ne_true, e2, e3, e4, e5]) ?_
          exact Ev.bind (tabs_ev l0 (by omega) b0) h

end Go.Proofs.Ytffnimaaolmbdaa.Pure
