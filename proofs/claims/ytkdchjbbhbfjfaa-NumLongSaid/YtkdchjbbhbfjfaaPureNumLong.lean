/- The pure statement of the law NumLong: over the Lean functions that the Go code was shown to compute, the law answers true for every input within the statement's own bounds. No further conditions. -/
import Derived.Test.YtkdchjbbhbfjfaaPNumLongx1
namespace Go.Proofs.Ytkdchjbbhbfjfaa.Pure
open Go.RowKit Go.Proofs.Ytkdchjbbhbfjfaa.PNumLong Go.Proofs.YtkdchjbbhbfjfaaW.PrintWords Go.Proofs.YtkdchjbbhbfjfaaW.PrintLast Go.Proofs.YtkdchjbbhbfjfaaW.PrintMore
set_option linter.unusedVariables false
set_option linter.unusedSimpArgs false

theorem w64 {x : Int} (h0 : -9223372036854775808 ≤ x) (h1 : x < 9223372036854775808) : wrap64 x = x := by
  unfold wrap64; omega
theorem bits_xor_nat (k : IntKind) (j : Nat) (hj : j ≤ k.bits) (hk : ∀ n : Int, 0 ≤ n → n < 2 ^ j → k.wrap n = n) (a b : Nat) (ha : a < 2 ^ j) (hb : b < 2 ^ j) :
    Go.bits .xor k a b = ((a ^^^ b : Nat) : Int) := by
  have hp : 2 ^ j ≤ 2 ^ k.bits := Nat.pow_le_pow_right (by decide) hj
  have ha' : a % 2 ^ k.bits = a := Nat.mod_eq_of_lt (Nat.lt_of_lt_of_le ha hp)
  have hb' : b % 2 ^ k.bits = b := Nat.mod_eq_of_lt (Nat.lt_of_lt_of_le hb hp)
  simp only [Go.bits, BitVec.ofInt_natCast, BitVec.toNat_xor, BitVec.toNat_ofNat, ha', hb']
  exact hk _ (Int.natCast_nonneg _) (by exact_mod_cast Nat.xor_lt_two_pow ha hb)
theorem wr_u32 (n : Int) (h₀ : 0 ≤ n) (h₁ : n < 2 ^ 32) : IntKind.u32.wrap n = n := by rw [IntKind.wrap_u32]; omega
theorem wr_u8 (n : Int) (h₀ : 0 ≤ n) (h₁ : n < 2 ^ 8) : IntKind.u8.wrap n = n := by rw [IntKind.wrap_u8]; omega
theorem wr_i64 (n : Int) (h₀ : 0 ≤ n) (h₁ : n < 2 ^ 63) : IntKind.i64.wrap n = n := by rw [IntKind.wrap_i64]; omega
theorem wr_u64 (n : Int) : IntKind.u64.wrap n = n % 18446744073709551616 := by simp [IntKind.wrap, IntKind.bits, IntKind.signed]
theorem bx_u32 (a b : Nat) (ha : a < 2 ^ 32) (hb : b < 2 ^ 32) : Go.bits .xor .u32 a b = ((a ^^^ b : Nat) : Int) := bits_xor_nat .u32 32 (by decide) wr_u32 a b ha hb
theorem bx_u8 (a b : Nat) (ha : a < 2 ^ 8) (hb : b < 2 ^ 8) : Go.bits .xor .u8 a b = ((a ^^^ b : Nat) : Int) := bits_xor_nat .u8 8 (by decide) wr_u8 a b ha hb
theorem bx_i64 (a b : Nat) (ha : a < 2 ^ 63) (hb : b < 2 ^ 63) : Go.bits .xor .i64 a b = ((a ^^^ b : Nat) : Int) := bits_xor_nat .i64 63 (by decide) wr_i64 a b ha hb
theorem bo_i64 (a b : Nat) (ha : a < 2 ^ 63) (hb : b < 2 ^ 63) : Go.bits .or .i64 a b = ((a ||| b : Nat) : Int) := (bits_nat .i64 63 (by decide) wr_i64 a b ha hb).2
theorem bo_u8 (a b : Nat) (ha : a < 2 ^ 8) (hb : b < 2 ^ 8) : Go.bits .or .u8 a b = ((a ||| b : Nat) : Int) := (bits_nat .u8 8 (by decide) wr_u8 a b ha hb).2
theorem ba_u8 (a b : Nat) (ha : a < 2 ^ 8) (hb : b < 2 ^ 8) : Go.bits .and .u8 a b = ((a &&& b : Nat) : Int) := (bits_nat .u8 8 (by decide) wr_u8 a b ha hb).1
theorem ba_u32 (a b : Nat) (ha : a < 2 ^ 32) (hb : b < 2 ^ 32) : Go.bits .and .u32 a b = ((a &&& b : Nat) : Int) := (bits_nat .u32 32 (by decide) wr_u32 a b ha hb).1
theorem max_u32 : IntKind.u32.max = ((4294967295 : Nat) : Int) := by decide
theorem wf_u8 {x : Int} (h : (Lit.int .u8 x).wf = true) : 0 ≤ x ∧ x < 256 := by
  simp [Lit.wf, IntKind.min, IntKind.max, IntKind.signed, IntKind.bits] at h; omega
theorem wf_u16 {x : Int} (h : (Lit.int .u16 x).wf = true) : 0 ≤ x ∧ x < 65536 := by
  simp [Lit.wf, IntKind.min, IntKind.max, IntKind.signed, IntKind.bits] at h; omega
theorem wf_u32 {x : Int} (h : (Lit.int .u32 x).wf = true) : 0 ≤ x ∧ x < 4294967296 := by
  simp [Lit.wf, IntKind.min, IntKind.max, IntKind.signed, IntKind.bits] at h; omega
theorem wf_u64 {x : Int} (h : (Lit.int .u64 x).wf = true) : 0 ≤ x ∧ x < 18446744073709551616 := by
  simp [Lit.wf, IntKind.min, IntKind.max, IntKind.signed, IntKind.bits] at h; omega
theorem wf_i64 {x : Int} (h : (Lit.int .i64 x).wf = true) : -9223372036854775808 ≤ x ∧ x < 9223372036854775808 := by
  simp [Lit.wf, IntKind.min, IntKind.max, IntKind.signed, IntKind.bits] at h; omega

def ints (l : List Nat) : List Int := l.map fun n : Nat => (n : Int)
theorem ints_length (l : List Nat) : (ints l).length = l.length := by unfold ints; simp
theorem ints_append (a b : List Nat) : ints (a ++ b) = ints a ++ ints b := by unfold ints; simp
def nats (l : List Int) : List Nat := l.map Int.toNat
def Bytes (l : List Int) : Prop := ∀ x ∈ l, 0 ≤ x ∧ x < 256
theorem bytes_wf {l : List Int} (h : ∀ x ∈ l, (Lit.int .u8 x).wf = true) : Bytes l := fun x hx => wf_u8 (h x hx)
theorem nats_length (l : List Int) : (nats l).length = l.length := by unfold nats; simp
theorem nats_ints (l : List Nat) : nats (ints l) = l := by
  unfold nats ints; rw [List.map_map]
  conv => rhs; rw [← List.map_id l]
  apply List.map_congr_left; intro a _; simp
theorem ints_nats {l : List Int} (h : Bytes l) : ints (nats l) = l := by
  unfold nats ints; rw [List.map_map]
  conv => rhs; rw [← List.map_id l]
  apply List.map_congr_left; intro a ha
  have := h a ha
  simp; omega
theorem nats_lt {l : List Int} (h : Bytes l) : ∀ c ∈ nats l, c < 256 := by
  intro c hc
  obtain ⟨x, hx, rfl⟩ := List.mem_map.1 hc
  have := h x hx; omega
theorem ints_bytes {l : List Nat} (h : ∀ c ∈ l, c < 256) : Bytes (ints l) := by
  intro x hx
  obtain ⟨c, hc, rfl⟩ := List.mem_map.1 hx
  have := h c hc; omega
theorem nats_append (a b : List Int) : nats (a ++ b) = nats a ++ nats b := by unfold nats; simp
theorem nats_take (l : List Int) (n : Nat) : nats (l.take n) = (nats l).take n := by unfold nats; rw [List.map_take]
theorem nats_drop (l : List Int) (n : Nat) : nats (l.drop n) = (nats l).drop n := by unfold nats; rw [List.map_drop]
theorem rd_at {l : List Int} {i : Nat} (h : i < l.length) : rd l (i : Int) = l[i] := by
  unfold rd; simp [h]
theorem rd_byte {l : List Int} {i : Nat} (h : i < l.length) (hb : Bytes l) : ∃ c : Nat, rd l (i : Int) = c ∧ c < 256 ∧ (nats l).drop i = c :: (nats l).drop (i + 1) := by
  have := hb l[i] (List.getElem_mem h)
  have h2 : i < (nats l).length := by rw [nats_length]; exact h
  refine ⟨l[i].toNat, by rw [rd_at h]; omega, by omega, ?_⟩
  rw [List.drop_eq_getElem_cons h2]
  have h4 : i < (l.map Int.toNat).length := h2
  have h3 : (l.map Int.toNat)[i]'h4 = l[i].toNat := by rw [List.getElem_map]
  rw [← h3]; rfl

def putN (n : Nat) : List Nat := if h : n < 128 then [n] else (n % 128 + 128) :: putN (n / 128)
termination_by n
decreasing_by omega
theorem putN_small {n : Nat} (h : n < 128) : putN n = [n] := by unfold putN; rw [dif_pos h]
theorem putN_more {n : Nat} (h : ¬ n < 128) : putN n = (n % 128 + 128) :: putN (n / 128) := by rw [putN]; rw [dif_neg h]
theorem putN_len : ∀ (m n : Nat), n < 128 ^ (m + 1) → 1 ≤ (putN n).length ∧ (putN n).length ≤ m + 1
  | 0, n, h => by rw [putN_small (by omega)]; simp
  | m + 1, n, h => by
    by_cases h1 : n < 128
    · rw [putN_small h1]; simp
    · rw [putN_more h1]
      have hd : n / 128 < 128 ^ (m + 1) := by rw [Nat.div_lt_iff_lt_mul (by decide)]; rw [Nat.pow_succ] at h; exact h
      have := putN_len m (n / 128) hd
      rw [List.length_cons]
      clear h hd
      omega
theorem putN_len9 {n : Nat} (h : n < 9223372036854775808) : 1 ≤ (putN n).length ∧ (putN n).length ≤ 9 := putN_len 8 n h
theorem putN_lt : ∀ (k n : Nat), n ≤ k → ∀ c ∈ putN n, c < 256
  | 0, n, h, c, hc => by rw [putN_small (by omega)] at hc; simp at hc; omega
  | k + 1, n, h, c, hc => by
    by_cases h1 : n < 128
    · rw [putN_small h1] at hc; simp at hc; omega
    · rw [putN_more h1] at hc
      rcases List.mem_cons.1 hc with rfl | hc
      · omega
      · exact putN_lt k (n / 128) (by omega) c hc
theorem or128 (n : Nat) : Go.bits .or .u8 ((n : Int) % 256) 128 = ((n % 128 + 128 : Nat) : Int) := by
  have e : (n : Int) % 256 = ((n % 256 : Nat) : Int) := by omega
  have h := bo_u8 (n % 256) 128 (by omega) (by omega)
  rw [e]
  refine h.trans ?_
  congr 1
  have h1 : n % 128 < 2 ^ 7 := by omega
  have e2 : 128 + n % 128 = 128 ||| n % 128 := Nat.two_pow_add_eq_or_of_lt h1 1
  by_cases h2 : n % 256 < 128
  · have e3 : n % 256 = n % 128 := by omega
    rw [e3, Nat.or_comm]
    omega
  · have e3 : n % 256 = 128 ||| (n % 128) := by omega
    have e4 : 128 ||| (n % 128) = 128 + n % 128 := by omega
    rw [e3, Nat.or_assoc, Nat.or_comm (n % 128), ← Nat.or_assoc, Nat.or_self, e4]
    omega
theorem put_l0 : ∀ (m n : Nat) (acc : List Int), n < 128 ^ (m + 1) → acc.length + (m + 1) < 140737488355328 →
    Ev (fun k => num_Put.l0 k (n : Int) acc) (acc ++ ints (putN n)) := by
  intro m
  induction m with
  | zero =>
    intro n acc h hl
    have h1 : n < 128 := by omega
    rw [putN_small h1]
    refine Ev.step (f := fun _ => some _) (fun k => ?_) (Ev.now _)
    simp only [num_Put.l0]
    rw [if_neg (by omega), if_pos (by omega), show (n : Int) % 256 = n by omega]; rfl
  | succ m ih =>
    intro n acc h hl
    by_cases h1 : n < 128
    · rw [putN_small h1]
      refine Ev.step (f := fun _ => some _) (fun k => ?_) (Ev.now _)
      simp only [num_Put.l0]
      clear h
      rw [if_neg (by omega), if_pos (by omega), show (n : Int) % 256 = n by omega]; rfl
    · have hd : n / 128 < 128 ^ (m + 1) := by rw [Nat.div_lt_iff_lt_mul (by decide)]; rw [Nat.pow_succ] at h; exact h
      have h2 := ih (n / 128) (acc ++ [((n % 128 + 128 : Nat) : Int)]) hd (by rw [List.length_append, List.length_singleton]; omega)
      rw [putN_more h1]
      rw [List.append_assoc] at h2
      refine Ev.step (fun k => ?_) h2
      simp only [num_Put.l0]
      clear h hd
      rw [if_pos (by omega), if_pos (by omega), or128]
      rfl
theorem put_ev (n : Nat) (h : n < 9223372036854775808) : Ev (fun k => num_Put.f k (n : Int)) (ints (putN n)) := by
  have := put_l0 8 n [] h (by decide)
  refine Ev.congr (fun k => ?_) this
  unfold num_Put.f; rw [if_neg (by omega)]
theorem awake1_ev : Ev (fun k => iceboxlaw1_awake.f k) true := by
  have h := put_ev 300 (by decide)
  have e : ints (putN 300) = [172, 2] := by
    rw [putN_more (by omega), putN_small (by omega)]; decide
  rw [e] at h
  refine Ev.congr (fun k => rfl) (Ev.bind (g := fun k => num_Put.f k 300) h ?_)
  exact Ev.congr (f := fun _ => some true) (fun k => rfl) (Ev.now _)

def getN : Nat → List Nat → Option (Nat × Nat)
  | 0, _ => none
  | _ + 1, [] => none
  | m + 1, c :: r => if c > 127 then (getN m r).map (fun p => (c - 128 + 128 * p.1, p.2 + 1)) else if c = 0 ∧ m ≠ 8 then none else some (c, 1)
def tell (acc i at_ : Nat) : Option (Nat × Nat) → Int × Int × Bool
  | none => (0, 0, false)
  | some (v, n) => (((acc + 2 ^ (7 * i) * v : Nat) : Int), ((at_ + i + n : Nat) : Int), true)
theorem and127 (c : Nat) (h : c < 256) : Go.bits .and .u8 (c : Int) 127 = ((c % 128 : Nat) : Int) := by
  have := ba_u8 c 127 h (by decide)
  rw [show (127 : Nat) = 2 ^ 7 - 1 from rfl, Nat.and_two_pow_sub_one_eq_mod] at this
  exact this
theorem acc_or (acc d i : Nat) (h : acc < 2 ^ (7 * i)) (hd : d < 128) (hi : i ≤ 8) :
    Go.bits .or .i64 (acc : Int) (shl .i64 (wrap64 (d : Int)) (wrap64 (7 * (i : Int)))) = ((acc + 2 ^ (7 * i) * d : Nat) : Int) := by
  have e1 : wrap64 (d : Int) = d := w64 (by omega) (by omega)
  have e2 : wrap64 (7 * (i : Int)) = ((7 * i : Nat) : Int) := by unfold wrap64; omega
  have hP : 2 ^ (7 * i) ≤ 2 ^ 56 := Nat.pow_le_pow_right (by decide) (by omega)
  have hm : 2 ^ (7 * i) * d < 2 ^ 63 := by
    have h1 : 2 ^ (7 * i) * d ≤ 2 ^ 56 * 127 := Nat.mul_le_mul hP (by omega)
    exact Nat.lt_of_le_of_lt h1 (by decide)
  have ha : acc < 2 ^ 63 := Nat.lt_of_lt_of_le h (Nat.le_trans hP (by decide))
  have e3 : shl .i64 (d : Int) ((7 * i : Nat) : Int) = ((2 ^ (7 * i) * d : Nat) : Int) := by
    unfold shl
    rw [Int.toNat_natCast, Nat.min_eq_left (by show 7 * i ≤ 64; omega)]
    have : (d : Int) * 2 ^ (7 * i) = ((2 ^ (7 * i) * d : Nat) : Int) := by rw [Int.natCast_mul, Int.mul_comm]; simp
    rw [this]
    exact wr_i64 _ (Int.natCast_nonneg _) (by exact_mod_cast hm)
  rw [e1, e2, e3, bo_i64 _ _ ha hm]
  congr 1
  have := Nat.two_pow_add_eq_or_of_lt h d
  rw [Nat.or_comm, ← this, Nat.add_comm]
theorem acc_lt (acc d i : Nat) (h : acc < 2 ^ (7 * i)) (hd : d < 128) : acc + 2 ^ (7 * i) * d < 2 ^ (7 * (i + 1)) := by
  have e : 2 ^ (7 * (i + 1)) = 2 ^ (7 * i) * 128 := by rw [Nat.mul_add, Nat.pow_add]
  rw [e]
  generalize 2 ^ (7 * i) = P at h ⊢
  have : P * d ≤ P * 127 := Nat.mul_le_mul_left _ (by omega)
  omega
theorem tell_more (acc i at_ d : Nat) (o : Option (Nat × Nat)) : tell acc i at_ (o.map (fun p => (d + 128 * p.1, p.2 + 1))) = tell (acc + 2 ^ (7 * i) * d) (i + 1) at_ o := by
  cases o with
  | none => rfl
  | some p =>
    obtain ⟨v, n⟩ := p
    simp only [tell, Option.map_some]
    have e : 2 ^ (7 * (i + 1)) = 2 ^ (7 * i) * 128 := by rw [Nat.mul_add, Nat.pow_add]
    rw [e, Nat.mul_add, ← Nat.mul_assoc, ← Nat.add_assoc, show at_ + (i + 1) + n = at_ + i + (n + 1) by omega]
theorem get_l0 (l : List Int) (hb : Bytes l) (hl : l.length < 2 ^ 48) (at_ : Nat) (hat : at_ < 2 ^ 62) : ∀ (m i acc : Nat), i + m = 9 → acc < 2 ^ (7 * i) →
    Ev (fun k => num_Get.l0 k l (at_ : Int) (acc : Int) (i : Int)) (tell acc i at_ (getN m ((nats l).drop (at_ + i)))) := by
  intro m
  induction m with
  | zero =>
    intro i acc hi ha
    refine Ev.step (f := fun _ => some _) (fun k => ?_) (Ev.now _)
    simp only [num_Get.l0]
    have p : ¬ (i : Int) < 9 := by omega
    rw [if_neg p]; simp only [getN, tell]
  | succ m ih =>
    intro i acc hi ha
    have p1 : (i : Int) < 9 := by omega
    by_cases hin : at_ + i < l.length
    · have p2 : ¬ (at_ : Int) ≥ wrap64 ((l.length : Int) - (i : Int)) := by unfold wrap64; omega
      have p3 : wrap64 ((at_ : Int) + (i : Int)) = ((at_ + i : Nat) : Int) := by unfold wrap64; omega
      have p4 : (0 : Int) ≤ ((at_ + i : Nat) : Int) := by omega
      have p5 : ((at_ + i : Nat) : Int) < (l.length : Int) := by omega
      have p6 : 0 ≤ wrap64 (7 * (i : Int)) := by rw [w64 (by omega) (by omega)]; omega
      have p7 : wrap64 ((i : Int) + 1) = ((i + 1 : Nat) : Int) := by unfold wrap64; omega
      have p8 : wrap64 (((at_ + i : Nat) : Int) + 1) = ((at_ + i + 1 : Nat) : Int) := by unfold wrap64; omega
      have him : (m = 8) = (i = 0) := by rw [eq_iff_iff]; omega
      obtain ⟨c, hc, hc1, hc2⟩ := rd_byte (l := l) (i := at_ + i) hin hb
      have hor := acc_or acc (c % 128) i ha (Nat.mod_lt _ (by decide)) (by omega)
      have hlt := acc_lt acc (c % 128) i ha (Nat.mod_lt _ (by decide))
      rw [hc2]
      have head : ∀ k, num_Get.l0 (k + 1) l (at_ : Int) (acc : Int) (i : Int) = (if (c : Int) > 127 then (num_Get.l0 k l (at_ : Int) ((acc + 2 ^ (7 * i) * (c % 128) : Nat) : Int) ((i + 1 : Nat) : Int)) else (if (c : Int) = 0 then (if (i : Int) > 0 then (some (0, 0, false)) else (some (((acc + 2 ^ (7 * i) * (c % 128) : Nat) : Int), ((at_ + i + 1 : Nat) : Int), true))) else (some (((acc + 2 ^ (7 * i) * (c % 128) : Nat) : Int), ((at_ + i + 1 : Nat) : Int), true)))) := by
        intro k
        simp only [num_Get.l0]
        rw [if_pos p1, if_neg p2, p3, if_pos p4, if_pos p5, if_pos p6, hc, and127 c hc1, hor, p7, p8]
      by_cases hc3 : c > 127
      · have q1 : (c : Int) > 127 := by omega
        have q2 : c % 128 = c - 128 := by omega
        have h := ih (i + 1) (acc + 2 ^ (7 * i) * (c % 128)) (by omega) hlt
        rw [← tell_more, q2, ← Nat.add_assoc] at h
        simp only [getN]
        rw [if_pos hc3]
        refine Ev.step (fun k => ?_) h
        rw [head, if_pos q1, q2]
      · have q1 : ¬ (c : Int) > 127 := by omega
        have q2 : c % 128 = c := by omega
        simp only [getN]
        rw [if_neg hc3]
        refine Ev.step (f := fun _ => some _) (fun k => ?_) (Ev.now _)
        rw [head, if_neg q1, q2]
        by_cases hz : c = 0
        · have q3 : (c : Int) = 0 := by omega
          rw [if_pos q3]
          by_cases hi0 : i = 0
          · have q4 : ¬ (i : Int) > 0 := by omega
            rw [if_neg q4, if_neg (by intro h; exact h.2 (him.mpr hi0))]; rfl
          · have q4 : (i : Int) > 0 := by omega
            rw [if_pos q4, if_pos ⟨hz, fun h => hi0 (him.mp h)⟩]; rfl
        · have q3 : ¬ (c : Int) = 0 := by omega
          rw [if_neg q3, if_neg (fun h => hz h.1)]; rfl
    · have p2 : (at_ : Int) ≥ wrap64 ((l.length : Int) - (i : Int)) := by unfold wrap64; omega
      rw [List.drop_of_length_le (by rw [nats_length]; omega)]
      refine Ev.step (f := fun _ => some _) (fun k => ?_) (Ev.now _)
      simp only [num_Get.l0]
      rw [if_pos p1, if_pos p2]; simp only [getN, tell]
def told (at_ : Nat) : Option (Nat × Nat) → Int × Int × Bool
  | none => (0, 0, false)
  | some (v, n) => ((v : Int), ((at_ + n : Nat) : Int), true)
theorem tell_told (at_ : Nat) (o : Option (Nat × Nat)) : tell 0 0 at_ o = told at_ o := by
  cases o with
  | none => rfl
  | some p =>
    obtain ⟨v, n⟩ := p
    simp only [tell, told, Nat.mul_zero, Nat.pow_zero, Nat.one_mul, Nat.zero_add, Nat.add_zero]
theorem get_ev (l : List Int) (hb : Bytes l) (hl : l.length < 2 ^ 48) (at_ : Nat) (hat : at_ < 2 ^ 62) : Ev (fun k => num_Get.f k l (at_ : Int)) (told at_ (getN 9 ((nats l).drop at_))) := by
  have h := get_l0 l hb hl at_ hat 9 0 0 (by omega) (by decide)
  rw [tell_told, Nat.add_zero] at h
  have p : ¬ (at_ : Int) < 0 := by omega
  exact Ev.congr (fun k => by unfold num_Get.f; rw [if_neg p]; rfl) h

theorem get_put : ∀ (m n : Nat) (r : List Nat), n < 128 ^ (m + 1) → (m = 8 ∨ 0 < n) → getN (m + 1) (putN n ++ r) = some (n, (putN n).length)
  | m, n, r, h, hz => by
    by_cases h1 : n < 128
    · rw [putN_small h1, List.singleton_append, getN, if_neg (by omega), if_neg (by omega)]; rfl
    · rw [putN_more h1, List.cons_append, getN, if_pos (by omega)]
      cases m with
      | zero => omega
      | succ m =>
        have hd : n / 128 < 128 ^ (m + 1) := by rw [Nat.div_lt_iff_lt_mul (by decide)]; rw [Nat.pow_succ] at h; exact h
        rw [get_put m (n / 128) r hd (by omega)]
        simp only [Option.map_some, List.length_cons]
        congr 2
        clear hd h hz
        omega
theorem get_put9 (n : Nat) (r : List Nat) (h : n < 9223372036854775808) : getN 9 (putN n ++ r) = some (n, (putN n).length) := get_put 8 n r h (.inl rfl)
theorem get_cut : ∀ (m n : Nat), getN m ((putN n).take ((putN n).length - 1)) = none
  | 0, _ => rfl
  | m + 1, n => by
    by_cases h1 : n < 128
    · rw [putN_small h1]; rfl
    · have h2 := get_cut m (n / 128)
      rw [putN_more h1]
      have h3 : 1 ≤ (putN (n / 128)).length := by
        unfold putN; split <;> simp
      have e : (((n % 128 + 128) :: putN (n / 128)).take (((n % 128 + 128) :: putN (n / 128)).length - 1)) = (n % 128 + 128) :: (putN (n / 128)).take ((putN (n / 128)).length - 1) := by
        rw [List.length_cons, show (putN (n / 128)).length + 1 - 1 = ((putN (n / 128)).length - 1) + 1 by omega, List.take_succ_cons]
      rw [e, getN, if_pos (by omega), h2]; rfl

def big (l : List Int) (i : Nat) : Nat := (rd l (i : Int)).toNat / 2 ^ (1 + i % 60)
def told_all (l : List Int) (n : Nat) : List Nat := (List.range n).flatMap fun i => putN (big l i)
theorem big_lt (l : List Int) (hl : ∀ x ∈ l, 0 ≤ x ∧ x < 18446744073709551616) (i : Nat) (hi : i < l.length) : big l i < 9223372036854775808 := by
  unfold big
  rw [rd_at hi]
  have := hl l[i] (List.getElem_mem hi)
  obtain ⟨n, hn⟩ := Int.eq_ofNat_of_zero_le this.1
  rw [hn, Int.toNat_natCast]
  have hn2 : n < 18446744073709551616 := by omega
  rw [Nat.div_lt_iff_lt_mul (Nat.pow_pos (by decide))]
  have : 2 ≤ 2 ^ (1 + i % 60) := by
    have := Nat.pow_le_pow_right (n := 2) (by decide) (show 1 ≤ 1 + i % 60 by omega)
    simpa using this
  generalize 2 ^ (1 + i % 60) = P at this
  clear hn
  calc n < 9223372036854775808 * 2 := by omega
    _ ≤ 9223372036854775808 * P := Nat.mul_le_mul_left _ this
theorem big_term (l : List Int) (hl : ∀ x ∈ l, 0 ≤ x ∧ x < 18446744073709551616) (i : Nat) (hi : i < l.length) (h60 : i ≤ 60) :
    0 ≤ IntKind.u64.wrap (wrap64 (1 + (Int.tmod (i : Int) 60))) ∧ wrap64 (shr .u64 (rd l (i : Int)) (IntKind.u64.wrap (wrap64 (1 + (Int.tmod (i : Int) 60))))) = (big l i : Int) := by
  have e1 : IntKind.u64.wrap (wrap64 (1 + (Int.tmod (i : Int) 60))) = ((1 + i % 60 : Nat) : Int) := by
    rw [wr_u64, Int.tmod_eq_emod_of_nonneg (by omega)]; unfold wrap64; omega
  have hlt := big_lt l hl i hi
  rw [e1]
  refine ⟨Int.natCast_nonneg _, ?_⟩
  have e2 : shr .u64 (rd l (i : Int)) ((1 + i % 60 : Nat) : Int) = (big l i : Int) := by
    unfold shr big
    rw [Int.toNat_natCast, Nat.min_eq_left (by show 1 + i % 60 ≤ 64; omega)]
    have := hl l[i] (List.getElem_mem hi)
    rw [rd_at hi]
    obtain ⟨n, hn⟩ := Int.eq_ofNat_of_zero_le this.1
    rw [hn, Int.toNat_natCast]; simp
  rw [e2]
  generalize big l i = z at hlt
  clear e1 e2
  exact w64 (by omega) (by omega)
theorem told_succ (l : List Int) (i : Nat) : told_all l (i + 1) = told_all l i ++ putN (big l i) := by
  unfold told_all; rw [List.range_succ, List.flatMap_append]; simp
theorem told_len (l : List Int) (hl : ∀ x ∈ l, 0 ≤ x ∧ x < 18446744073709551616) : ∀ n, n ≤ l.length → (told_all l n).length ≤ 9 * n
  | 0, _ => by simp [told_all]
  | n + 1, h => by
    rw [told_succ, List.length_append]
    have := told_len l hl n (by omega)
    have h2 := putN_len9 (big_lt l hl n (by omega))
    omega
theorem told_bytes (l : List Int) (n : Nat) : Bytes (ints (told_all l n)) := by
  apply ints_bytes
  intro c hc
  unfold told_all at hc
  obtain ⟨i, _, hi⟩ := List.mem_flatMap.1 hc
  exact putN_lt _ _ (Nat.le_refl _) c hi
/-- How often a number goes by seven bits till nothing is left. -/
theorem long_l1 (x0 x3 : List Int) (x4 : Int) (x6 : List Int) : ∀ (m v n : Nat), v < 128 ^ m → n + m < 100 →
    Ev (fun k => iceboxlaw1_NumLong.l1 k x0 x3 x4 x6 ((n + (if v = 0 then 0 else (putN v).length) : Nat) : Int) 0) true → Ev (fun k => iceboxlaw1_NumLong.l1 k x0 x3 x4 x6 (n : Int) (v : Int)) true := by
  intro m
  induction m with
  | zero =>
    intro v n hv hn h
    obtain rfl : v = 0 := by omega
    exact h
  | succ m ih =>
    intro v n hv hn h
    by_cases hz : v = 0
    · subst hz; exact h
    · have hd : v / 128 < 128 ^ m := by rw [Nat.div_lt_iff_lt_mul (by decide)]; rw [Nat.pow_succ] at hv; exact hv
      have p1 : (v : Int) > 0 := by omega
      have h2 := ih (v / 128) (n + 1) hd (by omega) (by
        rw [if_neg hz] at h
        have e : n + 1 + (if v / 128 = 0 then 0 else (putN (v / 128)).length) = n + (putN v).length := by
          by_cases h1 : v < 128
          · rw [if_pos (by omega), putN_small h1]; rfl
          · rw [if_neg (by omega), putN_more h1, List.length_cons]; omega
        rw [e]; exact h)
      have p2 : wrap64 ((n : Int) + 1) = ((n + 1 : Nat) : Int) := by unfold wrap64; omega
      refine Ev.step (fun k => ?_) h2
      simp only [iceboxlaw1_NumLong.l1]
      rw [if_pos p1, p2]; rfl
theorem long_l2 (l : List Int) (hl : ∀ x ∈ l, 0 ≤ x ∧ x < 18446744073709551616) (h60 : l.length ≤ 60) : ∀ (d i : Nat), i + d = l.length →
    Ev (fun k => iceboxlaw1_NumLong.l2 k l (ints (told_all l l.length)) ((told_all l i).length : Int) (i : Int)) true := by
  have hb := told_bytes l l.length
  have hlen := told_len l hl l.length (Nat.le_refl _)
  have hsplit : ∀ d i, i + d = l.length → ∃ r, told_all l l.length = told_all l i ++ r ∧ (i < l.length → r = putN (big l i) ++ r.drop (putN (big l i)).length) := by
    intro d
    induction d with
    | zero => intro i hi; exact ⟨[], by rw [show i = l.length by omega, List.append_nil], fun h => by omega⟩
    | succ d ih =>
      intro i hi
      obtain ⟨r, hr, _⟩ := ih (i + 1) (by omega)
      refine ⟨putN (big l i) ++ r, by rw [hr, told_succ, List.append_assoc], fun _ => by rw [List.drop_left]⟩
  have hil : (ints (told_all l l.length)).length < 2 ^ 48 := by rw [ints_length]; omega
  intro d
  induction d with
  | zero =>
    intro i hi
    obtain rfl : i = l.length := by omega
    have h := get_ev (ints (told_all l l.length)) hb hil (told_all l l.length).length (by omega)
    rw [nats_ints, List.drop_length] at h
    have p1 : ¬ (l.length : Int) < (l.length : Int) := by omega
    refine Ev.step (fun k => ?_) (Ev.bind h (r := true) (f := fun k bt125 => (if ((told_all l l.length).length : Int) = ((ints (told_all l l.length)).length : Int) then (if bt125.2.2 = true then (some false) else ((iceboxlaw1_awake.f k).bind fun t128 => (some t128))) else (some false))) ?_)
    · simp only [iceboxlaw1_NumLong.l2]
      rw [if_neg p1]
    · refine Ev.congr (fun k => ?_) (Ev.bind awake1_ev (Ev.now _))
      rw [if_pos (by rw [ints_length]), if_neg (by simp [getN, told])]
  | succ d ih =>
    intro i hi
    obtain ⟨r, hr, hr2⟩ := hsplit (d + 1) i hi
    have hlt : i < l.length := by omega
    have hli := told_len l hl i (by omega)
    have hbig := big_lt l hl i hlt
    obtain ⟨q1, q2⟩ := big_term l hl i hlt (by omega)
    have h := get_ev (ints (told_all l l.length)) hb hil (told_all l i).length (by omega)
    rw [nats_ints] at h
    rw [show (told_all l l.length).drop (told_all l i).length = r by rw [hr, List.drop_left], hr2 hlt, get_put9 _ _ hbig] at h
    have p1 : (i : Int) < (l.length : Int) := by omega
    have p2 : (0 : Int) ≤ (i : Int) := by omega
    have p7 : wrap64 ((i : Int) + 1) = ((i + 1 : Nat) : Int) := by unfold wrap64; omega
    have h2 := ih (i + 1) (by omega)
    rw [told_succ, List.length_append] at h2
    refine Ev.step (fun k => ?_) (Ev.bind h (r := true) (f := fun k bt121 => (if bt121.2.2 = true then (if 0 ≤ (i : Int) then (if 0 ≤ (IntKind.u64.wrap (wrap64 (1 + (Int.tmod (i : Int) 60)))) then (if bt121.1 = (wrap64 (shr .u64 (rd l (i : Int)) (IntKind.u64.wrap (wrap64 (1 + (Int.tmod (i : Int) 60)))))) then (iceboxlaw1_NumLong.l2 k l (ints (told_all l l.length)) bt121.2.1 (wrap64 ((i : Int) + 1))) else (some false)) else (none)) else (none)) else (some false))) ?_)
    · simp only [iceboxlaw1_NumLong.l2]
      rw [if_pos p1]
    · refine Ev.congr (fun k => ?_) h2
      rw [if_pos (by rfl), if_pos p2, if_pos q1, q2, if_pos (by rfl), p7]
      rfl
theorem long_l0 (l : List Int) (hl : ∀ x ∈ l, 0 ≤ x ∧ x < 18446744073709551616) (h60 : l.length ≤ 60) : ∀ (d i : Nat), i + d = l.length →
    Ev (fun k => iceboxlaw1_NumLong.l0 k l (ints (told_all l i)) (i : Int)) true := by
  intro d
  induction d with
  | zero =>
    intro i hi
    obtain rfl : i = l.length := by omega
    have p1 : ¬ (l.length : Int) < (l.length : Int) := by omega
    have h := long_l2 l hl h60 l.length 0 (by omega)
    refine Ev.step (fun k => ?_) h
    simp only [iceboxlaw1_NumLong.l0]
    rw [if_neg p1]; rfl
  | succ d ih =>
    intro i hi
    have hlt : i < l.length := by omega
    have p1 : (i : Int) < (l.length : Int) := by omega
    have p2 : (0 : Int) ≤ (i : Int) := by omega
    have p7 : wrap64 ((i : Int) + 1) = ((i + 1 : Nat) : Int) := by unfold wrap64; omega
    have hbig := big_lt l hl i hlt
    have h9 := putN_len9 hbig
    have hli := told_len l hl i (by omega)
    obtain ⟨q1, q2⟩ := big_term l hl i hlt (by omega)
    have h := put_ev (big l i) hbig
    have h2 := ih (i + 1) (by omega)
    rw [told_succ, ints_append] at h2
    have e1 : ((big l i : Int) / 128) = ((big l i / 128 : Nat) : Int) := by simp
    have hd : big l i / 128 < 128 ^ 8 := by rw [Nat.div_lt_iff_lt_mul (by decide)]; exact Nat.lt_of_lt_of_le hbig (by decide)
    refine Ev.step (fun k => ?_) (Ev.bind h (r := true) (f := fun k t115 => iceboxlaw1_NumLong.l1 k l (ints (told_all l i)) (i : Int) t115 1 ((big l i / 128 : Nat) : Int)) ?_)
    · simp only [iceboxlaw1_NumLong.l0]
      rw [if_pos p1, if_pos p2, if_pos q1, q2, e1]
    · refine long_l1 l (ints (told_all l i)) (i : Int) (ints (putN (big l i))) 8 (big l i / 128) 1 hd (by omega) ?_
      have e2 : 1 + (if big l i / 128 = 0 then 0 else (putN (big l i / 128)).length) = (putN (big l i)).length := by
        by_cases h1 : big l i < 128
        · rw [if_pos (by omega), putN_small h1]; rfl
        · rw [if_neg (by omega), putN_more h1, List.length_cons]; omega
      rw [e2]
      refine Ev.step (fun k => ?_) h2
      simp only [iceboxlaw1_NumLong.l1]
      have p3 : ¬ (0 : Int) > 0 := by omega
      have p4 : (ints (told_all l i)).length + (ints (putN (big l i))).length < 140737488355328 := by rw [ints_length, ints_length]; omega
      rw [if_neg p3, if_pos (by rw [ints_length]), if_pos p4, p7]
theorem NumLong : iceboxlaw1_NumLong.Pure := by
  intro l _ _ hw
  have hl : ∀ x ∈ l, 0 ≤ x ∧ x < 18446744073709551616 := fun x hx => wf_u64 (hw x hx)
  apply Ev.rounds
  unfold iceboxlaw1_NumLong.f
  by_cases h : (l.length : Int) > 60
  · exact Ev.congr (fun k => by rw [if_pos h]) (Ev.bind awake1_ev (Ev.now _))
  · exact Ev.congr (fun k => by rw [if_neg h]; rfl) (long_l0 l hl (by omega) l.length 0 (by omega))

end Go.Proofs.Ytkdchjbbhbfjfaa.Pure
