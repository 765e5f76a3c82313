/- The pure statement of the law NumJust: over the Lean functions that the Go code was shown to compute, the law answers true for every input within the statement's own bounds. No further conditions. -/
import Derived.Test.YtkdchjbbhbfjfaaPNumJustx2
namespace Go.Proofs.Ytkdchjbbhbfjfaa.Pure
open Go.RowKit Go.Proofs.Ytkdchjbbhbfjfaa.PNumJust Go.Proofs.YtkdchjbbhbfjfaaW.PrintWords Go.Proofs.YtkdchjbbhbfjfaaW.PrintLast Go.Proofs.YtkdchjbbhbfjfaaW.PrintMore
set_option linter.unusedVariables false
set_option linter.unusedSimpArgs false

theorem w64 {x : Int} (h0 : -9223372036854775808 ≤ x) (h1 : x < 9223372036854775808) : wrap64 x = x := by
  unfold wrap64; omega
theorem bits_xor_nat (k : IntKind) (j : Nat) (hj : j ≤ k.bits) (hk : ∀ n : Int, 0 ≤ n → n < 2 ^ j → k.wrap n = n) (a b : Nat) (ha : a < 2 ^ j) (hb : b < 2 ^ j) :
    Go.bits .xor k a b = ((a ^^^ b : Nat) : Int) := by
  have hp : 2 ^ j ≤ 2 ^ k.bits := Nat.pow_le_pow_right (by decide) hj
  have ha' : a % 2 ^ k.bits = a := Nat.mod_eq_of_lt (Nat.lt_of_lt_of_le ha hp)
  have hb' : b % 2 ^ k.bits = b := Nat.mod_eq_of_lt (Nat.lt_of_lt_of_le hb hp)
  simp only [Go.bits, BitVec.ofInt_natCast, BitVec.toNat_xor, BitVec.toNat_ofNat, ha', hb']
  exact hk _ (Int.natCast_nonneg _) (by exact_mod_cast Nat.xor_lt_two_pow ha hb)
theorem wr_u32 (n : Int) (h₀ : 0 ≤ n) (h₁ : n < 2 ^ 32) : IntKind.u32.wrap n = n := by rw [IntKind.wrap_u32]; omega
theorem wr_u8 (n : Int) (h₀ : 0 ≤ n) (h₁ : n < 2 ^ 8) : IntKind.u8.wrap n = n := by rw [IntKind.wrap_u8]; omega
theorem wr_i64 (n : Int) (h₀ : 0 ≤ n) (h₁ : n < 2 ^ 63) : IntKind.i64.wrap n = n := by rw [IntKind.wrap_i64]; omega
theorem wr_u64 (n : Int) : IntKind.u64.wrap n = n % 18446744073709551616 := by simp [IntKind.wrap, IntKind.bits, IntKind.signed]
theorem bx_u32 (a b : Nat) (ha : a < 2 ^ 32) (hb : b < 2 ^ 32) : Go.bits .xor .u32 a b = ((a ^^^ b : Nat) : Int) := bits_xor_nat .u32 32 (by decide) wr_u32 a b ha hb
theorem bx_u8 (a b : Nat) (ha : a < 2 ^ 8) (hb : b < 2 ^ 8) : Go.bits .xor .u8 a b = ((a ^^^ b : Nat) : Int) := bits_xor_nat .u8 8 (by decide) wr_u8 a b ha hb
theorem bx_i64 (a b : Nat) (ha : a < 2 ^ 63) (hb : b < 2 ^ 63) : Go.bits .xor .i64 a b = ((a ^^^ b : Nat) : Int) := bits_xor_nat .i64 63 (by decide) wr_i64 a b ha hb
theorem bo_i64 (a b : Nat) (ha : a < 2 ^ 63) (hb : b < 2 ^ 63) : Go.bits .or .i64 a b = ((a ||| b : Nat) : Int) := (bits_nat .i64 63 (by decide) wr_i64 a b ha hb).2
theorem bo_u8 (a b : Nat) (ha : a < 2 ^ 8) (hb : b < 2 ^ 8) : Go.bits .or .u8 a b = ((a ||| b : Nat) : Int) := (bits_nat .u8 8 (by decide) wr_u8 a b ha hb).2
theorem ba_u8 (a b : Nat) (ha : a < 2 ^ 8) (hb : b < 2 ^ 8) : Go.bits .and .u8 a b = ((a &&& b : Nat) : Int) := (bits_nat .u8 8 (by decide) wr_u8 a b ha hb).1
theorem ba_u32 (a b : Nat) (ha : a < 2 ^ 32) (hb : b < 2 ^ 32) : Go.bits .and .u32 a b = ((a &&& b : Nat) : Int) := (bits_nat .u32 32 (by decide) wr_u32 a b ha hb).1
theorem max_u32 : IntKind.u32.max = ((4294967295 : Nat) : Int) := by decide
theorem wf_u8 {x : Int} (h : (Lit.int .u8 x).wf = true) : 0 ≤ x ∧ x < 256 := by
  simp [Lit.wf, IntKind.min, IntKind.max, IntKind.signed, IntKind.bits] at h; omega
theorem wf_u16 {x : Int} (h : (Lit.int .u16 x).wf = true) : 0 ≤ x ∧ x < 65536 := by
  simp [Lit.wf, IntKind.min, IntKind.max, IntKind.signed, IntKind.bits] at h; omega
theorem wf_u32 {x : Int} (h : (Lit.int .u32 x).wf = true) : 0 ≤ x ∧ x < 4294967296 := by
  simp [Lit.wf, IntKind.min, IntKind.max, IntKind.signed, IntKind.bits] at h; omega
theorem wf_u64 {x : Int} (h : (Lit.int .u64 x).wf = true) : 0 ≤ x ∧ x < 18446744073709551616 := by
  simp [Lit.wf, IntKind.min, IntKind.max, IntKind.signed, IntKind.bits] at h; omega
theorem wf_i64 {x : Int} (h : (Lit.int .i64 x).wf = true) : -9223372036854775808 ≤ x ∧ x < 9223372036854775808 := by
  simp [Lit.wf, IntKind.min, IntKind.max, IntKind.signed, IntKind.bits] at h; omega

def ints (l : List Nat) : List Int := l.map fun n : Nat => (n : Int)
theorem ints_length (l : List Nat) : (ints l).length = l.length := by unfold ints; simp
theorem ints_append (a b : List Nat) : ints (a ++ b) = ints a ++ ints b := by unfold ints; simp
def nats (l : List Int) : List Nat := l.map Int.toNat
def Bytes (l : List Int) : Prop := ∀ x ∈ l, 0 ≤ x ∧ x < 256
theorem bytes_wf {l : List Int} (h : ∀ x ∈ l, (Lit.int .u8 x).wf = true) : Bytes l := fun x hx => wf_u8 (h x hx)
theorem nats_length (l : List Int) : (nats l).length = l.length := by unfold nats; simp
theorem nats_ints (l : List Nat) : nats (ints l) = l := by
  unfold nats ints; rw [List.map_map]
  conv => rhs; rw [← List.map_id l]
  apply List.map_congr_left; intro a _; simp
theorem ints_nats {l : List Int} (h : Bytes l) : ints (nats l) = l := by
  unfold nats ints; rw [List.map_map]
  conv => rhs; rw [← List.map_id l]
  apply List.map_congr_left; intro a ha
  have := h a ha
  simp; omega
theorem nats_lt {l : List Int} (h : Bytes l) : ∀ c ∈ nats l, c < 256 := by
  intro c hc
  obtain ⟨x, hx, rfl⟩ := List.mem_map.1 hc
  have := h x hx; omega
theorem ints_bytes {l : List Nat} (h : ∀ c ∈ l, c < 256) : Bytes (ints l) := by
  intro x hx
  obtain ⟨c, hc, rfl⟩ := List.mem_map.1 hx
  have := h c hc; omega
theorem nats_append (a b : List Int) : nats (a ++ b) = nats a ++ nats b := by unfold nats; simp
theorem nats_take (l : List Int) (n : Nat) : nats (l.take n) = (nats l).take n := by unfold nats; rw [List.map_take]
theorem nats_drop (l : List Int) (n : Nat) : nats (l.drop n) = (nats l).drop n := by unfold nats; rw [List.map_drop]
theorem rd_at {l : List Int} {i : Nat} (h : i < l.length) : rd l (i : Int) = l[i] := by
  unfold rd; simp [h]
theorem rd_byte {l : List Int} {i : Nat} (h : i < l.length) (hb : Bytes l) : ∃ c : Nat, rd l (i : Int) = c ∧ c < 256 ∧ (nats l).drop i = c :: (nats l).drop (i + 1) := by
  have := hb l[i] (List.getElem_mem h)
  have h2 : i < (nats l).length := by rw [nats_length]; exact h
  refine ⟨l[i].toNat, by rw [rd_at h]; omega, by omega, ?_⟩
  rw [List.drop_eq_getElem_cons h2]
  have h4 : i < (l.map Int.toNat).length := h2
  have h3 : (l.map Int.toNat)[i]'h4 = l[i].toNat := by rw [List.getElem_map]
  rw [← h3]; rfl

def putN (n : Nat) : List Nat := if h : n < 128 then [n] else (n % 128 + 128) :: putN (n / 128)
termination_by n
decreasing_by omega
theorem putN_small {n : Nat} (h : n < 128) : putN n = [n] := by unfold putN; rw [dif_pos h]
theorem putN_more {n : Nat} (h : ¬ n < 128) : putN n = (n % 128 + 128) :: putN (n / 128) := by rw [putN]; rw [dif_neg h]
theorem putN_len : ∀ (m n : Nat), n < 128 ^ (m + 1) → 1 ≤ (putN n).length ∧ (putN n).length ≤ m + 1
  | 0, n, h => by rw [putN_small (by omega)]; simp
  | m + 1, n, h => by
    by_cases h1 : n < 128
    · rw [putN_small h1]; simp
    · rw [putN_more h1]
      have hd : n / 128 < 128 ^ (m + 1) := by rw [Nat.div_lt_iff_lt_mul (by decide)]; rw [Nat.pow_succ] at h; exact h
      have := putN_len m (n / 128) hd
      rw [List.length_cons]
      clear h hd
      omega
theorem putN_len9 {n : Nat} (h : n < 9223372036854775808) : 1 ≤ (putN n).length ∧ (putN n).length ≤ 9 := putN_len 8 n h
theorem putN_lt : ∀ (k n : Nat), n ≤ k → ∀ c ∈ putN n, c < 256
  | 0, n, h, c, hc => by rw [putN_small (by omega)] at hc; simp at hc; omega
  | k + 1, n, h, c, hc => by
    by_cases h1 : n < 128
    · rw [putN_small h1] at hc; simp at hc; omega
    · rw [putN_more h1] at hc
      rcases List.mem_cons.1 hc with rfl | hc
      · omega
      · exact putN_lt k (n / 128) (by omega) c hc
theorem or128 (n : Nat) : Go.bits .or .u8 ((n : Int) % 256) 128 = ((n % 128 + 128 : Nat) : Int) := by
  have e : (n : Int) % 256 = ((n % 256 : Nat) : Int) := by omega
  have h := bo_u8 (n % 256) 128 (by omega) (by omega)
  rw [e]
  refine h.trans ?_
  congr 1
  have h1 : n % 128 < 2 ^ 7 := by omega
  have e2 : 128 + n % 128 = 128 ||| n % 128 := Nat.two_pow_add_eq_or_of_lt h1 1
  by_cases h2 : n % 256 < 128
  · have e3 : n % 256 = n % 128 := by omega
    rw [e3, Nat.or_comm]
    omega
  · have e3 : n % 256 = 128 ||| (n % 128) := by omega
    have e4 : 128 ||| (n % 128) = 128 + n % 128 := by omega
    rw [e3, Nat.or_assoc, Nat.or_comm (n % 128), ← Nat.or_assoc, Nat.or_self, e4]
    omega
theorem put_l0 : ∀ (m n : Nat) (acc : List Int), n < 128 ^ (m + 1) → acc.length + (m + 1) < 140737488355328 →
    Ev (fun k => num_Put.l0 k (n : Int) acc) (acc ++ ints (putN n)) := by
  intro m
  induction m with
  | zero =>
    intro n acc h hl
    have h1 : n < 128 := by omega
    rw [putN_small h1]
    refine Ev.step (f := fun _ => some _) (fun k => ?_) (Ev.now _)
    simp only [num_Put.l0]
    rw [if_neg (by omega), if_pos (by omega), show (n : Int) % 256 = n by omega]; rfl
  | succ m ih =>
    intro n acc h hl
    by_cases h1 : n < 128
    · rw [putN_small h1]
      refine Ev.step (f := fun _ => some _) (fun k => ?_) (Ev.now _)
      simp only [num_Put.l0]
      clear h
      rw [if_neg (by omega), if_pos (by omega), show (n : Int) % 256 = n by omega]; rfl
    · have hd : n / 128 < 128 ^ (m + 1) := by rw [Nat.div_lt_iff_lt_mul (by decide)]; rw [Nat.pow_succ] at h; exact h
      have h2 := ih (n / 128) (acc ++ [((n % 128 + 128 : Nat) : Int)]) hd (by rw [List.length_append, List.length_singleton]; omega)
      rw [putN_more h1]
      rw [List.append_assoc] at h2
      refine Ev.step (fun k => ?_) h2
      simp only [num_Put.l0]
      clear h hd
      rw [if_pos (by omega), if_pos (by omega), or128]
      rfl
theorem put_ev (n : Nat) (h : n < 9223372036854775808) : Ev (fun k => num_Put.f k (n : Int)) (ints (putN n)) := by
  have := put_l0 8 n [] h (by decide)
  refine Ev.congr (fun k => ?_) this
  unfold num_Put.f; rw [if_neg (by omega)]
theorem awake1_ev : Ev (fun k => iceboxlaw1_awake.f k) true := by
  have h := put_ev 300 (by decide)
  have e : ints (putN 300) = [172, 2] := by
    rw [putN_more (by omega), putN_small (by omega)]; decide
  rw [e] at h
  refine Ev.congr (fun k => rfl) (Ev.bind (g := fun k => num_Put.f k 300) h ?_)
  exact Ev.congr (f := fun _ => some true) (fun k => rfl) (Ev.now _)

def getN : Nat → List Nat → Option (Nat × Nat)
  | 0, _ => none
  | _ + 1, [] => none
  | m + 1, c :: r => if c > 127 then (getN m r).map (fun p => (c - 128 + 128 * p.1, p.2 + 1)) else if c = 0 ∧ m ≠ 8 then none else some (c, 1)
def tell (acc i at_ : Nat) : Option (Nat × Nat) → Int × Int × Bool
  | none => (0, 0, false)
  | some (v, n) => (((acc + 2 ^ (7 * i) * v : Nat) : Int), ((at_ + i + n : Nat) : Int), true)
theorem and127 (c : Nat) (h : c < 256) : Go.bits .and .u8 (c : Int) 127 = ((c % 128 : Nat) : Int) := by
  have := ba_u8 c 127 h (by decide)
  rw [show (127 : Nat) = 2 ^ 7 - 1 from rfl, Nat.and_two_pow_sub_one_eq_mod] at this
  exact this
theorem acc_or (acc d i : Nat) (h : acc < 2 ^ (7 * i)) (hd : d < 128) (hi : i ≤ 8) :
    Go.bits .or .i64 (acc : Int) (shl .i64 (wrap64 (d : Int)) (wrap64 (7 * (i : Int)))) = ((acc + 2 ^ (7 * i) * d : Nat) : Int) := by
  have e1 : wrap64 (d : Int) = d := w64 (by omega) (by omega)
  have e2 : wrap64 (7 * (i : Int)) = ((7 * i : Nat) : Int) := by unfold wrap64; omega
  have hP : 2 ^ (7 * i) ≤ 2 ^ 56 := Nat.pow_le_pow_right (by decide) (by omega)
  have hm : 2 ^ (7 * i) * d < 2 ^ 63 := by
    have h1 : 2 ^ (7 * i) * d ≤ 2 ^ 56 * 127 := Nat.mul_le_mul hP (by omega)
    exact Nat.lt_of_le_of_lt h1 (by decide)
  have ha : acc < 2 ^ 63 := Nat.lt_of_lt_of_le h (Nat.le_trans hP (by decide))
  have e3 : shl .i64 (d : Int) ((7 * i : Nat) : Int) = ((2 ^ (7 * i) * d : Nat) : Int) := by
    unfold shl
    rw [Int.toNat_natCast, Nat.min_eq_left (by show 7 * i ≤ 64; omega)]
    have : (d : Int) * 2 ^ (7 * i) = ((2 ^ (7 * i) * d : Nat) : Int) := by rw [Int.natCast_mul, Int.mul_comm]; simp
    rw [this]
    exact wr_i64 _ (Int.natCast_nonneg _) (by exact_mod_cast hm)
  rw [e1, e2, e3, bo_i64 _ _ ha hm]
  congr 1
  have := Nat.two_pow_add_eq_or_of_lt h d
  rw [Nat.or_comm, ← this, Nat.add_comm]
theorem acc_lt (acc d i : Nat) (h : acc < 2 ^ (7 * i)) (hd : d < 128) : acc + 2 ^ (7 * i) * d < 2 ^ (7 * (i + 1)) := by
  have e : 2 ^ (7 * (i + 1)) = 2 ^ (7 * i) * 128 := by rw [Nat.mul_add, Nat.pow_add]
  rw [e]
  generalize 2 ^ (7 * i) = P at h ⊢
  have : P * d ≤ P * 127 := Nat.mul_le_mul_left _ (by omega)
  omega
theorem tell_more (acc i at_ d : Nat) (o : Option (Nat × Nat)) : tell acc i at_ (o.map (fun p => (d + 128 * p.1, p.2 + 1))) = tell (acc + 2 ^ (7 * i) * d) (i + 1) at_ o := by
  cases o with
  | none => rfl
  | some p =>
    obtain ⟨v, n⟩ := p
    simp only [tell, Option.map_some]
    have e : 2 ^ (7 * (i + 1)) = 2 ^ (7 * i) * 128 := by rw [Nat.mul_add, Nat.pow_add]
    rw [e, Nat.mul_add, ← Nat.mul_assoc, ← Nat.add_assoc, show at_ + (i + 1) + n = at_ + i + (n + 1) by omega]
theorem get_l0 (l : List Int) (hb : Bytes l) (hl : l.length < 2 ^ 48) (at_ : Nat) (hat : at_ < 2 ^ 62) : ∀ (m i acc : Nat), i + m = 9 → acc < 2 ^ (7 * i) →
    Ev (fun k => num_Get.l0 k l (at_ : Int) (acc : Int) (i : Int)) (tell acc i at_ (getN m ((nats l).drop (at_ + i)))) := by
  intro m
  induction m with
  | zero =>
    intro i acc hi ha
    refine Ev.step (f := fun _ => some _) (fun k => ?_) (Ev.now _)
    simp only [num_Get.l0]
    have p : ¬ (i : Int) < 9 := by omega
    rw [if_neg p]; simp only [getN, tell]
  | succ m ih =>
    intro i acc hi ha
    have p1 : (i : Int) < 9 := by omega
    by_cases hin : at_ + i < l.length
    · have p2 : ¬ (at_ : Int) ≥ wrap64 ((l.length : Int) - (i : Int)) := by unfold wrap64; omega
      have p3 : wrap64 ((at_ : Int) + (i : Int)) = ((at_ + i : Nat) : Int) := by unfold wrap64; omega
      have p4 : (0 : Int) ≤ ((at_ + i : Nat) : Int) := by omega
      have p5 : ((at_ + i : Nat) : Int) < (l.length : Int) := by omega
      have p6 : 0 ≤ wrap64 (7 * (i : Int)) := by rw [w64 (by omega) (by omega)]; omega
      have p7 : wrap64 ((i : Int) + 1) = ((i + 1 : Nat) : Int) := by unfold wrap64; omega
      have p8 : wrap64 (((at_ + i : Nat) : Int) + 1) = ((at_ + i + 1 : Nat) : Int) := by unfold wrap64; omega
      have him : (m = 8) = (i = 0) := by rw [eq_iff_iff]; omega
      obtain ⟨c, hc, hc1, hc2⟩ := rd_byte (l := l) (i := at_ + i) hin hb
      have hor := acc_or acc (c % 128) i ha (Nat.mod_lt _ (by decide)) (by omega)
      have hlt := acc_lt acc (c % 128) i ha (Nat.mod_lt _ (by decide))
      rw [hc2]
      have head : ∀ k, num_Get.l0 (k + 1) l (at_ : Int) (acc : Int) (i : Int) = (if (c : Int) > 127 then (num_Get.l0 k l (at_ : Int) ((acc + 2 ^ (7 * i) * (c % 128) : Nat) : Int) ((i + 1 : Nat) : Int)) else (if (c : Int) = 0 then (if (i : Int) > 0 then (some (0, 0, false)) else (some (((acc + 2 ^ (7 * i) * (c % 128) : Nat) : Int), ((at_ + i + 1 : Nat) : Int), true))) else (some (((acc + 2 ^ (7 * i) * (c % 128) : Nat) : Int), ((at_ + i + 1 : Nat) : Int), true)))) := by
        intro k
        simp only [num_Get.l0]
        rw [if_pos p1, if_neg p2, p3, if_pos p4, if_pos p5, if_pos p6, hc, and127 c hc1, hor, p7, p8]
      by_cases hc3 : c > 127
      · have q1 : (c : Int) > 127 := by omega
        have q2 : c % 128 = c - 128 := by omega
        have h := ih (i + 1) (acc + 2 ^ (7 * i) * (c % 128)) (by omega) hlt
        rw [← tell_more, q2, ← Nat.add_assoc] at h
        simp only [getN]
        rw [if_pos hc3]
        refine Ev.step (fun k => ?_) h
        rw [head, if_pos q1, q2]
      · have q1 : ¬ (c : Int) > 127 := by omega
        have q2 : c % 128 = c := by omega
        simp only [getN]
        rw [if_neg hc3]
        refine Ev.step (f := fun _ => some _) (fun k => ?_) (Ev.now _)
        rw [head, if_neg q1, q2]
        by_cases hz : c = 0
        · have q3 : (c : Int) = 0 := by omega
          rw [if_pos q3]
          by_cases hi0 : i = 0
          · have q4 : ¬ (i : Int) > 0 := by omega
            rw [if_neg q4, if_neg (by intro h; exact h.2 (him.mpr hi0))]; rfl
          · have q4 : (i : Int) > 0 := by omega
            rw [if_pos q4, if_pos ⟨hz, fun h => hi0 (him.mp h)⟩]; rfl
        · have q3 : ¬ (c : Int) = 0 := by omega
          rw [if_neg q3, if_neg (fun h => hz h.1)]; rfl
    · have p2 : (at_ : Int) ≥ wrap64 ((l.length : Int) - (i : Int)) := by unfold wrap64; omega
      rw [List.drop_of_length_le (by rw [nats_length]; omega)]
      refine Ev.step (f := fun _ => some _) (fun k => ?_) (Ev.now _)
      simp only [num_Get.l0]
      rw [if_pos p1, if_pos p2]; simp only [getN, tell]
def told (at_ : Nat) : Option (Nat × Nat) → Int × Int × Bool
  | none => (0, 0, false)
  | some (v, n) => ((v : Int), ((at_ + n : Nat) : Int), true)
theorem tell_told (at_ : Nat) (o : Option (Nat × Nat)) : tell 0 0 at_ o = told at_ o := by
  cases o with
  | none => rfl
  | some p =>
    obtain ⟨v, n⟩ := p
    simp only [tell, told, Nat.mul_zero, Nat.pow_zero, Nat.one_mul, Nat.zero_add, Nat.add_zero]
theorem get_ev (l : List Int) (hb : Bytes l) (hl : l.length < 2 ^ 48) (at_ : Nat) (hat : at_ < 2 ^ 62) : Ev (fun k => num_Get.f k l (at_ : Int)) (told at_ (getN 9 ((nats l).drop at_))) := by
  have h := get_l0 l hb hl at_ hat 9 0 0 (by omega) (by decide)
  rw [tell_told, Nat.add_zero] at h
  have p : ¬ (at_ : Int) < 0 := by omega
  exact Ev.congr (fun k => by unfold num_Get.f; rw [if_neg p]; rfl) h

theorem get_put : ∀ (m n : Nat) (r : List Nat), n < 128 ^ (m + 1) → (m = 8 ∨ 0 < n) → getN (m + 1) (putN n ++ r) = some (n, (putN n).length)
  | m, n, r, h, hz => by
    by_cases h1 : n < 128
    · rw [putN_small h1, List.singleton_append, getN, if_neg (by omega), if_neg (by omega)]; rfl
    · rw [putN_more h1, List.cons_append, getN, if_pos (by omega)]
      cases m with
      | zero => omega
      | succ m =>
        have hd : n / 128 < 128 ^ (m + 1) := by rw [Nat.div_lt_iff_lt_mul (by decide)]; rw [Nat.pow_succ] at h; exact h
        rw [get_put m (n / 128) r hd (by omega)]
        simp only [Option.map_some, List.length_cons]
        congr 2
        clear hd h hz
        omega
theorem get_put9 (n : Nat) (r : List Nat) (h : n < 9223372036854775808) : getN 9 (putN n ++ r) = some (n, (putN n).length) := get_put 8 n r h (.inl rfl)
theorem get_cut : ∀ (m n : Nat), getN m ((putN n).take ((putN n).length - 1)) = none
  | 0, _ => rfl
  | m + 1, n => by
    by_cases h1 : n < 128
    · rw [putN_small h1]; rfl
    · have h2 := get_cut m (n / 128)
      rw [putN_more h1]
      have h3 : 1 ≤ (putN (n / 128)).length := by
        unfold putN; split <;> simp
      have e : (((n % 128 + 128) :: putN (n / 128)).take (((n % 128 + 128) :: putN (n / 128)).length - 1)) = (n % 128 + 128) :: (putN (n / 128)).take ((putN (n / 128)).length - 1) := by
        rw [List.length_cons, show (putN (n / 128)).length + 1 - 1 = ((putN (n / 128)).length - 1) + 1 by omega, List.take_succ_cons]
      rw [e, getN, if_pos (by omega), h2]; rfl

theorem strOf_bytes (s : ByteArray) : strOfNums (bytesOf s) = s := by
  unfold strOfNums bytesOf
  rw [List.map_map]
  have : s.data.toList.map ((fun n : Int => UInt8.ofNat n.toNat) ∘ fun b : UInt8 => (b.toNat : Int)) = s.data.toList := by
    conv => rhs; rw [← List.map_id s.data.toList]
    apply List.map_congr_left; intro a _; simp
  rw [this]
theorem bytesOf_bytes (s : ByteArray) : Bytes (bytesOf s) := by
  intro x hx
  obtain ⟨c, _, rfl⟩ := List.mem_map.1 hx
  have := c.toNat_lt
  omega
def textI (s : ByteArray) : List Int := ints (putN s.size) ++ bytesOf s
theorem textI_length (s : ByteArray) : (textI s).length = (putN s.size).length + s.size := by
  unfold textI; rw [List.length_append, ints_length, bytesOf_length]
theorem textI_bytes (s : ByteArray) : Bytes (textI s) := by
  intro x hx
  rcases List.mem_append.1 hx with h | h
  · exact ints_bytes (putN_lt _ _ (Nat.le_refl _)) x h
  · exact bytesOf_bytes s x h
theorem puttext_ev (s : ByteArray) (h : s.size ≤ 1099511627776) : Ev (fun k => num_PutText.f k s) (textI s) := by
  have h1 := put_ev s.size (by omega)
  have h9 := putN_len9 (n := s.size) (by omega)
  have p : (ints (putN s.size)).length + s.size < 140737488355328 := by rw [ints_length]; omega
  exact Ev.congr (fun k => rfl) (Ev.bind h1 (Ev.congr (fun k => by rw [if_pos p]; rfl) (Ev.now _)))
def toldT (l : List Int) (at_ : Nat) : Option (Nat × Nat) → ByteArray × Int × Bool
  | none => ((⟨#[]⟩ : ByteArray), 0, false)
  | some (v, n) => if l.length < at_ + n + v then ((⟨#[]⟩ : ByteArray), 0, false) else (strOfNums ((l.take (at_ + n + v)).drop (at_ + n)), ((at_ + n + v : Nat) : Int), true)
theorem getN_bound : ∀ (m : Nat) (l : List Nat) (v n : Nat), (∀ c ∈ l, c < 256) → getN m l = some (v, n) → v < 128 ^ m ∧ 1 ≤ n ∧ n ≤ l.length
  | 0, _, _, _, _, h => by simp [getN] at h
  | m + 1, [], _, _, _, h => by simp [getN] at h
  | m + 1, c :: r, v, n, hl, h => by
    have hc := hl c (by simp)
    rw [getN] at h
    by_cases h1 : c > 127
    · rw [if_pos h1] at h
      obtain ⟨p, hp, he⟩ := Option.map_eq_some_iff.1 h
      obtain ⟨h2, h3, h4⟩ := getN_bound m r p.1 p.2 (fun x hx => hl x (by simp [hx])) hp
      simp only [Prod.mk.injEq] at he
      obtain ⟨rfl, rfl⟩ := he
      rw [List.length_cons, Nat.pow_succ]
      refine ⟨?_, by omega, by omega⟩
      omega
    · rw [if_neg h1] at h
      split at h
      · cases h
      · simp only [Option.some.injEq, Prod.mk.injEq] at h
        obtain ⟨rfl, rfl⟩ := h
        rw [List.length_cons]
        refine ⟨?_, by omega, by omega⟩
        have : 128 ^ 1 ≤ 128 ^ (m + 1) := Nat.pow_le_pow_right (by decide) (by omega)
        omega
theorem gettext_ev (l : List Int) (hb : Bytes l) (hl : l.length < 2 ^ 48) (at_ : Nat) (hat : at_ < 2 ^ 62) : Ev (fun k => num_GetText.f k l (at_ : Int)) (toldT l at_ (getN 9 ((nats l).drop at_))) := by
  have h := get_ev l hb hl at_ hat
  refine Ev.congr (fun k => rfl) (Ev.bind h (f := fun k (bt119 : Int × Int × Bool) => (if bt119.2.2 = true then (if bt119.1 > (wrap64 ((l.length : Int) - bt119.2.1)) then (some ((⟨#[]⟩ : ByteArray), 0, false)) else (if 0 ≤ bt119.2.1 then (if bt119.2.1 ≤ (wrap64 (bt119.2.1 + bt119.1)) then (if (wrap64 (bt119.2.1 + bt119.1)) ≤ (l.length : Int) then (some (strOfNums ((l.take ((wrap64 (bt119.2.1 + bt119.1)) : Int).toNat).drop (bt119.2.1 : Int).toNat), wrap64 (bt119.2.1 + bt119.1), true)) else (none)) else (none)) else (none))) else (some ((⟨#[]⟩ : ByteArray), 0, false)))) ?_)
  cases ho : getN 9 ((nats l).drop at_) with
  | none => exact Ev.congr (f := fun _ => some _) (fun k => by rw [if_neg (show ¬ (told at_ none).2.2 = true by simp [told])]; rfl) (Ev.now _)
  | some p =>
    obtain ⟨v, n⟩ := p
    obtain ⟨hv, hn1, hn2⟩ := getN_bound 9 _ v n (fun c hc => nats_lt hb c (List.mem_of_mem_drop hc)) ho
    rw [List.length_drop, nats_length] at hn2
    have hv2 : v < 9223372036854775808 := hv
    clear hv
    have et : told at_ (some (v, n)) = ((v : Int), ((at_ + n : Nat) : Int), true) := rfl
    rw [et]
    simp only [toldT]
    have p0 : (0 : Int) ≤ ((at_ + n : Nat) : Int) := by omega
    by_cases hlt : l.length < at_ + n + v
    · have p1 : (v : Int) > wrap64 ((l.length : Int) - ((at_ + n : Nat) : Int)) := by rw [w64 (by omega) (by omega)]; omega
      rw [if_pos hlt]
      exact Ev.congr (f := fun _ => some _) (fun k => by simp only [if_true, if_pos p1]) (Ev.now _)
    · have p1 : ¬ (v : Int) > wrap64 ((l.length : Int) - ((at_ + n : Nat) : Int)) := by rw [w64 (by omega) (by omega)]; omega
      have p2 : wrap64 (((at_ + n : Nat) : Int) + (v : Int)) = ((at_ + n + v : Nat) : Int) := by rw [w64 (by omega) (by omega)]; omega
      have p3 : ((at_ + n : Nat) : Int) ≤ ((at_ + n + v : Nat) : Int) := by omega
      have p4 : ((at_ + n + v : Nat) : Int) ≤ (l.length : Int) := by omega
      rw [if_neg hlt]
      exact Ev.congr (f := fun _ => some _) (fun k => by simp only [if_true, if_neg p1, if_pos p0, p2, if_pos p3, if_pos p4, Int.toNat_natCast]) (Ev.now _)

theorem get_just : ∀ (m : Nat) (l : List Nat) (v n : Nat), m ≤ 9 → (∀ c ∈ l, c < 256) → getN m l = some (v, n) → putN v = l.take n ∧ (m = 9 ∨ 0 < v)
  | 0, _, _, _, _, _, h => by simp [getN] at h
  | m + 1, [], _, _, _, _, h => by simp [getN] at h
  | m + 1, c :: r, v, n, hm, hl, h => by
    have hc := hl c (by simp)
    rw [getN] at h
    by_cases h1 : c > 127
    · rw [if_pos h1] at h
      obtain ⟨p, hp, he⟩ := Option.map_eq_some_iff.1 h
      obtain ⟨h2, h3⟩ := get_just m r p.1 p.2 (by omega) (fun x hx => hl x (by simp [hx])) hp
      simp only [Prod.mk.injEq] at he
      obtain ⟨rfl, rfl⟩ := he
      have h4 : 0 < p.1 := by omega
      rw [putN_more (by omega), List.take_succ_cons, ← h2, show (c - 128 + 128 * p.1) % 128 + 128 = c by omega, show (c - 128 + 128 * p.1) / 128 = p.1 by omega]
      exact ⟨rfl, by omega⟩
    · rw [if_neg h1] at h
      split at h
      · cases h
      · rename_i h5
        simp only [Option.some.injEq, Prod.mk.injEq] at h
        obtain ⟨rfl, rfl⟩ := h
        rw [putN_small (by omega)]
        exact ⟨rfl, by omega⟩
theorem bytes_str {X : List Int} (h : Bytes X) : bytesOf (strOfNums X) = X := by
  unfold bytesOf strOfNums
  simp only [List.map_map]
  conv => rhs; rw [← List.map_id X]
  apply List.map_congr_left; intro a ha
  have := h a ha
  simp; omega
theorem drop_take_just {l : List Int} (hb : Bytes l) (at_ v n : Nat) (h : getN 9 ((nats l).drop at_) = some (v, n)) : ints (putN v) = (l.take (at_ + n)).drop at_ := by
  have h1 := (get_just 9 _ v n (by omega) (fun c hc => nats_lt hb c (List.mem_of_mem_drop hc)) h).1
  rw [h1, ← nats_drop, ← nats_take, List.drop_take, show at_ + n - at_ = n by omega]
  exact ints_nats (fun x hx => hb x (List.mem_of_mem_drop (List.mem_of_mem_take hx)))
theorem just_is (v : Int) (nx : Int) (ok : Bool) (h1 : ok = false → v = 0 ∧ nx = 0) :
    Ev (fun k => if ok = true then ((iceboxlaw1_awake.f k).bind fun t147 => (some t147)) else (if v = 0 then (if nx = 0 then ((iceboxlaw1_awake.f k).bind fun t148 => (some t148)) else (some false)) else (some false))) true := by
  have ha : Ev (fun k => (iceboxlaw1_awake.f k).bind fun t => some t) true := Ev.bind awake1_ev (f := fun _ t => some t) (Ev.now _)
  cases ok with
  | true => exact Ev.congr (fun k => by rw [if_pos rfl]) ha
  | false =>
    obtain ⟨h5, h6⟩ := h1 rfl
    exact Ev.congr (fun k => by rw [if_neg (by decide), if_pos h5, if_pos h6]) ha
theorem just_not (v : Int) (nx : Int) (ok : Bool) (h1 : ok = false → v = 0 ∧ nx = 0) (s : ByteArray) (e : Int) (h3 : s.toList = ([] : List UInt8)) (h4 : e = 0) :
    Ev (fun k => if ok = true then (if s.toList = ([] : List UInt8) then (if e = 0 then ((iceboxlaw1_awake.f k).bind fun t149 => (some t149)) else (some false)) else (some false)) else (if v = 0 then (if nx = 0 then (if s.toList = ([] : List UInt8) then (if e = 0 then ((iceboxlaw1_awake.f k).bind fun t149 => (some t149)) else (some false)) else (some false)) else (some false)) else (some false))) true := by
  have ha : Ev (fun k => (iceboxlaw1_awake.f k).bind fun t => some t) true := Ev.bind awake1_ev (f := fun _ t => some t) (Ev.now _)
  cases ok with
  | true => exact Ev.congr (fun k => by rw [if_pos rfl, if_pos h3, if_pos h4]) ha
  | false =>
    obtain ⟨h5, h6⟩ := h1 rfl
    exact Ev.congr (fun k => by rw [if_neg (by decide), if_pos h5, if_pos h6, if_pos h3, if_pos h4]) ha
theorem just_j0 (l : List Int) (hb : Bytes l) (hl : l.length ≤ 500) (k0 : Nat) (hk : k0 < 256) (v : Int) (nx : Int) (ok : Bool) (h1 : ok = false → v = 0 ∧ nx = 0) :
    Ev (fun k => iceboxlaw1_NumJust.j0 k l (k0 : Int) v nx ok (toldT l k0 (getN 9 ((nats l).drop k0))).1 (toldT l k0 (getN 9 ((nats l).drop k0))).2.1 (toldT l k0 (getN 9 ((nats l).drop k0))).2.2 false) true := by
  have hempty : (⟨#[]⟩ : ByteArray).toList = ([] : List UInt8) := by unfold ByteArray.toList; unfold ByteArray.toList.loop; rfl
  cases ho : getN 9 ((nats l).drop k0) with
  | none =>
    have hj := just_not v nx ok h1 (⟨#[]⟩ : ByteArray) 0 hempty rfl
    refine Ev.step (fun k => ?_) hj
    rw [iceboxlaw1_NumJust.j0]
    simp only [toldT]
    rw [if_neg (by decide), if_neg (by decide)]
  | some p =>
    obtain ⟨w, n⟩ := p
    obtain ⟨hv, hn1, hn2⟩ := getN_bound 9 _ w n (fun c hc => nats_lt hb c (List.mem_of_mem_drop hc)) ho
    rw [List.length_drop, nats_length] at hn2
    clear hv
    by_cases hlt : l.length < k0 + n + w
    · have hj := just_not v nx ok h1 (⟨#[]⟩ : ByteArray) 0 hempty rfl
      refine Ev.step (fun k => ?_) hj
      rw [iceboxlaw1_NumJust.j0]
      simp only [toldT, if_pos hlt]
      rw [if_neg (by decide), if_neg (by decide)]
    · have hX : Bytes ((l.take (k0 + n + w)).drop (k0 + n)) := fun x hx => hb x (List.mem_of_mem_take (List.mem_of_mem_drop hx))
      have hXl : ((l.take (k0 + n + w)).drop (k0 + n)).length = w := by rw [List.length_drop, List.length_take]; omega
      have hsz : (strOfNums ((l.take (k0 + n + w)).drop (k0 + n))).size = w := by
        rw [← bytesOf_length, bytes_str hX, hXl]
      have hput := puttext_ev (strOfNums ((l.take (k0 + n + w)).drop (k0 + n))) (by rw [hsz]; omega)
      have hText : textI (strOfNums ((l.take (k0 + n + w)).drop (k0 + n))) = (l.take (k0 + n + w)).drop k0 := by
        unfold textI
        rw [hsz, bytes_str hX, drop_take_just hb k0 w n ho]
        have e1 : l.take (k0 + n) = (l.take (k0 + n + w)).take (k0 + n) := by rw [List.take_take, Nat.min_eq_left (by omega)]
        rw [e1]
        generalize l.take (k0 + n + w) = L
        rw [List.drop_take, show k0 + n - k0 = n by omega, ← List.drop_drop, List.take_append_drop]
      rw [hText] at hput
      have hj := just_is v nx ok h1
      have p1 : ¬ ((k0 + n + w : Nat) : Int) ≤ (k0 : Int) := by omega
      have p2 : ¬ ((k0 + n + w : Nat) : Int) > (l.length : Int) := by omega
      have p3 : (0 : Int) ≤ (k0 : Int) := by omega
      have p4 : (k0 : Int) ≤ ((k0 + n + w : Nat) : Int) := by omega
      have p5 : ((k0 + n + w : Nat) : Int) ≤ (l.length : Int) := by omega
      refine Ev.step (fun k => ?_) (Ev.bind hput (r := true) (f := fun k t140 => if (strOfNums t140).toList = (strOfNums ((l.take (k0 + n + w)).drop k0)).toList then (if ok = true then ((iceboxlaw1_awake.f k).bind fun t147 => (some t147)) else (if v = 0 then (if nx = 0 then ((iceboxlaw1_awake.f k).bind fun t148 => (some t148)) else (some false)) else (some false))) else (some false)) ?_)
      · rw [iceboxlaw1_NumJust.j0]
        simp only [toldT, if_neg hlt]
        rw [if_neg (by decide), if_pos trivial, if_neg p1, if_neg p2]
        simp only [if_pos p3, if_pos p4, if_pos p5, Int.toNat_natCast]
      · exact Ev.congr (fun k => by rw [if_pos rfl]) hj
theorem NumJust : iceboxlaw1_NumJust.Pure := by
  intro l a _ _ hw ha
  have hb := bytes_wf hw
  obtain ⟨a0, a1⟩ := wf_u8 ha
  obtain ⟨k0, rfl⟩ := Int.eq_ofNat_of_zero_le a0
  apply Ev.rounds
  unfold iceboxlaw1_NumJust.f
  have e0 : wrap64 (k0 : Int) = k0 := w64 (by omega) (by omega)
  rw [e0]
  by_cases h : (l.length : Int) > 500
  · exact Ev.congr (fun k => by rw [if_pos h]) (Ev.bind awake1_ev (f := fun _ t => some t) (Ev.now _))
  have hg := get_ev l hb (by omega) k0 (by omega)
  have ht := gettext_ev l hb (by omega) k0 (by omega)
  have hj := fun v nx ok h1 => just_j0 l hb (by omega) k0 (by omega) v nx ok h1
  refine Ev.congr (fun k => by rw [if_neg h]) (Ev.bind hg (f := fun k (bt127 : Int × Int × Bool) => ((num_GetText.f k l (k0 : Int)).bind fun bt130 => (if bt127.2.2 = true then (if bt127.2.1 ≤ (k0 : Int) then (iceboxlaw1_NumJust.j0 k l (k0 : Int) bt127.1 bt127.2.1 bt127.2.2 bt130.1 bt130.2.1 bt130.2.2 true) else (if bt127.2.1 > (l.length : Int) then (iceboxlaw1_NumJust.j0 k l (k0 : Int) bt127.1 bt127.2.1 bt127.2.2 bt130.1 bt130.2.1 bt130.2.2 true) else ((num_Put.f k bt127.1).bind fun t133 => (if 0 ≤ (k0 : Int) then (if (k0 : Int) ≤ bt127.2.1 then (if bt127.2.1 ≤ (l.length : Int) then (iceboxlaw1_NumJust.j0 k l (k0 : Int) bt127.1 bt127.2.1 bt127.2.2 bt130.1 bt130.2.1 bt130.2.2 ((strOfNums t133).toList != (strOfNums ((l.take (bt127.2.1 : Int).toNat).drop ((k0 : Int) : Int).toNat)).toList)) else (none)) else (none)) else (none))))) else (iceboxlaw1_NumJust.j0 k l (k0 : Int) bt127.1 bt127.2.1 bt127.2.2 bt130.1 bt130.2.1 bt130.2.2 false)))) (Ev.bind ht ?_))
  cases ho : getN 9 ((nats l).drop k0) with
  | none =>
    have hj2 := hj 0 0 false (fun _ => ⟨rfl, rfl⟩)
    rw [ho] at hj2
    exact Ev.congr (fun k => by rw [if_neg (show ¬ (told k0 none).2.2 = true by simp [told])]; rfl) hj2
  | some p =>
    obtain ⟨v, n⟩ := p
    obtain ⟨hv, hn1, hn2⟩ := getN_bound 9 _ v n (fun c hc => nats_lt hb c (List.mem_of_mem_drop hc)) ho
    have hv2 : v < 9223372036854775808 := hv
    clear hv
    rw [List.length_drop, nats_length] at hn2
    have hp := put_ev v hv2
    rw [drop_take_just hb k0 v n ho] at hp
    have hj2 := hj (v : Int) ((k0 + n : Nat) : Int) true (fun h => by cases h)
    rw [ho] at hj2
    have p1 : ¬ ((k0 + n : Nat) : Int) ≤ (k0 : Int) := by omega
    have p2 : ¬ ((k0 + n : Nat) : Int) > (l.length : Int) := by omega
    have p3 : (0 : Int) ≤ (k0 : Int) := by omega
    have p4 : (k0 : Int) ≤ ((k0 + n : Nat) : Int) := by omega
    have p5 : ((k0 + n : Nat) : Int) ≤ (l.length : Int) := by omega
    generalize toldT l k0 (some (v, n)) = T at hj2 ⊢
    have et : told k0 (some (v, n)) = ((v : Int), ((k0 + n : Nat) : Int), true) := rfl
    rw [et]
    refine Ev.congr (f := fun k => (num_Put.f k (v : Int)).bind fun t133 => (iceboxlaw1_NumJust.j0 k l (k0 : Int) (v : Int) ((k0 + n : Nat) : Int) true T.1 T.2.1 T.2.2 ((strOfNums t133).toList != (strOfNums ((l.take (k0 + n)).drop k0)).toList))) (fun k => ?_) (Ev.bind hp ?_)
    · simp only [if_true, if_neg p1, if_neg p2, if_pos p3, if_pos p4, if_pos p5, Int.toNat_natCast]
    · exact Ev.congr (fun k => by rw [bne_self_eq_false]) hj2

end Go.Proofs.Ytkdchjbbhbfjfaa.Pure
