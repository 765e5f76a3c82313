/- The pure statement of the law NumFixed: over the Lean functions that the Go code was shown to compute, the law answers true for every input within the statement's own bounds. No further conditions. -/
import Derived.Test.YtkdchjbbhbfjfaaPNumFixedx1
namespace Go.Proofs.Ytkdchjbbhbfjfaa.Pure
open Go.RowKit Go.Proofs.Ytkdchjbbhbfjfaa.PNumFixed Go.Proofs.YtkdchjbbhbfjfaaW.PrintWords Go.Proofs.YtkdchjbbhbfjfaaW.PrintLast Go.Proofs.YtkdchjbbhbfjfaaW.PrintMore
set_option linter.unusedVariables false
set_option linter.unusedSimpArgs false

theorem w64 {x : Int} (h0 : -9223372036854775808 ≤ x) (h1 : x < 9223372036854775808) : wrap64 x = x := by
  unfold wrap64; omega
theorem bits_xor_nat (k : IntKind) (j : Nat) (hj : j ≤ k.bits) (hk : ∀ n : Int, 0 ≤ n → n < 2 ^ j → k.wrap n = n) (a b : Nat) (ha : a < 2 ^ j) (hb : b < 2 ^ j) :
    Go.bits .xor k a b = ((a ^^^ b : Nat) : Int) := by
  have hp : 2 ^ j ≤ 2 ^ k.bits := Nat.pow_le_pow_right (by decide) hj
  have ha' : a % 2 ^ k.bits = a := Nat.mod_eq_of_lt (Nat.lt_of_lt_of_le ha hp)
  have hb' : b % 2 ^ k.bits = b := Nat.mod_eq_of_lt (Nat.lt_of_lt_of_le hb hp)
  simp only [Go.bits, BitVec.ofInt_natCast, BitVec.toNat_xor, BitVec.toNat_ofNat, ha', hb']
  exact hk _ (Int.natCast_nonneg _) (by exact_mod_cast Nat.xor_lt_two_pow ha hb)
theorem wr_u32 (n : Int) (h₀ : 0 ≤ n) (h₁ : n < 2 ^ 32) : IntKind.u32.wrap n = n := by rw [IntKind.wrap_u32]; omega
theorem wr_u8 (n : Int) (h₀ : 0 ≤ n) (h₁ : n < 2 ^ 8) : IntKind.u8.wrap n = n := by rw [IntKind.wrap_u8]; omega
theorem wr_i64 (n : Int) (h₀ : 0 ≤ n) (h₁ : n < 2 ^ 63) : IntKind.i64.wrap n = n := by rw [IntKind.wrap_i64]; omega
theorem wr_u64 (n : Int) : IntKind.u64.wrap n = n % 18446744073709551616 := by simp [IntKind.wrap, IntKind.bits, IntKind.signed]
theorem bx_u32 (a b : Nat) (ha : a < 2 ^ 32) (hb : b < 2 ^ 32) : Go.bits .xor .u32 a b = ((a ^^^ b : Nat) : Int) := bits_xor_nat .u32 32 (by decide) wr_u32 a b ha hb
theorem bx_u8 (a b : Nat) (ha : a < 2 ^ 8) (hb : b < 2 ^ 8) : Go.bits .xor .u8 a b = ((a ^^^ b : Nat) : Int) := bits_xor_nat .u8 8 (by decide) wr_u8 a b ha hb
theorem bx_i64 (a b : Nat) (ha : a < 2 ^ 63) (hb : b < 2 ^ 63) : Go.bits .xor .i64 a b = ((a ^^^ b : Nat) : Int) := bits_xor_nat .i64 63 (by decide) wr_i64 a b ha hb
theorem bo_i64 (a b : Nat) (ha : a < 2 ^ 63) (hb : b < 2 ^ 63) : Go.bits .or .i64 a b = ((a ||| b : Nat) : Int) := (bits_nat .i64 63 (by decide) wr_i64 a b ha hb).2
theorem bo_u8 (a b : Nat) (ha : a < 2 ^ 8) (hb : b < 2 ^ 8) : Go.bits .or .u8 a b = ((a ||| b : Nat) : Int) := (bits_nat .u8 8 (by decide) wr_u8 a b ha hb).2
theorem ba_u8 (a b : Nat) (ha : a < 2 ^ 8) (hb : b < 2 ^ 8) : Go.bits .and .u8 a b = ((a &&& b : Nat) : Int) := (bits_nat .u8 8 (by decide) wr_u8 a b ha hb).1
theorem ba_u32 (a b : Nat) (ha : a < 2 ^ 32) (hb : b < 2 ^ 32) : Go.bits .and .u32 a b = ((a &&& b : Nat) : Int) := (bits_nat .u32 32 (by decide) wr_u32 a b ha hb).1
theorem max_u32 : IntKind.u32.max = ((4294967295 : Nat) : Int) := by decide
theorem wf_u8 {x : Int} (h : (Lit.int .u8 x).wf = true) : 0 ≤ x ∧ x < 256 := by
  simp [Lit.wf, IntKind.min, IntKind.max, IntKind.signed, IntKind.bits] at h; omega
theorem wf_u16 {x : Int} (h : (Lit.int .u16 x).wf = true) : 0 ≤ x ∧ x < 65536 := by
  simp [Lit.wf, IntKind.min, IntKind.max, IntKind.signed, IntKind.bits] at h; omega
theorem wf_u32 {x : Int} (h : (Lit.int .u32 x).wf = true) : 0 ≤ x ∧ x < 4294967296 := by
  simp [Lit.wf, IntKind.min, IntKind.max, IntKind.signed, IntKind.bits] at h; omega
theorem wf_u64 {x : Int} (h : (Lit.int .u64 x).wf = true) : 0 ≤ x ∧ x < 18446744073709551616 := by
  simp [Lit.wf, IntKind.min, IntKind.max, IntKind.signed, IntKind.bits] at h; omega
theorem wf_i64 {x : Int} (h : (Lit.int .i64 x).wf = true) : -9223372036854775808 ≤ x ∧ x < 9223372036854775808 := by
  simp [Lit.wf, IntKind.min, IntKind.max, IntKind.signed, IntKind.bits] at h; omega

def ints (l : List Nat) : List Int := l.map fun n : Nat => (n : Int)
theorem ints_length (l : List Nat) : (ints l).length = l.length := by unfold ints; simp
theorem ints_append (a b : List Nat) : ints (a ++ b) = ints a ++ ints b := by unfold ints; simp
def nats (l : List Int) : List Nat := l.map Int.toNat
def Bytes (l : List Int) : Prop := ∀ x ∈ l, 0 ≤ x ∧ x < 256
theorem bytes_wf {l : List Int} (h : ∀ x ∈ l, (Lit.int .u8 x).wf = true) : Bytes l := fun x hx => wf_u8 (h x hx)
theorem nats_length (l : List Int) : (nats l).length = l.length := by unfold nats; simp
theorem nats_ints (l : List Nat) : nats (ints l) = l := by
  unfold nats ints; rw [List.map_map]
  conv => rhs; rw [← List.map_id l]
  apply List.map_congr_left; intro a _; simp
theorem ints_nats {l : List Int} (h : Bytes l) : ints (nats l) = l := by
  unfold nats ints; rw [List.map_map]
  conv => rhs; rw [← List.map_id l]
  apply List.map_congr_left; intro a ha
  have := h a ha
  simp; omega
theorem nats_lt {l : List Int} (h : Bytes l) : ∀ c ∈ nats l, c < 256 := by
  intro c hc
  obtain ⟨x, hx, rfl⟩ := List.mem_map.1 hc
  have := h x hx; omega
theorem ints_bytes {l : List Nat} (h : ∀ c ∈ l, c < 256) : Bytes (ints l) := by
  intro x hx
  obtain ⟨c, hc, rfl⟩ := List.mem_map.1 hx
  have := h c hc; omega
theorem nats_append (a b : List Int) : nats (a ++ b) = nats a ++ nats b := by unfold nats; simp
theorem nats_take (l : List Int) (n : Nat) : nats (l.take n) = (nats l).take n := by unfold nats; rw [List.map_take]
theorem nats_drop (l : List Int) (n : Nat) : nats (l.drop n) = (nats l).drop n := by unfold nats; rw [List.map_drop]
theorem rd_at {l : List Int} {i : Nat} (h : i < l.length) : rd l (i : Int) = l[i] := by
  unfold rd; simp [h]
theorem rd_byte {l : List Int} {i : Nat} (h : i < l.length) (hb : Bytes l) : ∃ c : Nat, rd l (i : Int) = c ∧ c < 256 ∧ (nats l).drop i = c :: (nats l).drop (i + 1) := by
  have := hb l[i] (List.getElem_mem h)
  have h2 : i < (nats l).length := by rw [nats_length]; exact h
  refine ⟨l[i].toNat, by rw [rd_at h]; omega, by omega, ?_⟩
  rw [List.drop_eq_getElem_cons h2]
  have h4 : i < (l.map Int.toNat).length := h2
  have h3 : (l.map Int.toNat)[i]'h4 = l[i].toNat := by rw [List.getElem_map]
  rw [← h3]; rfl

def putN (n : Nat) : List Nat := if h : n < 128 then [n] else (n % 128 + 128) :: putN (n / 128)
termination_by n
decreasing_by omega
theorem putN_small {n : Nat} (h : n < 128) : putN n = [n] := by unfold putN; rw [dif_pos h]
theorem putN_more {n : Nat} (h : ¬ n < 128) : putN n = (n % 128 + 128) :: putN (n / 128) := by rw [putN]; rw [dif_neg h]
theorem putN_len : ∀ (m n : Nat), n < 128 ^ (m + 1) → 1 ≤ (putN n).length ∧ (putN n).length ≤ m + 1
  | 0, n, h => by rw [putN_small (by omega)]; simp
  | m + 1, n, h => by
    by_cases h1 : n < 128
    · rw [putN_small h1]; simp
    · rw [putN_more h1]
      have hd : n / 128 < 128 ^ (m + 1) := by rw [Nat.div_lt_iff_lt_mul (by decide)]; rw [Nat.pow_succ] at h; exact h
      have := putN_len m (n / 128) hd
      rw [List.length_cons]
      clear h hd
      omega
theorem putN_len9 {n : Nat} (h : n < 9223372036854775808) : 1 ≤ (putN n).length ∧ (putN n).length ≤ 9 := putN_len 8 n h
theorem putN_lt : ∀ (k n : Nat), n ≤ k → ∀ c ∈ putN n, c < 256
  | 0, n, h, c, hc => by rw [putN_small (by omega)] at hc; simp at hc; omega
  | k + 1, n, h, c, hc => by
    by_cases h1 : n < 128
    · rw [putN_small h1] at hc; simp at hc; omega
    · rw [putN_more h1] at hc
      rcases List.mem_cons.1 hc with rfl | hc
      · omega
      · exact putN_lt k (n / 128) (by omega) c hc
theorem or128 (n : Nat) : Go.bits .or .u8 ((n : Int) % 256) 128 = ((n % 128 + 128 : Nat) : Int) := by
  have e : (n : Int) % 256 = ((n % 256 : Nat) : Int) := by omega
  have h := bo_u8 (n % 256) 128 (by omega) (by omega)
  rw [e]
  refine h.trans ?_
  congr 1
  have h1 : n % 128 < 2 ^ 7 := by omega
  have e2 : 128 + n % 128 = 128 ||| n % 128 := Nat.two_pow_add_eq_or_of_lt h1 1
  by_cases h2 : n % 256 < 128
  · have e3 : n % 256 = n % 128 := by omega
    rw [e3, Nat.or_comm]
    omega
  · have e3 : n % 256 = 128 ||| (n % 128) := by omega
    have e4 : 128 ||| (n % 128) = 128 + n % 128 := by omega
    rw [e3, Nat.or_assoc, Nat.or_comm (n % 128), ← Nat.or_assoc, Nat.or_self, e4]
    omega
theorem put_l0 : ∀ (m n : Nat) (acc : List Int), n < 128 ^ (m + 1) → acc.length + (m + 1) < 140737488355328 →
    Ev (fun k => num_Put.l0 k (n : Int) acc) (acc ++ ints (putN n)) := by
  intro m
  induction m with
  | zero =>
    intro n acc h hl
    have h1 : n < 128 := by omega
    rw [putN_small h1]
    refine Ev.step (f := fun _ => some _) (fun k => ?_) (Ev.now _)
    simp only [num_Put.l0]
    rw [if_neg (by omega), if_pos (by omega), show (n : Int) % 256 = n by omega]; rfl
  | succ m ih =>
    intro n acc h hl
    by_cases h1 : n < 128
    · rw [putN_small h1]
      refine Ev.step (f := fun _ => some _) (fun k => ?_) (Ev.now _)
      simp only [num_Put.l0]
      clear h
      rw [if_neg (by omega), if_pos (by omega), show (n : Int) % 256 = n by omega]; rfl
    · have hd : n / 128 < 128 ^ (m + 1) := by rw [Nat.div_lt_iff_lt_mul (by decide)]; rw [Nat.pow_succ] at h; exact h
      have h2 := ih (n / 128) (acc ++ [((n % 128 + 128 : Nat) : Int)]) hd (by rw [List.length_append, List.length_singleton]; omega)
      rw [putN_more h1]
      rw [List.append_assoc] at h2
      refine Ev.step (fun k => ?_) h2
      simp only [num_Put.l0]
      clear h hd
      rw [if_pos (by omega), if_pos (by omega), or128]
      rfl
theorem put_ev (n : Nat) (h : n < 9223372036854775808) : Ev (fun k => num_Put.f k (n : Int)) (ints (putN n)) := by
  have := put_l0 8 n [] h (by decide)
  refine Ev.congr (fun k => ?_) this
  unfold num_Put.f; rw [if_neg (by omega)]
theorem awake1_ev : Ev (fun k => iceboxlaw1_awake.f k) true := by
  have h := put_ev 300 (by decide)
  have e : ints (putN 300) = [172, 2] := by
    rw [putN_more (by omega), putN_small (by omega)]; decide
  rw [e] at h
  refine Ev.congr (fun k => rfl) (Ev.bind (g := fun k => num_Put.f k 300) h ?_)
  exact Ev.congr (f := fun _ => some true) (fun k => rfl) (Ev.now _)

def fxI : Nat → Int → List Int
  | 0, _ => []
  | s + 1, n => (n / 256 ^ s % 256) :: fxI s n
theorem fxI_length : ∀ (s : Nat) (n : Int), (fxI s n).length = s
  | 0, _ => rfl
  | s + 1, n => by rw [fxI, List.length_cons, fxI_length]
theorem fxI_get : ∀ (s : Nat) (n : Int) (i : Nat) (h : i < (fxI s n).length), (fxI s n)[i] = n / 256 ^ (s - 1 - i) % 256
  | 0, n, i, h => by rw [fxI_length] at h; omega
  | s + 1, n, 0, h => by simp [fxI]
  | s + 1, n, i + 1, h => by
    simp only [fxI, List.getElem_cons_succ]
    rw [fxI_get s n i, show s + 1 - 1 - (i + 1) = s - 1 - i by omega]
theorem fxI_bytes (s : Nat) (n : Int) : Bytes (fxI s n) := by
  intro x hx
  obtain ⟨i, hi, rfl⟩ := List.mem_iff_getElem.1 hx
  rw [fxI_get]
  exact ⟨Int.emod_nonneg _ (by decide), Int.emod_lt_of_pos _ (by decide)⟩
theorem set_fill (D : List Int) (i : Nat) (h : i < D.length) : (D.take i ++ List.replicate (D.length - i) 0).set i D[i] = D.take (i + 1) ++ List.replicate (D.length - (i + 1)) 0 := by
  have hl : (D.take i).length = i := by rw [List.length_take]; omega
  rw [List.set_append_right _ _ (by omega), hl, Nat.sub_self]
  obtain ⟨m, hm⟩ : ∃ m, D.length - i = m + 1 := ⟨D.length - i - 1, by omega⟩
  rw [hm, List.replicate_succ, List.set_cons_zero, List.take_succ_eq_append_getElem h, List.append_assoc]
  rw [show D.length - (i + 1) = m by omega]; rfl
theorem pow8 (j : Nat) : (2 : Int) ^ (8 * j) = 256 ^ j := by rw [Int.pow_mul]; rfl
theorem shr_i64 (n : Int) (j : Nat) (hj : j ≤ 8) : shr .i64 n ((8 * j : Nat) : Int) = n / 256 ^ j := by
  unfold shr
  rw [Int.toNat_natCast, Nat.min_eq_left (by show 8 * j ≤ 64; omega), pow8]
theorem fixed_l0 (n : Int) (s : Nat) (hs : s ≤ 8) : ∀ (d i : Nat), i + d = s →
    Ev (fun k => num_Fixed.l0 k n (s : Int) ((fxI s n).take i ++ List.replicate (s - i) 0) (s : Int) (i : Int)) (fxI s n) := by
  intro d
  induction d with
  | zero =>
    intro i hi
    obtain rfl : i = s := by omega
    refine Ev.step (f := fun _ => some _) (fun k => ?_) (Ev.now _)
    simp only [num_Fixed.l0]
    rw [if_neg (by omega), Nat.sub_self, List.replicate_zero, List.append_nil, List.take_of_length_le (by rw [fxI_length]; omega)]
  | succ d ih =>
    intro i hi
    have hl := fxI_length s n
    have hlt : i < (fxI s n).length := by omega
    have p1 : (i : Int) < (s : Int) := by omega
    have p2 : wrap64 (8 * (wrap64 ((wrap64 ((s : Int) - 1)) - (i : Int)))) = ((8 * (s - 1 - i) : Nat) : Int) := by unfold wrap64; omega
    have p3 : ((fxI s n).take i ++ List.replicate (s - i) 0).length = s := by rw [List.length_append, List.length_take, List.length_replicate]; omega
    have p4 : wrap64 ((i : Int) + 1) = ((i + 1 : Nat) : Int) := by unfold wrap64; omega
    have p5 : (0 : Int) ≤ (i : Int) := by omega
    have p6 : (0 : Int) ≤ ((8 * (s - 1 - i) : Nat) : Int) := Int.natCast_nonneg _
    have h := ih (i + 1) (by omega)
    have hset := set_fill (fxI s n) i hlt
    rw [hl, fxI_get] at hset
    rw [← hset] at h
    refine Ev.step (fun k => ?_) h
    simp only [num_Fixed.l0]
    rw [if_pos p1, p2, if_pos p6, if_pos p5, p3, if_pos p1, shr_i64 n _ (by omega), p4, Int.toNat_natCast]
theorem fixed_ev (n : Int) (s : Nat) (h1 : 1 ≤ s) (h8 : s ≤ 8) : Ev (fun k => num_Fixed.f k n (s : Int)) (fxI s n) := by
  have h := fixed_l0 n s h8 s 0 (by omega)
  rw [List.take_zero, List.nil_append, Nat.sub_zero] at h
  have p1 : ¬ (s : Int) < 1 := by omega
  have p2 : ¬ (s : Int) > 8 := by omega
  have p3 : (0 : Int) ≤ (s : Int) := by omega
  have p4 : (s : Int).toNat ≤ 281474976710656 := by omega
  refine Ev.congr (fun k => by unfold num_Fixed.f; rw [if_neg p1, decide_eq_false p2]) (Ev.step (fun k => ?_) h)
  simp only [num_Fixed.j0]
  rw [if_neg (by decide), if_pos p3, if_pos p4, Int.toNat_natCast]; rfl
def beN (a : Nat) (l : List Nat) : Nat := l.foldl (fun n c => 256 * n + c) a
theorem or_byte (a c : Nat) (ha : a < 2 ^ 55) (hc : c < 256) : Go.bits .or .i64 (wrap64 ((a : Int) * 256)) (wrap64 (c : Int)) = ((256 * a + c : Nat) : Int) := by
  rw [w64 (by omega) (by omega), w64 (by omega) (by omega)]
  have e : (a : Int) * 256 = ((256 * a : Nat) : Int) := by omega
  rw [e, bo_i64 _ _ (by omega) (by omega)]
  congr 1
  have h1 : c < 2 ^ 8 := hc
  have h2 : 256 * a + c = 256 * a ||| c := Nat.two_pow_add_eq_or_of_lt h1 a
  exact h2.symm
theorem beN_lt : ∀ (l : List Nat) (a m : Nat), a < 256 ^ m → (∀ c ∈ l, c < 256) → beN a l < 256 ^ (m + l.length)
  | [], a, m, h, _ => h
  | c :: l, a, m, h, hl => by
    have hc := hl c (by simp)
    have : 256 * a + c < 256 ^ (m + 1) := by rw [Nat.pow_succ]; omega
    have := beN_lt l (256 * a + c) (m + 1) this (fun x hx => hl x (by simp [hx]))
    rw [List.length_cons, show m + (l.length + 1) = m + 1 + l.length by omega]
    exact this
theorem getfixed_l0 (l : List Int) (hb : Bytes l) (hl : l.length ≤ 7) : ∀ (d i a : Nat), i + d = l.length → a < 256 ^ i →
    Ev (fun k => num_GetFixed.l0 k (a : Int) l (l.length : Int) (i : Int)) (((beN a ((nats l).drop i) : Nat) : Int), true) := by
  intro d
  induction d with
  | zero =>
    intro i a hi ha
    refine Ev.step (f := fun _ => some _) (fun k => ?_) (Ev.now _)
    simp only [num_GetFixed.l0]
    have p : ¬ (i : Int) < (l.length : Int) := by omega
    rw [if_neg p, List.drop_of_length_le (by rw [nats_length]; omega)]; rfl
  | succ d ih =>
    intro i a hi ha
    have p1 : (i : Int) < (l.length : Int) := by omega
    have p2 : (0 : Int) ≤ (i : Int) := by omega
    have p4 : wrap64 ((i : Int) + 1) = ((i + 1 : Nat) : Int) := by unfold wrap64; omega
    obtain ⟨c, hc, hc1, hc2⟩ := rd_byte (l := l) (i := i) (by omega) hb
    have ha2 : 256 * a + c < 256 ^ (i + 1) := by rw [Nat.pow_succ]; omega
    have ha3 : a < 2 ^ 55 := by
      have : 256 ^ i ≤ 256 ^ 6 := Nat.pow_le_pow_right (by decide) (by omega)
      have e : (256 : Nat) ^ 6 < 2 ^ 55 := by decide
      exact Nat.lt_of_lt_of_le ha (Nat.le_trans this (Nat.le_of_lt e))
    have h := ih (i + 1) (256 * a + c) (by omega) ha2
    rw [hc2]
    refine Ev.step (fun k => ?_) h
    simp only [num_GetFixed.l0]
    rw [if_pos p1, if_pos p2, if_pos p1, hc, or_byte a c ha3 hc1, p4]
theorem getfixed_ev (l : List Int) (hb : Bytes l) (hl : l.length < 2 ^ 48) (at_ s : Nat) (h1 : 1 ≤ s) (h7 : s ≤ 7) (hin : at_ + s ≤ l.length) :
    Ev (fun k => num_GetFixed.f k l (at_ : Int) (s : Int)) (((beN 0 (((nats l).take (at_ + s)).drop at_) : Nat) : Int), true) := by
  have hll : ((l.take (at_ + s)).drop at_).length = s := by rw [List.length_drop, List.length_take]; omega
  have hb2 : Bytes ((l.take (at_ + s)).drop at_) := fun x hx => hb x (List.mem_of_mem_take (List.mem_of_mem_drop hx))
  have h := getfixed_l0 ((l.take (at_ + s)).drop at_) hb2 (by omega) s 0 0 (by omega) (by decide)
  rw [List.drop_zero, nats_drop, nats_take] at h
  have p1 : ¬ (s : Int) < 1 := by omega
  have p2 : ¬ (s : Int) > 7 := by omega
  have p3 : ¬ (at_ : Int) < 0 := by omega
  have p4 : ¬ (at_ : Int) > (l.length : Int) := by omega
  have p5 : ¬ (s : Int) > wrap64 ((l.length : Int) - (at_ : Int)) := by unfold wrap64; omega
  have p6 : (0 : Int) ≤ (at_ : Int) := by omega
  have p7 : wrap64 ((at_ : Int) + (s : Int)) = ((at_ + s : Nat) : Int) := by unfold wrap64; omega
  have p8 : (at_ : Int) ≤ ((at_ + s : Nat) : Int) := by omega
  have p9 : ((at_ + s : Nat) : Int) ≤ (l.length : Int) := by omega
  refine Ev.congr (fun k => by unfold num_GetFixed.f; rw [if_neg p1, if_neg p2, if_neg p3, if_neg p4, decide_eq_false p5]) (Ev.step (fun k => ?_) h)
  simp only [num_GetFixed.j0]
  rw [if_neg (by decide), if_pos p6, p7, if_pos p8, if_pos p9, Int.toNat_natCast, Int.toNat_natCast, Option.bind_some]
  rfl

theorem be_fx : ∀ (s m a : Nat), beN a (nats (fxI s (m : Int))) = a * 256 ^ s + m % 256 ^ s
  | 0, m, a => by simp [fxI, nats, beN]; omega
  | s + 1, m, a => by
    have e : ((m : Int) / 256 ^ s % 256).toNat = m / 256 ^ s % 256 := by
      have : (m : Int) / 256 ^ s % 256 = ((m / 256 ^ s % 256 : Nat) : Int) := by simp
      rw [this, Int.toNat_natCast]
    have ih := be_fx s m (256 * a + m / 256 ^ s % 256)
    unfold beN nats at ih ⊢
    simp only [fxI, List.map_cons, List.foldl_cons, e]
    rw [ih, Nat.pow_succ, Nat.mod_mul, Nat.add_mul, Nat.mul_comm 256 a, Nat.mul_assoc a 256, Nat.mul_comm 256 (256 ^ s), Nat.mul_comm (m / 256 ^ s % 256)]
    omega
theorem NumFixed : iceboxlaw1_NumFixed.Pure := by
  intro n q hn hq
  obtain ⟨n0, n1⟩ := wf_u64 hn
  obtain ⟨q0, q1⟩ := wf_u8 hq
  obtain ⟨n, rfl⟩ := Int.eq_ofNat_of_zero_le n0
  obtain ⟨q, rfl⟩ := Int.eq_ofNat_of_zero_le q0
  apply Ev.rounds
  obtain ⟨s, hs⟩ : ∃ s, s = 1 + q % 7 := ⟨_, rfl⟩
  have e1 : wrap64 (1 + (Int.tmod (wrap64 (q : Int)) 7)) = (s : Int) := by
    rw [w64 (x := (q : Int)) (by omega) (by omega), Int.tmod_eq_emod_of_nonneg (by omega)]
    unfold wrap64; omega
  have e2 : IntKind.u64.wrap (wrap64 (64 - (wrap64 (8 * (s : Int))))) = ((8 * (8 - s) : Nat) : Int) := by
    rw [wr_u64]; unfold wrap64; omega
  obtain ⟨m, hm⟩ : ∃ m, m = n / 256 ^ (8 - s) := ⟨_, rfl⟩
  have hml : m < 256 ^ s := by
    rw [hm, Nat.div_lt_iff_lt_mul (Nat.pow_pos (by decide)), ← Nat.pow_add, show s + (8 - s) = 8 by omega]
    clear hm e1 e2
    have : (256 : Nat) ^ 8 = 18446744073709551616 := by decide
    omega
  have hm63 : m < 256 ^ 7 := Nat.lt_of_lt_of_le hml (Nat.pow_le_pow_right (by decide) (by omega))
  have e3 : wrap64 (shr .u64 (n : Int) ((8 * (8 - s) : Nat) : Int)) = (m : Int) := by
    unfold shr
    rw [Int.toNat_natCast, Nat.min_eq_left (by show 8 * (8 - s) ≤ 64; omega), pow8]
    have : (n : Int) / 256 ^ (8 - s) = (m : Int) := by rw [hm]; simp
    rw [this]
    have e7 : (256 : Nat) ^ 7 = 72057594037927936 := by decide
    rw [e7] at hm63
    clear hml hm this e1 e2
    rw [w64 (by omega) (by omega)]
  have e4 : IntKind.u64.wrap (wrap64 (8 * (wrap64 ((s : Int) - 1)))) = ((8 * (s - 1) : Nat) : Int) := by
    rw [wr_u64]; unfold wrap64; omega
  have hF := fixed_ev (m : Int) s (by omega) (by omega)
  have hlen := fxI_length s (m : Int)
  have hG := getfixed_ev (fxI s (m : Int)) (fxI_bytes s _) (by omega) 0 s (by omega) (by omega) (by omega)
  have eB : beN 0 (((nats (fxI s (m : Int))).take (0 + s)).drop 0) = m := by
    rw [List.drop_zero, List.take_of_length_le (by rw [nats_length, hlen]; omega), be_fx, Nat.zero_mul, Nat.zero_add, Nat.mod_eq_of_lt hml]
  rw [eB] at hG
  have e5 : wrap64 (rd (fxI s (m : Int)) 0) = shr .i64 (m : Int) ((8 * (s - 1) : Nat) : Int) := by
    have h0 : 0 < (fxI s (m : Int)).length := by omega
    have hr : rd (fxI s (m : Int)) 0 = (m : Int) / 256 ^ (s - 1) % 256 := by
      have := rd_at h0
      rw [fxI_get] at this
      exact this
    rw [shr_i64 _ _ (by omega), hr]
    have hlt : m / 256 ^ (s - 1) < 256 := by
      rw [Nat.div_lt_iff_lt_mul (Nat.pow_pos (by decide)), ← Nat.pow_succ', show (s - 1).succ = s by omega]; exact hml
    have : (m : Int) / 256 ^ (s - 1) = ((m / 256 ^ (s - 1) : Nat) : Int) := by simp
    rw [this]
    generalize m / 256 ^ (s - 1) = z at hlt
    clear hml hm hm63 this e1 e2 e3 hr
    rw [w64 (by omega) (by omega)]; omega
  have p0 : (0 : Int) ≤ ((8 * (8 - s) : Nat) : Int) := Int.natCast_nonneg _
  have p1 : (0 : Int) ≤ ((8 * (s - 1) : Nat) : Int) := Int.natCast_nonneg _
  have p2 : (0 : Int) < (s : Int) := by omega
  unfold iceboxlaw1_NumFixed.f
  rw [e1, e2, e3, e4]
  refine Ev.congr (fun k => by rw [if_pos p0]) (Ev.bind hF (Ev.bind hG ?_))
  refine Ev.congr (fun k => ?_) (Ev.bind awake1_ev (Ev.now _))
  rw [if_pos rfl, if_pos rfl, hlen, if_pos rfl, if_pos p2, if_pos p1, if_pos e5]

end Go.Proofs.Ytkdchjbbhbfjfaa.Pure
