/- The pure statement of the law EditTables: over the Lean functions that the Go code was shown to compute, the law answers true for every input within the statement's own bounds. No further conditions. -/
import Derived.Test.YtffnimaaolmbdaaPEditTablesx2
import Derived.Test.YtffnimaaolmbdaaPEditTablesx3
import Derived.Test.YtffnimaaolmbdaaPEditTablesx6
import Derived.Test.YtffnimaaolmbdaaPEditTablesx7
import Derived.Test.YtffnimaaolmbdaaPEditTablesx8
namespace Go.Proofs.Ytffnimaaolmbdaa.Pure
open Go.RowKit Go.Proofs.Ytffnimaaolmbdaa.PEditTables Go.Proofs.YtffnimaaolmbdaaW.PrintWords Go.Proofs.YtffnimaaolmbdaaW.PrintLast Go.Proofs.YtffnimaaolmbdaaW.PrintMore
set_option linter.unusedVariables false
set_option linter.unusedSimpArgs false

theorem w64 {x : Int} (h0 : -9223372036854775808 ≤ x) (h1 : x < 9223372036854775808) : wrap64 x = x := by
  unfold wrap64; omega
theorem bits_xor_nat (k : IntKind) (j : Nat) (hj : j ≤ k.bits) (hk : ∀ n : Int, 0 ≤ n → n < 2 ^ j → k.wrap n = n) (a b : Nat) (ha : a < 2 ^ j) (hb : b < 2 ^ j) :
    Go.bits .xor k a b = ((a ^^^ b : Nat) : Int) := by
  have hp : 2 ^ j ≤ 2 ^ k.bits := Nat.pow_le_pow_right (by decide) hj
  have ha' : a % 2 ^ k.bits = a := Nat.mod_eq_of_lt (Nat.lt_of_lt_of_le ha hp)
  have hb' : b % 2 ^ k.bits = b := Nat.mod_eq_of_lt (Nat.lt_of_lt_of_le hb hp)
  simp only [Go.bits, BitVec.ofInt_natCast, BitVec.toNat_xor, BitVec.toNat_ofNat, ha', hb']
  exact hk _ (Int.natCast_nonneg _) (by exact_mod_cast Nat.xor_lt_two_pow ha hb)
theorem wr_u32 (n : Int) (h₀ : 0 ≤ n) (h₁ : n < 2 ^ 32) : IntKind.u32.wrap n = n := by rw [IntKind.wrap_u32]; omega
theorem wr_u8 (n : Int) (h₀ : 0 ≤ n) (h₁ : n < 2 ^ 8) : IntKind.u8.wrap n = n := by rw [IntKind.wrap_u8]; omega
theorem wr_i64 (n : Int) (h₀ : 0 ≤ n) (h₁ : n < 2 ^ 63) : IntKind.i64.wrap n = n := by rw [IntKind.wrap_i64]; omega
theorem wr_u64 (n : Int) : IntKind.u64.wrap n = n % 18446744073709551616 := by simp [IntKind.wrap, IntKind.bits, IntKind.signed]
theorem bx_u32 (a b : Nat) (ha : a < 2 ^ 32) (hb : b < 2 ^ 32) : Go.bits .xor .u32 a b = ((a ^^^ b : Nat) : Int) := bits_xor_nat .u32 32 (by decide) wr_u32 a b ha hb
theorem bx_u8 (a b : Nat) (ha : a < 2 ^ 8) (hb : b < 2 ^ 8) : Go.bits .xor .u8 a b = ((a ^^^ b : Nat) : Int) := bits_xor_nat .u8 8 (by decide) wr_u8 a b ha hb
theorem bx_i64 (a b : Nat) (ha : a < 2 ^ 63) (hb : b < 2 ^ 63) : Go.bits .xor .i64 a b = ((a ^^^ b : Nat) : Int) := bits_xor_nat .i64 63 (by decide) wr_i64 a b ha hb
theorem bo_i64 (a b : Nat) (ha : a < 2 ^ 63) (hb : b < 2 ^ 63) : Go.bits .or .i64 a b = ((a ||| b : Nat) : Int) := (bits_nat .i64 63 (by decide) wr_i64 a b ha hb).2
theorem bo_u8 (a b : Nat) (ha : a < 2 ^ 8) (hb : b < 2 ^ 8) : Go.bits .or .u8 a b = ((a ||| b : Nat) : Int) := (bits_nat .u8 8 (by decide) wr_u8 a b ha hb).2
theorem ba_u8 (a b : Nat) (ha : a < 2 ^ 8) (hb : b < 2 ^ 8) : Go.bits .and .u8 a b = ((a &&& b : Nat) : Int) := (bits_nat .u8 8 (by decide) wr_u8 a b ha hb).1
theorem ba_u32 (a b : Nat) (ha : a < 2 ^ 32) (hb : b < 2 ^ 32) : Go.bits .and .u32 a b = ((a &&& b : Nat) : Int) := (bits_nat .u32 32 (by decide) wr_u32 a b ha hb).1
theorem max_u32 : IntKind.u32.max = ((4294967295 : Nat) : Int) := by decide
theorem wf_u8 {x : Int} (h : (Lit.int .u8 x).wf = true) : 0 ≤ x ∧ x < 256 := by
  simp [Lit.wf, IntKind.min, IntKind.max, IntKind.signed, IntKind.bits] at h; omega
theorem wf_u16 {x : Int} (h : (Lit.int .u16 x).wf = true) : 0 ≤ x ∧ x < 65536 := by
  simp [Lit.wf, IntKind.min, IntKind.max, IntKind.signed, IntKind.bits] at h; omega
theorem wf_u32 {x : Int} (h : (Lit.int .u32 x).wf = true) : 0 ≤ x ∧ x < 4294967296 := by
  simp [Lit.wf, IntKind.min, IntKind.max, IntKind.signed, IntKind.bits] at h; omega
theorem wf_u64 {x : Int} (h : (Lit.int .u64 x).wf = true) : 0 ≤ x ∧ x < 18446744073709551616 := by
  simp [Lit.wf, IntKind.min, IntKind.max, IntKind.signed, IntKind.bits] at h; omega
theorem wf_i64 {x : Int} (h : (Lit.int .i64 x).wf = true) : -9223372036854775808 ≤ x ∧ x < 9223372036854775808 := by
  simp [Lit.wf, IntKind.min, IntKind.max, IntKind.signed, IntKind.bits] at h; omega

def ints (l : List Nat) : List Int := l.map fun n : Nat => (n : Int)
theorem ints_length (l : List Nat) : (ints l).length = l.length := by unfold ints; simp
theorem ints_append (a b : List Nat) : ints (a ++ b) = ints a ++ ints b := by unfold ints; simp
def nats (l : List Int) : List Nat := l.map Int.toNat
def Bytes (l : List Int) : Prop := ∀ x ∈ l, 0 ≤ x ∧ x < 256
theorem bytes_wf {l : List Int} (h : ∀ x ∈ l, (Lit.int .u8 x).wf = true) : Bytes l := fun x hx => wf_u8 (h x hx)
theorem nats_length (l : List Int) : (nats l).length = l.length := by unfold nats; simp
theorem nats_ints (l : List Nat) : nats (ints l) = l := by
  unfold nats ints; rw [List.map_map]
  conv => rhs; rw [← List.map_id l]
  apply List.map_congr_left; intro a _; simp
theorem ints_nats {l : List Int} (h : Bytes l) : ints (nats l) = l := by
  unfold nats ints; rw [List.map_map]
  conv => rhs; rw [← List.map_id l]
  apply List.map_congr_left; intro a ha
  have := h a ha
  simp; omega
theorem nats_lt {l : List Int} (h : Bytes l) : ∀ c ∈ nats l, c < 256 := by
  intro c hc
  obtain ⟨x, hx, rfl⟩ := List.mem_map.1 hc
  have := h x hx; omega
theorem ints_bytes {l : List Nat} (h : ∀ c ∈ l, c < 256) : Bytes (ints l) := by
  intro x hx
  obtain ⟨c, hc, rfl⟩ := List.mem_map.1 hx
  have := h c hc; omega
theorem nats_append (a b : List Int) : nats (a ++ b) = nats a ++ nats b := by unfold nats; simp
theorem nats_take (l : List Int) (n : Nat) : nats (l.take n) = (nats l).take n := by unfold nats; rw [List.map_take]
theorem nats_drop (l : List Int) (n : Nat) : nats (l.drop n) = (nats l).drop n := by unfold nats; rw [List.map_drop]
theorem rd_at {l : List Int} {i : Nat} (h : i < l.length) : rd l (i : Int) = l[i] := by
  unfold rd; simp [h]
theorem rd_byte {l : List Int} {i : Nat} (h : i < l.length) (hb : Bytes l) : ∃ c : Nat, rd l (i : Int) = c ∧ c < 256 ∧ (nats l).drop i = c :: (nats l).drop (i + 1) := by
  have := hb l[i] (List.getElem_mem h)
  have h2 : i < (nats l).length := by rw [nats_length]; exact h
  refine ⟨l[i].toNat, by rw [rd_at h]; omega, by omega, ?_⟩
  rw [List.drop_eq_getElem_cons h2]
  have h4 : i < (l.map Int.toNat).length := h2
  have h3 : (l.map Int.toNat)[i]'h4 = l[i].toNat := by rw [List.getElem_map]
  rw [← h3]; rfl

/-! ### edit.May -/
theorem within_eq (a lo hi : Int) : edit_within.f a lo hi = some (decide (lo ≤ a ∧ a ≤ hi)) := by
  unfold edit_within.f
  by_cases c : a ≥ lo
  · rw [if_pos c]
    by_cases d : a ≤ hi
    · rw [decide_eq_true d, decide_eq_true ⟨c, d⟩]
    · rw [decide_eq_false d, decide_eq_false (fun h => d h.2)]
  · rw [if_neg c, decide_eq_false (fun h => c h.1)]
def okNum (lo a : Int) : Bool := decide (lo ≤ a ∧ a ≤ 9007199254740992)
def mayT (t : S31) : Bool := okNum 1 t.f0 && (okNum 0 t.f1 && (decide (0 ≤ t.f2 ∧ t.f2 ≤ 4) && (decide ((t.f3.size : Int) ≤ 64) && (decide ((t.f4.size : Int) ≤ 64) && (!(Op.bytesLess t.f4.toList t.f3.toList) && (decide (0 ≤ t.f5 ∧ t.f5 ≤ 1048576) && (decide (1 ≤ t.f6 ∧ t.f6 ≤ 256) && (t.f7 || t.f8))))))))
theorem mayT_eq (x0 x1 x2 : Int) (x3 x4 : ByteArray) (x5 x6 : Int) (x7 x8 : Bool) : edit_MayTable.f x0 x1 x2 x3 x4 x5 x6 x7 x8 = some (mayT ⟨x0, x1, x2, x3, x4, x5, x6, x7, x8⟩) := by
  unfold edit_MayTable.f mayT okNum
  simp only [within_eq, Option.bind_some]
  generalize decide (1 ≤ x0 ∧ x0 ≤ 9007199254740992) = p0
  generalize decide (0 ≤ x1 ∧ x1 ≤ 9007199254740992) = p1
  generalize decide (0 ≤ x2 ∧ x2 ≤ 4) = p2
  generalize decide (0 ≤ x5 ∧ x5 ≤ 1048576) = p5
  generalize decide (1 ≤ x6 ∧ x6 ≤ 256) = p6
  generalize Op.bytesLess x4.toList x3.toList = pl
  by_cases c3 : (x3.size : Int) ≤ 64 <;> by_cases c4 : (x4.size : Int) ≤ 64 <;> simp only [c3, c4, if_true, if_false, decide_true, decide_false] <;> cases p0 <;> cases p1 <;> cases p2 <;> cases pl <;> cases p5 <;> cases p6 <;> cases x7 <;> cases x8 <;> rfl
theorem idxT (l : List S31) (hl : l.length ≤ 100000) : ∀ (d i : Nat), i + d = l.length → ∃ r : Int, Ev (fun k => api_Table_70.l0 k l (l.length : Int) (i : Int)) r ∧ (r ≥ 0 ↔ (l.drop i).all mayT = false)
  | 0, i, hd => by
    refine ⟨-1, Ev.step (f := fun _ => some (-1)) (fun k => by rw [api_Table_70.l0, if_neg (by omega)]) (Ev.now _), ?_⟩
    rw [List.drop_of_length_le (by omega)]; simp
  | d + 1, i, hd => by
    have hi : i < l.length := by omega
    obtain ⟨r, h1, h2⟩ := idxT l hl d (i + 1) (by omega)
    have ew : wrap64 ((i : Int) + 1) = ((i + 1 : Nat) : Int) := by rw [w64 (by omega) (by omega)]; omega
    have ed : l.drop i = rd_T31 l (i : Int) :: l.drop (i + 1) := by rw [rdE31_get l i hi, List.drop_eq_getElem_cons hi]
    obtain ⟨t, et⟩ : ∃ t, rd_T31 l (i : Int) = t := ⟨_, rfl⟩
    rw [ed, et, List.all_cons]
    cases c : mayT t with
    | false =>
      refine ⟨(i : Int), Ev.step (f := fun _ => some (i : Int)) (fun k => ?_) (Ev.now _), by simp⟩
      rw [api_Table_70.l0, if_pos (by omega), if_pos (by omega), if_pos (by omega), et]
      unfold edit_May_1.f
      rw [mayT_eq, Option.bind_some, Option.bind_some, c]; rfl
    | true =>
      refine ⟨r, Ev.step (fun k => ?_) h1, by rw [h2]; simp⟩
      rw [api_Table_70.l0, if_pos (by omega), if_pos (by omega), if_pos (by omega), et]
      unfold edit_May_1.f
      rw [mayT_eq, Option.bind_some, Option.bind_some, c, ew]; rfl
theorem idxI (l : List Int) (hl : l.length ≤ 100000) : ∀ (d i : Nat), i + d = l.length → ∃ r : Int, Ev (fun k => slices_IndexFunc_int_int.l0 k l (l.length : Int) (i : Int)) r ∧ (r ≥ 0 ↔ (l.drop i).all (okNum 1) = false)
  | 0, i, hd => by
    refine ⟨-1, Ev.step (f := fun _ => some (-1)) (fun k => by rw [slices_IndexFunc_int_int.l0, if_neg (by omega)]) (Ev.now _), ?_⟩
    rw [List.drop_of_length_le (by omega)]; simp
  | d + 1, i, hd => by
    have hi : i < l.length := by omega
    obtain ⟨r, h1, h2⟩ := idxI l hl d (i + 1) (by omega)
    have ew : wrap64 ((i : Int) + 1) = ((i + 1 : Nat) : Int) := by rw [w64 (by omega) (by omega)]; omega
    have ed : l.drop i = rd l (i : Int) :: l.drop (i + 1) := by rw [rd_at hi, List.drop_eq_getElem_cons hi]
    obtain ⟨t, et⟩ : ∃ t, rd l (i : Int) = t := ⟨_, rfl⟩
    rw [ed, et, List.all_cons]
    have ek : edit_May_2.f t = some (!(okNum 1 t)) := by unfold edit_May_2.f; rw [within_eq]; rfl
    cases c : okNum 1 t with
    | false =>
      refine ⟨(i : Int), Ev.step (f := fun _ => some (i : Int)) (fun k => ?_) (Ev.now _), by simp⟩
      rw [slices_IndexFunc_int_int.l0, if_pos (by omega), if_pos (by omega), if_pos (by omega), et, ek, Option.bind_some, c]; rfl
    | true =>
      refine ⟨r, Ev.step (fun k => ?_) h1, by rw [h2]; simp⟩
      rw [slices_IndexFunc_int_int.l0, if_pos (by omega), if_pos (by omega), if_pos (by omega), et, ek, Option.bind_some, c, ew]; rfl
def mayE (a0 a1 a2 a3 : Int) (l4 : List S31) (l5 : List Int) : Bool := okNum 0 a0 && (okNum 0 a1 && (okNum 0 a2 && (okNum 0 a3 && (decide ((l4.length : Int) ≤ 256) && (decide ((l5.length : Int) ≤ 256) && (l4.all mayT && l5.all (okNum 1)))))))
theorem may_last (a0 a1 a2 a3 : Int) (y : List Int) (hy : y.length = 4) (l4 : List S31) (l5 : List Int) :
    Ev (fun k => edit_May.l0 k y 4 4 a0 a1 a2 a3 l4 l5) (decide ((l4.length : Int) ≤ 256) && (decide ((l5.length : Int) ≤ 256) && (l4.all mayT && l5.all (okNum 1)))) := by
  by_cases c4 : (l4.length : Int) ≤ 256
  · by_cases c5 : (l5.length : Int) ≤ 256
    · obtain ⟨r, h1, h2⟩ := idxT l4 (by omega) l4.length 0 (by omega)
      obtain ⟨s, g1, g2⟩ := idxI l5 (by omega) l5.length 0 (by omega)
      rw [List.drop_zero] at h2 g2
      rw [decide_eq_true c4, decide_eq_true c5, Bool.true_and, Bool.true_and]
      refine Ev.step (f := fun k => (api_Table_58.f k l4).bind fun t => (if t = true then (some false) else ((slices_ContainsFunc_int_int.f k l5).bind fun t123 => (some (!t123))))) (fun k => by rw [edit_May.l0, if_neg (by decide), if_pos c4, if_pos c5]) ?_
      refine Ev.bind (a := decide (r ≥ 0)) (Ev.bind h1 (Ev.now _)) ?_
      cases e : l4.all mayT with
      | false =>
        rw [decide_eq_true (h2.2 e), Bool.false_and]
        exact Ev.now _
      | true =>
        have : ¬ r ≥ 0 := fun h => by rw [h2.1 h] at e; cases e
        rw [decide_eq_false this, Bool.true_and]
        refine Ev.congr (f := fun k => (slices_ContainsFunc_int_int.f k l5).bind fun t123 => (some (!t123))) (fun k => rfl) (Ev.bind (a := decide (s ≥ 0)) (Ev.bind g1 (Ev.now _)) ?_)
        cases e2 : l5.all (okNum 1) with
        | false => rw [decide_eq_true (g2.2 e2)]; exact Ev.now _
        | true =>
          have : ¬ s ≥ 0 := fun h => by rw [g2.1 h] at e2; cases e2
          rw [decide_eq_false this]; exact Ev.now _
    · rw [decide_eq_false c5, Bool.false_and, Bool.and_false]
      exact Ev.step (f := fun _ => some false) (fun k => by rw [edit_May.l0, if_neg (by decide), if_pos c4, if_neg c5]) (Ev.now _)
  · rw [decide_eq_false c4, Bool.false_and]
    exact Ev.step (f := fun _ => some false) (fun k => by rw [edit_May.l0, if_neg (by decide), if_neg c4]) (Ev.now _)
theorem may_step (a0 a1 a2 a3 : Int) (y : List Int) (hy : y.length = 4) (l4 : List S31) (l5 : List Int) (i : Nat) (hi : i < 4) (x : Int) (hx : rd y (i : Int) = x) {r : Bool}
    (h : Ev (fun k => edit_May.l0 k y 4 ((i + 1 : Nat) : Int) a0 a1 a2 a3 l4 l5) r) : Ev (fun k => edit_May.l0 k y 4 (i : Int) a0 a1 a2 a3 l4 l5) (okNum 0 x && r) := by
  have ew : wrap64 ((i : Int) + 1) = ((i + 1 : Nat) : Int) := by rw [w64 (by omega) (by omega)]; omega
  have ek : edit_within.f x 0 9007199254740992 = some (okNum 0 x) := within_eq _ _ _
  cases c : okNum 0 x with
  | false =>
    rw [Bool.false_and]
    refine Ev.step (f := fun _ => some false) (fun k => ?_) (Ev.now _)
    rw [edit_May.l0, if_pos (by omega), if_pos (by omega), if_pos (by omega), hx, ek, Option.bind_some, c]; rfl
  | true =>
    rw [Bool.true_and]
    refine Ev.step (fun k => ?_) h
    rw [edit_May.l0, if_pos (by omega), if_pos (by omega), if_pos (by omega), hx, ek, Option.bind_some, c, ew]; rfl
theorem may_ev (a0 a1 a2 a3 : Int) (l4 : List S31) (l5 : List Int) : Ev (fun k => edit_May.f k a0 a1 a2 a3 l4 l5) (mayE a0 a1 a2 a3 l4 l5) := by
  have h4 := may_last a0 a1 a2 a3 [a0, a1, a2, a3] rfl l4 l5
  have h3 := may_step a0 a1 a2 a3 [a0, a1, a2, a3] rfl l4 l5 3 (by omega) a3 rfl h4
  have h2 := may_step a0 a1 a2 a3 [a0, a1, a2, a3] rfl l4 l5 2 (by omega) a2 rfl h3
  have h1 := may_step a0 a1 a2 a3 [a0, a1, a2, a3] rfl l4 l5 1 (by omega) a1 rfl h2
  have h0 := may_step a0 a1 a2 a3 [a0, a1, a2, a3] rfl l4 l5 0 (by omega) a0 rfl h1
  exact Ev.congr (fun k => rfl) h0

/-! ### tables by numbers -/
def keyB (n : Nat) : ByteArray := ⟨#[107, UInt8.ofNat (48 + n / 10), UInt8.ofNat (48 + n % 10)]⟩
theorem key_all : ∀ n : Nat, n < 40 → iceboxlaw17_key.f 5 (n : Int) = some (keyB n) := by decide +kernel
theorem key_ev (x : Int) (h0 : 0 ≤ x) (h1 : x < 40) : Ev (fun k => iceboxlaw17_key.f k x) (keyB x.toNat) := by
  have h := key_all x.toNat (by omega)
  rw [Int.toNat_of_nonneg h0] at h
  exact Ev.of (fun k => iceboxlaw17_key.mono x k) h
theorem key_up : ∀ m : Nat, m < 40 → ∀ n : Nat, n < 40 → m ≤ n → Op.bytesLess (keyB n).data.toList (keyB m).data.toList = false := by decide +kernel
theorem key_a : ∀ m : Nat, m < 40 → Op.bytesLess [97] (keyB m).data.toList = true := by decide +kernel
def tabOf (i : Nat) (a b c : Int) : S31 := ⟨1 + (i : Int), b % 3, c % 5, keyB (a % 30).toNat, keyB (a % 30 + b % 8).toNat, 10 * (1 + b), 1 + b, (c % 3) != 0, (c % 3) != 1⟩
def tabsOf : Nat → List Int → List S31
  | i, a :: b :: c :: r => if i < 20 then tabOf i a b c :: tabsOf (i + 1) r else []
  | _, _ => []
theorem tm (a : Int) (h : 0 ≤ a) (n : Int) (hn : 0 < n) : Int.tmod a n = a % n := Int.tmod_eq_emod_of_nonneg h
theorem tabsOf_short (i : Nat) : ∀ r : List Int, r.length ≤ 2 → tabsOf i r = []
  | [], _ => by rw [tabsOf]; intros; simp_all
  | [_], _ => by rw [tabsOf]; intros; simp_all
  | [_, _], _ => by rw [tabsOf]; intros; simp_all
  | _ :: _ :: _ :: _, h => by simp only [List.length_cons] at h; omega
theorem tabs_end (l acc : List Int) (z : Int) (a : List S31) : Ev (fun k => iceboxlaw17_Tables.j1 k l a z false) a := Ev.step (f := fun _ => some a) (fun k => by rw [iceboxlaw17_Tables.j1, if_neg Bool.false_ne_true]) (Ev.now _)
theorem w64s {x : Int} (h : 0 ≤ x ∧ x < 1000000) : wrap64 x = x := w64 (by omega) (by omega)
theorem tabs_one (l : List Int) (hl : l.length < 2 ^ 48) (i : Nat) (hi : i < 20) (h2 : 3 * i + 2 < l.length) (acc : List S31) (hacc : acc.length ≤ 200) (a b c : Int) (ra : rd l ((3 * i : Nat) : Int) = a) (rb : rd l ((3 * i + 1 : Nat) : Int) = b) (rc : rd l ((3 * i + 2 : Nat) : Int) = c)
    (ha : 0 ≤ a ∧ a < 256) (hbb : 0 ≤ b ∧ b < 256) (hc : 0 ≤ c ∧ c < 256) {res : List S31} (h : Ev (fun k => iceboxlaw17_Tables.l0 k l (acc ++ [tabOf i a b c]) ((3 * (i + 1) : Nat) : Int)) res) :
    Ev (fun k => iceboxlaw17_Tables.l0 k l acc ((3 * i : Nat) : Int)) res := by
  have RA := Aside0.mk ra
  have RB := Aside0.mk rb
  have RC := Aside0.mk rc
  clear ra rb rc
  have k1 := key_ev (a % 30) (by omega) (by omega)
  have k2 := key_ev (a % 30 + b % 8) (by omega) (by omega)
  have p1 : (0 : Int) ≤ ((3 * i : Nat) : Int) := by omega
  have p2 : ((3 * i : Nat) : Int) < (l.length : Int) := by omega
  have p3 : (0 : Int) ≤ ((3 * i + 1 : Nat) : Int) := by omega
  have p4 : ((3 * i + 1 : Nat) : Int) < (l.length : Int) := by omega
  have p5 : (0 : Int) ≤ ((3 * i + 2 : Nat) : Int) := by omega
  have p6 : ((3 * i + 2 : Nat) : Int) < (l.length : Int) := by omega
  have p7 : ((3 * i : Nat) : Int) < 60 := by omega
  have p8 : acc.length < 1759218604441 := by omega
  have t1 := tm a (by omega) 30 (by decide)
  have t2 := tm b (by omega) 8 (by decide)
  have t3 := tm b (by omega) 3 (by decide)
  have t4 := tm c (by omega) 5 (by decide)
  have t5 := tm c (by omega) 3 (by decide)
  have et : Int.tdiv ((3 * i : Nat) : Int) 3 = (i : Int) := by rw [Int.tdiv_eq_ediv_of_nonneg p1]; omega
  have g2 : ((3 * i : Nat) : Int) + 2 = ((3 * i + 2 : Nat) : Int) := by omega
  have g1 : ((3 * i : Nat) : Int) + 1 = ((3 * i + 1 : Nat) : Int) := by omega
  have g3 : ((3 * i : Nat) : Int) + 3 = ((3 * (i + 1) : Nat) : Int) := by omega
  have b2 : (0 : Int) ≤ ((3 * i + 2 : Nat) : Int) ∧ ((3 * i + 2 : Nat) : Int) < 1000000 := by omega
  have b1 : (0 : Int) ≤ ((3 * i + 1 : Nat) : Int) ∧ ((3 * i + 1 : Nat) : Int) < 1000000 := by omega
  have b3 : (0 : Int) ≤ ((3 * (i + 1) : Nat) : Int) ∧ ((3 * (i + 1) : Nat) : Int) < 1000000 := by omega
  have bi : (0 : Int) ≤ (i : Int) ∧ (i : Int) < 1000000 := by omega
  have bi1 : (0 : Int) ≤ 1 + (i : Int) ∧ 1 + (i : Int) < 1000000 := by omega
  have ba : 0 ≤ a ∧ a < 1000000 := by omega
  have bb : 0 ≤ b ∧ b < 1000000 := by omega
  have bc : 0 ≤ c ∧ c < 1000000 := by omega
  have bb1 : 0 ≤ 1 + b ∧ 1 + b < 1000000 := by omega
  have bb2 : 0 ≤ 10 * (1 + b) ∧ 10 * (1 + b) < 1000000 := by omega
  have bs : 0 ≤ a % 30 + b % 8 ∧ a % 30 + b % 8 < 1000000 := by omega
  have e2 : wrap64 (((3 * i : Nat) : Int) + 2) = ((3 * i + 2 : Nat) : Int) := g2 ▸ w64s b2
  have e1 : wrap64 (((3 * i : Nat) : Int) + 1) = ((3 * i + 1 : Nat) : Int) := g1 ▸ w64s b1
  have e3 : wrap64 (((3 * i : Nat) : Int) + 3) = ((3 * (i + 1) : Nat) : Int) := g3 ▸ w64s b3
  have ea := w64s ba
  have eb := w64s bb
  have ec := w64s bc
  have ei := w64s bi
  have ei1 := w64s bi1
  have eb1 := w64s bb1
  have eb2 := w64s bb2
  have es := w64s bs
  refine Ev.step (f := fun k => iceboxlaw17_Tables.j1 k l acc ((3 * i : Nat) : Int) true) (fun k => by rw [iceboxlaw17_Tables.l0, e2, if_pos p6, decide_eq_true p7]) ?_
  refine Ev.step (f := fun k => (iceboxlaw17_key.f k (a % 30)).bind fun t183 => (iceboxlaw17_key.f k (a % 30 + b % 8)).bind fun t184 => if acc.length < 1759218604441 then iceboxlaw17_Tables.l0 k l (acc ++ [(⟨1 + (i : Int), b % 3, c % 5, t183, t184, 10 * (1 + b), 1 + b, (c % 3) != 0, (c % 3) != 1⟩ : S31)]) ((3 * (i + 1) : Nat) : Int) else none) (fun k => ?_) ?_
  · rw [iceboxlaw17_Tables.j1, if_pos rfl, e1, e2, e3, if_pos p1, if_pos p2, if_pos p3, if_pos p4, if_pos p5, if_pos p6, RA.out, RB.out, RC.out, ea, eb, ec, et, ei, ei1, eb1, eb2, t1, t2, t3, t4, t5, es]
  · unfold tabOf at h
    exact Ev.bind k1 (Ev.bind k2 (Ev.congr (fun k => if_pos p8) h))
theorem tabs_l0 (l : List Int) (hl : l.length < 2 ^ 48) (hb : Bytes l) : ∀ (d i : Nat) (acc : List S31), i + d = 20 → acc.length ≤ 100 + i → 3 * i ≤ l.length → Ev (fun k => iceboxlaw17_Tables.l0 k l acc ((3 * i : Nat) : Int)) (acc ++ tabsOf i (l.drop (3 * i))) := by
  intro d
  induction d with
  | zero =>
    intro i acc hd hacc hil
    have e2 : wrap64 (((3 * i : Nat) : Int) + 2) = ((3 * i + 2 : Nat) : Int) := by rw [w64 (by omega) (by omega)]; omega
    have hz : tabsOf i (l.drop (3 * i)) = [] := by
      by_cases h2 : 3 * i + 2 < l.length
      · have q0 : 3 * i < l.length := by omega
        have q1 : 3 * i + 1 < l.length := by omega
        rw [List.drop_eq_getElem_cons q0, List.drop_eq_getElem_cons q1, List.drop_eq_getElem_cons h2, tabsOf, if_neg (by omega)]
      · exact tabsOf_short i _ (by rw [List.length_drop]; omega)
    rw [hz, List.append_nil]
    refine Ev.step (fun k => ?_) (tabs_end l [] ((3 * i : Nat) : Int) acc)
    by_cases h2 : ((3 * i + 2 : Nat) : Int) < (l.length : Int)
    · rw [iceboxlaw17_Tables.l0, e2, if_pos h2, decide_eq_false (by omega)]
    · rw [iceboxlaw17_Tables.l0, e2, if_neg h2]
  | succ d ihd =>
    intro i acc hd hacc hil
    have e2 : wrap64 (((3 * i : Nat) : Int) + 2) = ((3 * i + 2 : Nat) : Int) := by rw [w64 (by omega) (by omega)]; omega
    by_cases h2 : 3 * i + 2 < l.length
    · have q0 : 3 * i < l.length := by omega
      have q1 : 3 * i + 1 < l.length := by omega
      have ed : l.drop (3 * i) = l[3 * i] :: l[3 * i + 1] :: l[3 * i + 2] :: l.drop (3 * (i + 1)) := by
        rw [show 3 * (i + 1) = 3 * i + 2 + 1 by omega, List.drop_eq_getElem_cons q0, List.drop_eq_getElem_cons q1, List.drop_eq_getElem_cons h2]
      rw [ed, tabsOf]
      have ih := ihd (i + 1) (acc ++ [tabOf i l[3 * i] l[3 * i + 1] l[3 * i + 2]]) (by omega) (by rw [List.length_append, List.length_singleton]; omega) (by omega)
      rw [List.append_assoc, List.singleton_append] at ih
      rw [if_pos (by omega)]
      exact tabs_one l hl i (by omega) h2 acc (by omega) _ _ _ (rd_at q0) (rd_at q1) (rd_at h2) (hb _ (List.getElem_mem q0)) (hb _ (List.getElem_mem q1)) (hb _ (List.getElem_mem h2)) ih
    · rw [tabsOf_short i _ (by rw [List.length_drop]; omega), List.append_nil]
      refine Ev.step (fun k => ?_) (tabs_end l [] ((3 * i : Nat) : Int) acc)
      rw [iceboxlaw17_Tables.l0, e2, if_neg (by omega)]
theorem tabs_ev (l : List Int) (hl : l.length < 2 ^ 48) (hb : Bytes l) : Ev (fun k => iceboxlaw17_Tables.f k l) (tabsOf 0 l) := by
  have h := tabs_l0 l hl hb 20 0 [] (by omega) (by simp) (by omega)
  rw [List.nil_append] at h
  exact h
theorem tabOf_may (i : Nat) (hi : i < 20) (a b c : Int) (ha : 0 ≤ a ∧ a < 256) (hb : 0 ≤ b ∧ b < 256) (hc : 0 ≤ c ∧ c < 256) : mayT (tabOf i a b c) = true := by
  unfold mayT tabOf okNum
  dsimp only
  have e3 : (keyB (a % 30).toNat).size = 3 := rfl
  have e4 : (keyB (a % 30 + b % 8).toNat).size = 3 := rfl
  have e5 : Op.bytesLess (keyB (a % 30 + b % 8).toNat).toList (keyB (a % 30).toNat).toList = false := by
    rw [Go.ByteArray.toList_eq, Go.ByteArray.toList_eq]
    exact key_up _ (by omega) _ (by omega) (by omega)
  rw [e3, e4, e5, decide_eq_true (by omega), decide_eq_true (by omega), decide_eq_true (by omega), decide_eq_true (by omega), decide_eq_true (by omega), decide_eq_true (by omega)]
  have e7 : ((c % 3 != 0) || (c % 3 != 1)) = true := by
    by_cases h : c % 3 = 0
    · rw [h]; rfl
    · rw [show (c % 3 != 0) = true from bne_iff_ne.2 h, Bool.true_or]
  rw [e7]; rfl
theorem awake_now : iceboxlaw17_awake.f 60 = some true := by decide +kernel
theorem awake_ev : Ev (fun k => iceboxlaw17_awake.f k) true := Ev.of (fun k => iceboxlaw17_awake.mono k) awake_now

theorem put_bad {a0 a1 a2 a3 : Int} {l4 : List S31} {l5 : List Int} (h : mayE a0 a1 a2 a3 l4 l5 = false) : Ev (fun k => edit_Put.f k a0 a1 a2 a3 l4 l5) [] := by
  have h1 := may_ev a0 a1 a2 a3 l4 l5
  rw [h] at h1
  exact Ev.congr (fun k => rfl) (Ev.bind h1 (Ev.congr (f := fun _ => some []) (fun k => if_neg Bool.false_ne_true) (Ev.now _)))
theorem tail_ev (t : S31) (h : mayT t = false) : Ev (fun k => (edit_MayTable.f t.f0 t.f1 t.f2 t.f3 t.f4 t.f5 t.f6 t.f7 t.f8).bind fun x => (if x = true then (some false) else ((edit_Put.f k 0 0 0 0 ([t] : List S31) ([] : List Int)).bind fun y => (if (y.length : Int) = 0 then ((iceboxlaw17_awake.f k).bind fun z => (some z)) else (some false))))) true := by
  have e : edit_MayTable.f t.f0 t.f1 t.f2 t.f3 t.f4 t.f5 t.f6 t.f7 t.f8 = some false := (mayT_eq _ _ _ _ _ _ _ _ _).trans (congrArg some h)
  have hp : mayE 0 0 0 0 [t] [] = false := by unfold mayE; rw [List.all_cons, h]; rfl
  refine Ev.congr (f := fun k => (edit_Put.f k 0 0 0 0 ([t] : List S31) ([] : List Int)).bind fun y => (if (y.length : Int) = 0 then ((iceboxlaw17_awake.f k).bind fun z => (some z)) else (some false))) (fun k => by rw [e, Option.bind_some, if_neg Bool.false_ne_true]) ?_
  refine Ev.bind (put_bad hp) (Ev.congr (f := fun k => (iceboxlaw17_awake.f k).bind fun z => (some z)) (fun k => if_pos rfl) (Ev.bind awake_ev (Ev.now _)))
theorem EditTables : iceboxlaw17_EditTables.Pure := by
  intro l0 a1 a2 _ hl hw hw1 hw2
  have hb := bytes_wf hw
  have h1 := wf_u8 hw1
  have h2 := wf_u8 hw2
  refine Ev.rounds (Ev.congr (fun k => rfl) (Ev.bind (tabs_ev l0 (by omega) hb) ?_))
  match l0, hb with
  | [], _ | [_], _ | [_, _], _ => exact Ev.congr (f := fun k => (iceboxlaw17_awake.f k).bind fun z => (some z)) (fun k => if_pos rfl) (Ev.bind awake_ev (Ev.now _))
  | a :: b :: c :: r, hb =>
    have hm := tabOf_may 0 (by decide) a b c (hb a (by simp)) (hb b (by simp)) (hb c (by simp))
    have eT : tabsOf 0 (a :: b :: c :: r) = tabOf 0 a b c :: tabsOf 1 r := by rw [tabsOf, if_pos (by decide)]
    obtain ⟨x0, x1, x2, x3, x4, x5, x6, x7, x8, et⟩ : ∃ x0 x1 x2 x3 x4 x5 x6 x7 x8, tabOf 0 a b c = (⟨x0, x1, x2, x3, x4, x5, x6, x7, x8⟩ : S31) := ⟨_, _, _, _, _, _, _, _, _, rfl⟩
    have ek : Op.bytesLess [97] x3.toList = true := by
      have := key_a (a % 30).toNat (by have := hb a (by simp); omega)
      have e3 : keyB (a % 30).toNat = x3 := congrArg S31.f3 et
      rw [Go.ByteArray.toList_eq, ← e3]; exact this
    rw [eT, et]
    rw [et] at hm
    have ea2 : wrap64 a2 = a2 := w64 (by omega) (by omega)
    have em : edit_MayTable.f x0 x1 x2 x3 x4 x5 x6 x7 x8 = some true := (mayT_eq _ _ _ _ _ _ _ _ _).trans (congrArg some hm)
    have etl : (⟨#[97]⟩ : ByteArray).toList = [97] := by rw [Go.ByteArray.toList_eq]
    have w2 : wrap64 (257 + wrap64 a2) = 257 + a2 := by rw [ea2]; exact w64 (by omega) (by omega)
    have w3 : wrap64 (-(wrap64 a2)) = -a2 := by rw [ea2]; exact w64 (by omega) (by omega)
    have w4 : wrap64 (5 + wrap64 a2) = 5 + a2 := by rw [ea2]; exact w64 (by omega) (by omega)
    have w5 : wrap64 (1048577 + wrap64 a2) = 1048577 + a2 := by rw [ea2]; exact w64 (by omega) (by omega)
    have p1 : ¬ ((((⟨x0, x1, x2, x3, x4, x5, x6, x7, x8⟩ : S31) :: tabsOf 1 r).length : Int) = 0) := by rw [List.length_cons]; omega
    have p2 : 0 < (((⟨x0, x1, x2, x3, x4, x5, x6, x7, x8⟩ : S31) :: tabsOf 1 r).length : Int) := by rw [List.length_cons]; omega
    have er : rd_T31 ((⟨x0, x1, x2, x3, x4, x5, x6, x7, x8⟩ : S31) :: tabsOf 1 r) 0 = ⟨x0, x1, x2, x3, x4, x5, x6, x7, x8⟩ := rfl
    have b0 : mayT ⟨x0, x1, x2, x3, (⟨#[97]⟩ : ByteArray), x5, x6, x7, x8⟩ = false := by
      unfold mayT; dsimp only; rw [etl, ek]; simp
    have b1 : mayT ⟨x0, x1, x2, x3, x4, x5, x6, false, false⟩ = false := by unfold mayT; simp
    have b2 : mayT ⟨x0, x1, x2, x3, x4, x5, 257 + a2, x7, x8⟩ = false := by
      unfold mayT; dsimp only; rw [decide_eq_false (p := 1 ≤ 257 + a2 ∧ 257 + a2 ≤ 256) (by omega)]; simp
    have b3 : mayT ⟨-a2, x1, x2, x3, x4, x5, x6, x7, x8⟩ = false := by
      unfold mayT okNum; dsimp only; rw [decide_eq_false (p := 1 ≤ -a2 ∧ -a2 ≤ 9007199254740992) (by omega)]; simp
    have b4 : mayT ⟨x0, x1, 5 + a2, x3, x4, x5, x6, x7, x8⟩ = false := by
      unfold mayT; dsimp only; rw [decide_eq_false (p := 0 ≤ 5 + a2 ∧ 5 + a2 ≤ 4) (by omega)]; simp
    have b5 : mayT ⟨x0, x1, x2, x3, x4, 1048577 + a2, x6, x7, x8⟩ = false := by
      unfold mayT; dsimp only; rw [decide_eq_false (p := 0 ≤ 1048577 + a2 ∧ 1048577 + a2 ≤ 1048576) (by omega)]; simp
    by_cases c0 : Int.tmod a1 6 = 0
    · exact Ev.congr (fun k => by rw [if_neg p1, if_pos p2, er, em, Option.bind_some, if_pos rfl, if_pos c0]) (tail_ev _ b0)
    · by_cases c1 : Int.tmod a1 6 = 1
      · exact Ev.congr (fun k => by rw [if_neg p1, if_pos p2, er, em, Option.bind_some, if_pos rfl, if_neg c0, if_pos c1]) (tail_ev _ b1)
      · by_cases c2 : Int.tmod a1 6 = 2
        · exact Ev.congr (fun k => by rw [if_neg p1, if_pos p2, er, em, Option.bind_some, if_pos rfl, if_neg c0, if_neg c1, if_pos c2, w2]) (tail_ev _ b2)
        · by_cases c3 : Int.tmod a1 6 = 3
          · exact Ev.congr (fun k => by rw [if_neg p1, if_pos p2, er, em, Option.bind_some, if_pos rfl, if_neg c0, if_neg c1, if_neg c2, if_pos c3, w3]) (tail_ev _ b3)
          · by_cases c4 : Int.tmod a1 6 = 4
            · exact Ev.congr (fun k => by rw [if_neg p1, if_pos p2, er, em, Option.bind_some, if_pos rfl, if_neg c0, if_neg c1, if_neg c2, if_neg c3, if_pos c4, w4]) (tail_ev _ b4)
            · exact Ev.congr (fun k => by rw [if_neg p1, if_pos p2, er, em, Option.bind_some, if_pos rfl, if_neg c0, if_neg c1, if_neg c2, if_neg c3, if_neg c4, w5]) (tail_ev _ b5)

end Go.Proofs.Ytffnimaaolmbdaa.Pure
