/- The pure statement of the law FoldScans: over the Lean functions that the Go code was shown to compute, the law answers true for every input within the statement's own bounds. No further conditions. -/
import Derived.Test.YtffnimaaolmbdaaPFoldScansx2
import Derived.Test.YtffnimaaolmbdaaPFoldScansx3
import Derived.Test.YtffnimaaolmbdaaPFoldScansx4
import Derived.Test.YtffnimaaolmbdaaPFoldScansx5
namespace Go.Proofs.Ytffnimaaolmbdaa.Pure
open Go.RowKit Go.Proofs.Ytffnimaaolmbdaa.PFoldScans Go.Proofs.YtffnimaaolmbdaaW.PrintWords Go.Proofs.YtffnimaaolmbdaaW.PrintLast Go.Proofs.YtffnimaaolmbdaaW.PrintMore
set_option linter.unusedVariables false
set_option linter.unusedSimpArgs false

theorem w64 {x : Int} (h0 : -9223372036854775808 ≤ x) (h1 : x < 9223372036854775808) : wrap64 x = x := by
  unfold wrap64; omega
theorem bits_xor_nat (k : IntKind) (j : Nat) (hj : j ≤ k.bits) (hk : ∀ n : Int, 0 ≤ n → n < 2 ^ j → k.wrap n = n) (a b : Nat) (ha : a < 2 ^ j) (hb : b < 2 ^ j) :
    Go.bits .xor k a b = ((a ^^^ b : Nat) : Int) := by
  have hp : 2 ^ j ≤ 2 ^ k.bits := Nat.pow_le_pow_right (by decide) hj
  have ha' : a % 2 ^ k.bits = a := Nat.mod_eq_of_lt (Nat.lt_of_lt_of_le ha hp)
  have hb' : b % 2 ^ k.bits = b := Nat.mod_eq_of_lt (Nat.lt_of_lt_of_le hb hp)
  simp only [Go.bits, BitVec.ofInt_natCast, BitVec.toNat_xor, BitVec.toNat_ofNat, ha', hb']
  exact hk _ (Int.natCast_nonneg _) (by exact_mod_cast Nat.xor_lt_two_pow ha hb)
theorem wr_u32 (n : Int) (h₀ : 0 ≤ n) (h₁ : n < 2 ^ 32) : IntKind.u32.wrap n = n := by rw [IntKind.wrap_u32]; omega
theorem wr_u8 (n : Int) (h₀ : 0 ≤ n) (h₁ : n < 2 ^ 8) : IntKind.u8.wrap n = n := by rw [IntKind.wrap_u8]; omega
theorem wr_i64 (n : Int) (h₀ : 0 ≤ n) (h₁ : n < 2 ^ 63) : IntKind.i64.wrap n = n := by rw [IntKind.wrap_i64]; omega
theorem wr_u64 (n : Int) : IntKind.u64.wrap n = n % 18446744073709551616 := by simp [IntKind.wrap, IntKind.bits, IntKind.signed]
theorem bx_u32 (a b : Nat) (ha : a < 2 ^ 32) (hb : b < 2 ^ 32) : Go.bits .xor .u32 a b = ((a ^^^ b : Nat) : Int) := bits_xor_nat .u32 32 (by decide) wr_u32 a b ha hb
theorem bx_u8 (a b : Nat) (ha : a < 2 ^ 8) (hb : b < 2 ^ 8) : Go.bits .xor .u8 a b = ((a ^^^ b : Nat) : Int) := bits_xor_nat .u8 8 (by decide) wr_u8 a b ha hb
theorem bx_i64 (a b : Nat) (ha : a < 2 ^ 63) (hb : b < 2 ^ 63) : Go.bits .xor .i64 a b = ((a ^^^ b : Nat) : Int) := bits_xor_nat .i64 63 (by decide) wr_i64 a b ha hb
theorem bo_i64 (a b : Nat) (ha : a < 2 ^ 63) (hb : b < 2 ^ 63) : Go.bits .or .i64 a b = ((a ||| b : Nat) : Int) := (bits_nat .i64 63 (by decide) wr_i64 a b ha hb).2
theorem bo_u8 (a b : Nat) (ha : a < 2 ^ 8) (hb : b < 2 ^ 8) : Go.bits .or .u8 a b = ((a ||| b : Nat) : Int) := (bits_nat .u8 8 (by decide) wr_u8 a b ha hb).2
theorem ba_u8 (a b : Nat) (ha : a < 2 ^ 8) (hb : b < 2 ^ 8) : Go.bits .and .u8 a b = ((a &&& b : Nat) : Int) := (bits_nat .u8 8 (by decide) wr_u8 a b ha hb).1
theorem ba_u32 (a b : Nat) (ha : a < 2 ^ 32) (hb : b < 2 ^ 32) : Go.bits .and .u32 a b = ((a &&& b : Nat) : Int) := (bits_nat .u32 32 (by decide) wr_u32 a b ha hb).1
theorem max_u32 : IntKind.u32.max = ((4294967295 : Nat) : Int) := by decide
theorem wf_u8 {x : Int} (h : (Lit.int .u8 x).wf = true) : 0 ≤ x ∧ x < 256 := by
  simp [Lit.wf, IntKind.min, IntKind.max, IntKind.signed, IntKind.bits] at h; omega
theorem wf_u16 {x : Int} (h : (Lit.int .u16 x).wf = true) : 0 ≤ x ∧ x < 65536 := by
  simp [Lit.wf, IntKind.min, IntKind.max, IntKind.signed, IntKind.bits] at h; omega
theorem wf_u32 {x : Int} (h : (Lit.int .u32 x).wf = true) : 0 ≤ x ∧ x < 4294967296 := by
  simp [Lit.wf, IntKind.min, IntKind.max, IntKind.signed, IntKind.bits] at h; omega
theorem wf_u64 {x : Int} (h : (Lit.int .u64 x).wf = true) : 0 ≤ x ∧ x < 18446744073709551616 := by
  simp [Lit.wf, IntKind.min, IntKind.max, IntKind.signed, IntKind.bits] at h; omega
theorem wf_i64 {x : Int} (h : (Lit.int .i64 x).wf = true) : -9223372036854775808 ≤ x ∧ x < 9223372036854775808 := by
  simp [Lit.wf, IntKind.min, IntKind.max, IntKind.signed, IntKind.bits] at h; omega

def ints (l : List Nat) : List Int := l.map fun n : Nat => (n : Int)
theorem ints_length (l : List Nat) : (ints l).length = l.length := by unfold ints; simp
theorem ints_append (a b : List Nat) : ints (a ++ b) = ints a ++ ints b := by unfold ints; simp
def nats (l : List Int) : List Nat := l.map Int.toNat
def Bytes (l : List Int) : Prop := ∀ x ∈ l, 0 ≤ x ∧ x < 256
theorem bytes_wf {l : List Int} (h : ∀ x ∈ l, (Lit.int .u8 x).wf = true) : Bytes l := fun x hx => wf_u8 (h x hx)
theorem nats_length (l : List Int) : (nats l).length = l.length := by unfold nats; simp
theorem nats_ints (l : List Nat) : nats (ints l) = l := by
  unfold nats ints; rw [List.map_map]
  conv => rhs; rw [← List.map_id l]
  apply List.map_congr_left; intro a _; simp
theorem ints_nats {l : List Int} (h : Bytes l) : ints (nats l) = l := by
  unfold nats ints; rw [List.map_map]
  conv => rhs; rw [← List.map_id l]
  apply List.map_congr_left; intro a ha
  have := h a ha
  simp; omega
theorem nats_lt {l : List Int} (h : Bytes l) : ∀ c ∈ nats l, c < 256 := by
  intro c hc
  obtain ⟨x, hx, rfl⟩ := List.mem_map.1 hc
  have := h x hx; omega
theorem ints_bytes {l : List Nat} (h : ∀ c ∈ l, c < 256) : Bytes (ints l) := by
  intro x hx
  obtain ⟨c, hc, rfl⟩ := List.mem_map.1 hx
  have := h c hc; omega
theorem nats_append (a b : List Int) : nats (a ++ b) = nats a ++ nats b := by unfold nats; simp
theorem nats_take (l : List Int) (n : Nat) : nats (l.take n) = (nats l).take n := by unfold nats; rw [List.map_take]
theorem nats_drop (l : List Int) (n : Nat) : nats (l.drop n) = (nats l).drop n := by unfold nats; rw [List.map_drop]
theorem rd_at {l : List Int} {i : Nat} (h : i < l.length) : rd l (i : Int) = l[i] := by
  unfold rd; simp [h]
theorem rd_byte {l : List Int} {i : Nat} (h : i < l.length) (hb : Bytes l) : ∃ c : Nat, rd l (i : Int) = c ∧ c < 256 ∧ (nats l).drop i = c :: (nats l).drop (i + 1) := by
  have := hb l[i] (List.getElem_mem h)
  have h2 : i < (nats l).length := by rw [nats_length]; exact h
  refine ⟨l[i].toNat, by rw [rd_at h]; omega, by omega, ?_⟩
  rw [List.drop_eq_getElem_cons h2]
  have h4 : i < (l.map Int.toNat).length := h2
  have h3 : (l.map Int.toNat)[i]'h4 = l[i].toNat := by rw [List.getElem_map]
  rw [← h3]; rfl

/-! ### Make: entries in order, by numbers -/
def dg (n : Nat) : ByteArray := if n < 10 then ⟨#[UInt8.ofNat (48 + n)]⟩ else if n < 100 then ⟨#[UInt8.ofNat (48 + n / 10), UInt8.ofNat (48 + n % 10)]⟩ else ⟨#[UInt8.ofNat (48 + n / 100), UInt8.ofNat (48 + n / 10 % 10), UInt8.ofNat (48 + n % 10)]⟩
theorem dg_all : ∀ n : Nat, n < 256 → iceboxref1_Digits.f 5 (n : Int) = some (dg n) := by decide +kernel
theorem dg_size : ∀ n : Nat, n < 256 → (dg n).size ≤ 3 := by decide +kernel
theorem dg_num : ∀ n : Nat, n < 256 → (dg n).data.toList.foldl (fun a (b : UInt8) => 10 * a + (b.toNat - 48)) 0 = n := by decide +kernel
theorem dg_inj {m n : Nat} (hm : m < 256) (hn : n < 256) (h : (dg m).toList = (dg n).toList) : m = n := by
  rw [Go.ByteArray.toList_eq, Go.ByteArray.toList_eq] at h
  rw [← dg_num m hm, ← dg_num n hn, h]
theorem dg_ev (x : Int) (h0 : 0 ≤ x) (h1 : x ≤ 255) : Ev (fun k => iceboxref1_Digits.f k x) (dg x.toNat) := by
  have h := dg_all x.toNat (by omega)
  rw [Int.toNat_of_nonneg h0] at h
  exact Ev.of (fun k => iceboxref1_Digits.mono x k) h
theorem empty_tl : (⟨#[]⟩ : ByteArray).toList = [] := by rw [Go.ByteArray.toList_eq]
theorem zero_tl : (⟨#[0]⟩ : ByteArray).toList = [0] := by rw [Go.ByteArray.toList_eq]

/-! ### batches by numbers -/
theorem S72_eta (x : S72) : (⟨x.f0, x.f1, x.f2⟩ : S72) = x := rfl
theorem rnorm1 (o : S72) : Ev (fun k => iceboxref1_Norm.f k [o]) [o] := by
  refine ⟨3, fun k hk => ?_⟩
  obtain ⟨k', rfl⟩ : ∃ k', k = k' + 3 := ⟨k - 3, by omega⟩
  show iceboxref1_Norm.l0 (k' + 2 + 1) [o] [] 0 = some [o]
  rw [iceboxref1_Norm.l0, if_pos (by first | decide | simp)]
  show iceboxref1_Norm.l1 (k' + 1 + 1) [o] [] 0 0 = some [o]
  rw [iceboxref1_Norm.l1, if_neg (by first | decide | simp), Option.bind_some, if_pos (by first | decide | simp), if_pos (by first | decide | simp), Option.bind_some, if_pos (by first | decide | simp), Option.bind_some, if_pos (by first | decide | simp), if_pos (by first | decide | simp), if_pos (by first | decide | simp), Option.bind_some, Option.bind_some, if_pos (by first | decide | simp), w64 (by decide) (by decide)]
  show iceboxref1_Norm.l0 (k' + 1) [o] [o] 1 = some [o]
  rw [iceboxref1_Norm.l0, if_neg (by first | decide | simp)]
theorem rnorm2 (o q : S72) (h : Op.bytesLess o.f1.toList q.f1.toList = true) : Ev (fun k => iceboxref1_Norm.f k [o, q]) [o, q] := by
  refine ⟨6, fun k hk => ?_⟩
  obtain ⟨k', rfl⟩ : ∃ k', k = k' + 6 := ⟨k - 6, by omega⟩
  show iceboxref1_Norm.l0 (k' + 5 + 1) [o, q] [] 0 = some [o, q]
  rw [iceboxref1_Norm.l0, if_pos (by first | decide | simp)]
  show iceboxref1_Norm.l1 (k' + 4 + 1) [o, q] [] 0 0 = some [o, q]
  rw [iceboxref1_Norm.l1, if_neg (by first | decide | simp), Option.bind_some, if_pos (by first | decide | simp), if_pos (by first | decide | simp), Option.bind_some, if_pos (by first | decide | simp), Option.bind_some, if_pos (by first | decide | simp), if_pos (by first | decide | simp), if_pos (by first | decide | simp), Option.bind_some, Option.bind_some, if_pos (by first | decide | simp), w64 (by decide) (by decide)]
  show iceboxref1_Norm.l0 (k' + 3 + 1) [o, q] [o] 1 = some [o, q]
  rw [iceboxref1_Norm.l0, if_pos (by first | decide | simp)]
  show iceboxref1_Norm.l1 (k' + 2 + 1) [o, q] [o] 1 0 = some [o, q]
  have h' : Op.bytesLess (rd_T72 [o] 0).f1.toList (rd_T72 [o, q] 1).f1.toList = true := h
  rw [iceboxref1_Norm.l1, if_pos (by simp), if_pos (by first | decide | simp), if_pos (by first | decide | simp), if_pos (by simp), if_pos h', w64 (by decide) (by decide)]
  show iceboxref1_Norm.l1 (k' + 1 + 1) [o, q] [o] 1 1 = some [o, q]
  rw [iceboxref1_Norm.l1, if_neg (by simp), Option.bind_some, if_pos (by first | decide | simp), if_pos (by simp), Option.bind_some, if_pos (by simp), Option.bind_some, if_pos (by first | decide | simp), if_pos (by simp), if_pos (by simp), Option.bind_some, Option.bind_some, if_pos (by simp), w64 (by decide) (by decide)]
  show iceboxref1_Norm.l0 (k' + 1) [o, q] [o, q] 2 = some [o, q]
  rw [iceboxref1_Norm.l0, if_neg (by simp)]
def mkOp (n : Nat) : S72 := if n % 5 = 0 then ⟨2, (⟨#[107]⟩ : ByteArray) ++ dg (n % 7), (⟨#[]⟩ : ByteArray)⟩ else ⟨1, (⟨#[107]⟩ : ByteArray) ++ dg (n % 7), dg n⟩
def mkOps (n : Nat) : List S72 := if n % 3 = 0 then [mkOp n, ⟨1, (⟨#[108]⟩ : ByteArray) ++ dg (n % 4), (⟨#[120]⟩ : ByteArray)⟩] else [mkOp n]
theorem toList_app2 (a b : ByteArray) : (a ++ b).toList = a.toList ++ b.toList := by
  rw [Go.ByteArray.toList_eq, Go.ByteArray.toList_eq, Go.ByteArray.toList_eq, ByteArray.toList_data_append]
theorem mkOp_key (n : Nat) : (mkOp n).f1 = (⟨#[107]⟩ : ByteArray) ++ dg (n % 7) := by unfold mkOp; split <;> rfl
theorem key_lt (a b : Nat) : Op.bytesLess ((⟨#[107]⟩ : ByteArray) ++ dg a).toList ((⟨#[108]⟩ : ByteArray) ++ dg b).toList = true := by
  have e1 : (⟨#[107]⟩ : ByteArray).toList = [107] := by rw [Go.ByteArray.toList_eq]
  have e2 : (⟨#[108]⟩ : ByteArray).toList = [108] := by rw [Go.ByteArray.toList_eq]
  rw [toList_app2, toList_app2, e1, e2]
  simp [Op.bytesLess]
def mk (ns : List Int) (s : Int) (i : Nat) : S70 := ⟨s + i, mkOps (rd ns (i : Int)).toNat⟩
theorem mk_j1 (ns : List Int) (s : Int) (acc : List S70) (i n : Nat) (hi : i < 300) (hal : acc.length ≤ 1000) (hs : 1 ≤ s ∧ s ≤ 1000000) (hn : n < 256) (r : List S70) (h : Ev (fun k => iceboxlaw9_Make.l0 k ns s (acc ++ [⟨s + i, mkOps n⟩]) ((i + 1 : Nat) : Int)) r) :
    Ev (fun k => iceboxlaw9_Make.j1 k ns s acc (i : Int) (n : Int) (mkOp n).f0 (mkOp n).f1 (mkOp n).f2) r := by
  have ew : wrap64 ((i : Int) + 1) = ((i + 1 : Nat) : Int) := by rw [w64 (by omega) (by omega)]; omega
  have es : wrap64 (s + (i : Int)) = s + i := w64 (by omega) (by omega)
  have e3 : Int.tmod (n : Int) 3 = ((n % 3 : Nat) : Int) := by rw [Int.tmod_eq_emod_of_nonneg (by omega)]; omega
  have e4 : Int.tmod (n : Int) 4 = ((n % 4 : Nat) : Int) := by rw [Int.tmod_eq_emod_of_nonneg (by omega)]; omega
  by_cases c : n % 3 = 0
  · have hd := dg_ev ((n % 4 : Nat) : Int) (by omega) (by omega)
    rw [Int.toNat_natCast] at hd
    have hds := dg_size (n % 4) (by omega)
    have hN := rnorm2 (mkOp n) ⟨1, (⟨#[108]⟩ : ByteArray) ++ dg (n % 4), (⟨#[120]⟩ : ByteArray)⟩ (by rw [mkOp_key]; exact key_lt _ _)
    have e : mkOps n = [mkOp n, ⟨1, (⟨#[108]⟩ : ByteArray) ++ dg (n % 4), (⟨#[120]⟩ : ByteArray)⟩] := by unfold mkOps; rw [if_pos c]
    rw [← e] at hN
    obtain ⟨K1, hK1⟩ := hd
    obtain ⟨K2, hK2⟩ := hN
    obtain ⟨K3, hK3⟩ := h
    refine ⟨max K1 (max K2 K3) + 1, fun k hk => ?_⟩
    obtain ⟨k', rfl⟩ : ∃ k', k = k' + 1 := ⟨k - 1, by omega⟩
    have q1 := hK1 k' (by omega)
    have q2 := hK2 k' (by omega)
    have q3 := hK3 k' (by omega)
    dsimp only at q1 q2 q3
    show iceboxlaw9_Make.j1 (k' + 1) ns s acc (i : Int) (n : Int) (mkOp n).f0 (mkOp n).f1 (mkOp n).f2 = _
    rw [iceboxlaw9_Make.j1, Option.bind_some, if_pos (by rw [e3, c]; rfl), e4, q1, Option.bind_some, if_pos (by omega), if_pos (by simp), S72_eta]
    have e5 : ([mkOp n] ++ [⟨1, (⟨#[108]⟩ : ByteArray) ++ dg (n % 4), (⟨#[120]⟩ : ByteArray)⟩] : List S72) = mkOps n := by rw [e]; rfl
    rw [e5]
    have q2' : iceboxref1_Norm.f k' (mkOps n) = some (mkOps n) := by rw [← q2, e]
    rw [q2', Option.bind_some, if_pos (by omega), es, ew]; exact q3
  · have hN := rnorm1 (mkOp n)
    have e : mkOps n = [mkOp n] := by unfold mkOps; rw [if_neg c]
    obtain ⟨K2, hK2⟩ := hN
    obtain ⟨K3, hK3⟩ := h
    refine ⟨max K2 K3 + 1, fun k hk => ?_⟩
    obtain ⟨k', rfl⟩ : ∃ k', k = k' + 1 := ⟨k - 1, by omega⟩
    have q2 := hK2 k' (by omega)
    have q3 := hK3 k' (by omega)
    dsimp only at q2 q3
    show iceboxlaw9_Make.j1 (k' + 1) ns s acc (i : Int) (n : Int) (mkOp n).f0 (mkOp n).f1 (mkOp n).f2 = _
    rw [iceboxlaw9_Make.j1, Option.bind_some, if_neg (by rw [e3]; omega), S72_eta, q2, Option.bind_some, if_pos (by omega), es, ew, ← e]; exact q3
theorem mk_l0 (ns : List Int) (hb : Bytes ns) (hl : ns.length ≤ 200) (s : Int) (hs : 1 ≤ s ∧ s ≤ 1000000) : ∀ (d i : Nat), i + d = ns.length → Ev (fun k => iceboxlaw9_Make.l0 k ns s ((List.range i).map (mk ns s)) (i : Int)) ((List.range ns.length).map (mk ns s))
  | 0, i, hd => by
    obtain rfl : i = ns.length := by omega
    refine Ev.step (f := fun _ => some _) (fun k => ?_) (Ev.now _)
    rw [iceboxlaw9_Make.l0, if_neg (by omega)]
  | d + 1, i, hd => by
    have hi : i < ns.length := by omega
    have ih := mk_l0 ns hb hl s hs d (i + 1) (by omega)
    have hr := hb (ns[i]) (List.getElem_mem hi)
    have er : rd ns (i : Int) = ((rd ns (i : Int)).toNat : Int) := by rw [rd_at hi]; omega
    obtain ⟨n, en⟩ : ∃ n, n = (rd ns (i : Int)).toNat := ⟨_, rfl⟩
    have hn : n < 256 := by rw [en, rd_at hi]; omega
    rw [List.range_succ, List.map_append, List.map_cons, List.map_nil] at ih
    have em : mk ns s i = ⟨s + i, mkOps n⟩ := by unfold mk; rw [← en]
    rw [em] at ih
    have hj := mk_j1 ns s ((List.range i).map (mk ns s)) i n (by omega) (by simp; omega) hs hn _ ih
    have hd7 := dg_ev ((n % 7 : Nat) : Int) (by omega) (by omega)
    have hdn := dg_ev (n : Int) (by omega) (by omega)
    rw [Int.toNat_natCast] at hd7 hdn
    have hds := dg_size (n % 7) (by omega)
    have e7 : Int.tmod (n : Int) 7 = ((n % 7 : Nat) : Int) := by rw [Int.tmod_eq_emod_of_nonneg (by omega)]; omega
    have e5 : Int.tmod (n : Int) 5 = ((n % 5 : Nat) : Int) := by rw [Int.tmod_eq_emod_of_nonneg (by omega)]; omega
    have ewn : wrap64 (rd ns (i : Int)) = (n : Int) := by rw [er, ← en, w64 (by omega) (by omega)]
    obtain ⟨K1, hK1⟩ := hd7
    obtain ⟨K2, hK2⟩ := hdn
    obtain ⟨K3, hK3⟩ := hj
    refine ⟨max K1 (max K2 K3) + 1, fun k hk => ?_⟩
    obtain ⟨k', rfl⟩ : ∃ k', k = k' + 1 := ⟨k - 1, by omega⟩
    have q1 := hK1 k' (by omega)
    have q2 := hK2 k' (by omega)
    have q3 := hK3 k' (by omega)
    dsimp only at q1 q2 q3
    show iceboxlaw9_Make.l0 (k' + 1) ns s ((List.range i).map (mk ns s)) (i : Int) = _
    rw [iceboxlaw9_Make.l0, if_pos (by omega), if_pos (by omega), ewn, e7, q1, Option.bind_some, if_pos (by omega), q2, Option.bind_some, e5]
    by_cases c : n % 5 = 0
    · have em2 : mkOp n = ⟨2, (⟨#[107]⟩ : ByteArray) ++ dg (n % 7), (⟨#[]⟩ : ByteArray)⟩ := by unfold mkOp; rw [if_pos c]
      rw [em2] at q3
      rw [if_pos (by omega)]; exact q3
    · have em2 : mkOp n = ⟨1, (⟨#[107]⟩ : ByteArray) ++ dg (n % 7), dg n⟩ := by unfold mkOp; rw [if_neg c]
      rw [em2] at q3
      rw [if_neg (by omega)]; exact q3
def made (ns : List Int) (s : Int) : List S70 := (List.range ns.length).map (mk ns s)
theorem made_ev (ns : List Int) (hb : Bytes ns) (hl : ns.length ≤ 200) (s : Int) (hs : 1 ≤ s ∧ s ≤ 1000000) : Ev (fun k => iceboxlaw9_Make.f k ns s) (made ns s) := mk_l0 ns hb hl s hs ns.length 0 (by omega)
theorem made_len (ns : List Int) (s : Int) : (made ns s).length = ns.length := by unfold made; simp
theorem made_get (ns : List Int) (s : Int) (i : Nat) (h : i < (made ns s).length) : (made ns s)[i] = mk ns s i := by simp [made]
theorem rd37_get (l : List S70) (i : Nat) (h : i < l.length) : rd_T70 l (i : Int) = l[i] := by
  unfold rd_T70
  rw [Int.toNat_natCast, List.getD_eq_getElem?_getD, List.getElem?_eq_getElem h]; rfl

/-! ### fold: what the readers of a fold come to -/
theorem rd66_get (l : List S66) (i : Nat) (h : i < l.length) : rd_T66 l (i : Int) = l[i] := by
  unfold rd_T66
  rw [Int.toNat_natCast, List.getD_eq_getElem?_getD, List.getElem?_eq_getElem h]; rfl
theorem rd70_get (l : List S70) (i : Nat) (h : i < l.length) : rd_T70 l (i : Int) = l[i] := by
  unfold rd_T70
  rw [Int.toNat_natCast, List.getD_eq_getElem?_getD, List.getElem?_eq_getElem h]; rfl
theorem rd72_get (l : List S72) (i : Nat) (h : i < l.length) : rd_T72 l (i : Int) = l[i] := by
  unfold rd_T72
  rw [Int.toNat_natCast, List.getD_eq_getElem?_getD, List.getElem?_eq_getElem h]; rfl
theorem wsucc {i : Nat} (h : i < 4398046511104) : wrap64 ((i : Int) + 1) = ((i + 1 : Nat) : Int) := by rw [w64 (by omega) (by omega)]; omega
theorem fold_ev (h : List S70) (n : Int) (hk : Fold_ok h = true) : Ev (fun k => fold_Fold.f k h n) (Fold_all h n) :=
  Ev.congr (f := fun _ => some (Fold_all h n)) (fun k => by unfold fold_Fold.f; rw [if_pos hk]) (Ev.now _)
theorem ab_ev : (⟨#[98]⟩ : ByteArray).toList = [98] := by rw [Go.ByteArray.toList_eq]
theorem awake24_ev : Ev iceboxlaw24_awake.f true := by
  refine Ev.congr (f := fun _ => some true) (fun k => ?_) (Ev.now _)
  unfold iceboxlaw24_awake.f fold_Fold.f
  rw [if_pos (by decide), if_pos (by decide), Option.bind_some, Option.bind_some]
  have e0 : Fold_all [] 3 = [] := rfl
  have e : Fold_all [⟨1, [⟨1, ⟨#[97]⟩, ⟨#[98]⟩⟩]⟩] 1 = [⟨⟨#[97]⟩, ⟨#[98]⟩⟩] := rfl
  rw [e0, e, if_pos (by decide), if_pos (by decide), if_pos (by decide)]
  show some ((⟨#[98]⟩ : ByteArray).toList == [98]) = some true
  rw [ab_ev]; rfl
theorem pairs_l0 (L : List S66) (hl : L.length ≤ 4000000) : ∀ (d i : Nat), i + d = L.length → Ev (fun k => iceboxref1_Pairs.l0 k L L (i : Int)) true
  | 0, i, hd => by
    refine Ev.step (f := fun _ => some true) (fun k => ?_) (Ev.now _)
    rw [iceboxref1_Pairs.l0, if_neg (by omega)]
  | d + 1, i, hd => by
    have ih := pairs_l0 L hl d (i + 1) (by omega)
    refine Ev.step (fun k => ?_) ih
    rw [iceboxref1_Pairs.l0, if_pos (by omega), if_pos (by omega), if_pos (by omega), wsucc (by omega)]
    simp only [beq_self_eq_true, Bool.not_true, Bool.or_self]
    rw [if_neg Bool.false_ne_true]
theorem pairs_ev (L : List S66) (hl : L.length ≤ 4000000) : Ev (fun k => iceboxref1_Pairs.f k L L) true := by
  unfold iceboxref1_Pairs.f
  exact Ev.congr (fun k => by rw [if_pos rfl]; rfl) (pairs_l0 L hl L.length 0 (by omega))
theorem put_len (k v : ByteArray) : ∀ M : List S66, (Fold_put k v M).length ≤ M.length + 1
  | [] => Nat.le_refl _
  | y :: t => by
    rw [Fold_put]
    have := put_len k v t
    split
    · simp
    · split
      · simp only [List.length_cons]; omega
      · simp
theorem step_len (M : List S66) (o : S72) : (Fold_step M o).length ≤ M.length + 1 := by
  unfold Fold_step
  split
  · exact put_len _ _ _
  · split
    · unfold Fold_del; have := List.length_filter_le (fun y : S66 => y.f0.toList != o.f1.toList) M; omega
    · omega
theorem ops_len : ∀ (l : List S72) (M : List S66), (Fold_ops M l).length ≤ M.length + l.length
  | [], M => Nat.le_refl _
  | o :: l, M => by
    have h1 := ops_len l (Fold_step M o)
    have h2 := step_len M o
    show (Fold_ops (Fold_step M o) l).length ≤ _
    rw [List.length_cons]; omega
theorem all_len' : ∀ (h : List S70) (M : List S66), (∀ b ∈ h, b.f1.length ≤ 1000) → (h.foldl (fun M b => Fold_ops M b.f1) M).length ≤ M.length + h.length * 1000
  | [], M, _ => by simp
  | b :: h, M, hb => by
    have h1 := all_len' h (Fold_ops M b.f1) (fun x hx => hb x (List.mem_cons_of_mem _ hx))
    have h2 := ops_len b.f1 M
    have h3 := hb b (List.mem_cons_self ..)
    rw [List.foldl_cons, List.length_cons]; omega
theorem ok_parts {h : List S70} (hk : Fold_ok h = true) : h.length ≤ 1000 ∧ ∀ b ∈ h, b.f1.length ≤ 1000 := by
  unfold Fold_ok at hk
  simp only [Bool.and_eq_true, List.all_eq_true, decide_eq_true_eq] at hk
  exact ⟨hk.1, fun b hb => (hk.2 b hb).1⟩
theorem all_len (h : List S70) (n : Int) (hk : Fold_ok h = true) : (Fold_all h n).length ≤ 1000000 := by
  obtain ⟨h1, h2⟩ := ok_parts hk
  have := all_len' (h.take n.toNat) [] (fun b hb => h2 b (List.mem_of_mem_take hb))
  unfold Fold_all
  have e := List.length_take_le' n.toNat h
  simp only [List.length_nil] at this
  omega
theorem ops_sp : ∀ (l : List S72) (M : List S66), SP M → SP (Fold_ops M l)
  | [], _, h => h
  | o :: l, M, h => ops_sp l (Fold_step M o) (step_sp M o h)
theorem all_sp' : ∀ (h : List S70) (M : List S66), SP M → SP (h.foldl (fun M b => Fold_ops M b.f1) M)
  | [], _, h => h
  | b :: h, M, hM => all_sp' h (Fold_ops M b.f1) (ops_sp _ _ hM)
theorem all_sp (h : List S70) (n : Int) : SP (Fold_all h n) := all_sp' _ _ List.Pairwise.nil

/-! ### Scan -/
def inScan (lo hi : ByteArray) (p : S66) : Bool := !(Op.bytesLess p.f0.toList lo.toList) && (decide (hi.toList = []) || Op.bytesLess p.f0.toList hi.toList)
def someP (back : Bool) (most : Int) (l : List S66) : List S66 := (if back = true then l.reverse else l).take (max 0 (min most (l.length : Int))).toNat
def scanP (L : List S66) (lo hi : ByteArray) (back : Bool) (most : Int) : List S66 := someP back most (L.filter (inScan lo hi))
theorem mx_is (a b : Int) : mx a b = max a b := by unfold mx; omega
theorem mn_is (a b : Int) : mn a b = min a b := by unfold mn; omega
theorem S66_eta (x : S66) : (⟨x.f0, x.f1⟩ : S66) = x := rfl
theorem rev_l0 (L : List S66) (hl : L.length ≤ 4000000) : ∀ (d i : Nat) (x : List S66), L.length = 2 * i + d → x.length = L.length → (∀ j, (hj : j < L.length) → x[j]? = if j < i ∨ L.length - 1 - j < i then L[L.length - 1 - j]? else L[j]?) →
    Ev (fun k => api_Pair_85.l0 k x (i : Int) ((L.length : Int) - 1 - i)) L.reverse := by
  intro d
  induction d using Nat.strongRecOn with
  | _ d ih =>
    intro i x hd hx he
    by_cases c : 2 ≤ d
    · have ew : wrap64 ((i : Int) + 1) = ((i + 1 : Nat) : Int) := wsucc (by omega)
      have ew2 : wrap64 ((L.length : Int) - 1 - i - 1) = (L.length : Int) - 1 - ((i + 1 : Nat) : Int) := by rw [w64 (by omega) (by omega)]; omega
      obtain ⟨j, ej⟩ : ∃ j : Nat, (L.length : Int) - 1 - i = (j : Int) := ⟨L.length - 1 - i, by omega⟩
      have hj : j < L.length := by omega
      have hi : i < L.length := by omega
      have hij : i < j := by omega
      have h2 := ih (d - 2) (by omega) (i + 1) ((x.set i (rd_T66 x (j : Int))).set j (rd_T66 x (i : Int))) (by omega) (by simp [hx]) (fun m hm => by
        have gj := rd66_get x j (by omega)
        have gi := rd66_get x i (by omega)
        have qj := he j hj
        have qi := he i hi
        rw [if_neg (by omega), List.getElem?_eq_getElem (by omega), List.getElem?_eq_getElem hj] at qj
        rw [if_neg (by omega), List.getElem?_eq_getElem (by omega), List.getElem?_eq_getElem hi] at qi
        rw [gj, gi, List.getElem?_set, List.getElem?_set]
        by_cases m1 : j = m
        · subst m1
          rw [if_pos rfl, if_pos (by simp [hx]; omega), if_pos (by omega), qi, show L.length - 1 - j = i by omega, List.getElem?_eq_getElem hi]
        · rw [if_neg m1]
          by_cases m2 : i = m
          · subst m2
            rw [if_pos rfl, if_pos (by omega), if_pos (by omega), qj, show L.length - 1 - i = j by omega, List.getElem?_eq_getElem hj]
          · rw [if_neg m2, he m hm]
            by_cases m3 : m < i ∨ L.length - 1 - m < i
            · rw [if_pos m3, if_pos (by omega)]
            · rw [if_neg m3, if_neg (by omega)])
      rw [← ew2, ej] at h2
      rw [ej]
      refine Ev.step (fun k => ?_) h2
      rw [api_Pair_85.l0, if_pos (by omega), if_pos (by omega), if_pos (by omega), if_pos (by omega), if_pos (by omega), ew, Int.toNat_natCast, Int.toNat_natCast]
    · refine Ev.step (f := fun _ => some _) (fun k => ?_) (Ev.now _)
      rw [api_Pair_85.l0, if_neg (by omega)]
      congr 1
      refine List.ext_getElem? fun m => ?_
      rcases Nat.lt_or_ge m L.length with hm | hm
      · rw [he m hm, List.getElem?_reverse hm]
        by_cases m3 : m < i ∨ L.length - 1 - m < i
        · rw [if_pos m3]
        · rw [if_neg m3, show L.length - 1 - m = m by omega]
      · rw [List.getElem?_eq_none (by omega), List.getElem?_eq_none (by simp; omega)]
theorem rev_ev (L : List S66) (hl : L.length ≤ 4000000) : Ev (fun k => api_Pair_85.f k L) L.reverse := by
  have h := rev_l0 L hl L.length 0 L (by omega) rfl (fun j hj => by rw [if_neg (by omega)])
  unfold api_Pair_85.f
  have e : wrap64 ((L.length : Int) - 1) = (L.length : Int) - 1 - ((0 : Nat) : Int) := by rw [w64 (by omega) (by omega)]; omega
  rw [e]; exact h
theorem clone_is (l : List S66) (hl : l.length ≤ 4000000) : api_Pair_86.f l = some l := by
  unfold api_Pair_86.f
  rw [Option.bind_some, if_pos (by simp; omega), List.nil_append]
theorem scan_end (L acc : List S66) (lo hi : ByteArray) (back : Bool) (most : Int) (hl : acc.length ≤ 4000000) (n : Nat) (hn : L.length ≤ n) : Ev (fun k => fold_Scan.l0 k lo hi back most acc L (L.length : Int) (n : Int)) (someP back most acc) := by
  have h0 : 0 ≤ mx 0 (mn most (acc.length : Int)) := by rw [mx_is]; omega
  have h1 : mx 0 (mn most (acc.length : Int)) ≤ (acc.length : Int) := by rw [mx_is, mn_is]; omega
  unfold someP
  rw [← mx_is, ← mn_is] at *
  cases back with
  | true =>
    rw [if_pos rfl]
    refine Ev.step (fun k => by rw [fold_Scan.l0, if_neg (by omega), if_pos rfl]) (Ev.bind (rev_ev acc hl) (f := fun k t259 => _) ?_)
    refine Ev.congr (f := fun _ => some _) (fun k => ?_) (Ev.now _)
    rw [if_pos h0, if_pos h1, clone_is _ (by rw [List.length_take]; simp; omega)]
    rfl
  | false =>
    rw [if_neg Bool.false_ne_true]
    refine Ev.step (f := fun _ => some _) (fun k => ?_) (Ev.now _)
    rw [fold_Scan.l0, if_neg (by omega), if_neg Bool.false_ne_true, if_pos h0, if_pos h1, clone_is _ (by rw [List.length_take]; omega)]
    rfl
theorem scan_l0 (L : List S66) (lo hi : ByteArray) (back : Bool) (most : Int) (hl : L.length ≤ 1000000) : ∀ (d i : Nat) (acc : List S66), i + d = L.length → acc.length ≤ i → Ev (fun k => fold_Scan.l0 k lo hi back most acc L (L.length : Int) (i : Int)) (someP back most (acc ++ (L.drop i).filter (inScan lo hi)))
  | 0, i, acc, hd, ha => by
    rw [List.drop_of_length_le (by omega), List.filter_nil, List.append_nil]
    exact scan_end L acc lo hi back most (by omega) i (by omega)
  | d + 1, i, acc, hd, ha => by
    have hi' : i < L.length := by omega
    rw [List.drop_eq_getElem_cons hi', List.filter_cons]
    by_cases c : inScan lo hi L[i] = true
    · rw [if_pos c]
      have ih := scan_l0 L lo hi back most hl d (i + 1) (acc ++ [L[i]]) (by omega) (by rw [List.length_append, List.length_singleton]; omega)
      rw [List.append_assoc, List.singleton_append] at ih
      unfold inScan at c
      simp only [Bool.and_eq_true, Bool.not_eq_true', Bool.or_eq_true, decide_eq_true_eq] at c
      obtain ⟨c1, c2⟩ := c
      refine Ev.step (fun k => ?_) ih
      rw [fold_Scan.l0, if_pos (by omega), if_pos (by omega), if_pos (by omega), rd66_get L i hi', if_neg (by rw [c1]; exact Bool.false_ne_true), S66_eta, wsucc (by omega)]
      by_cases c3 : hi.toList = []
      · rw [if_pos c3, if_pos (by omega)]
      · rw [if_neg c3, if_pos (c2.resolve_left c3), if_pos (by omega)]
    · rw [if_neg c]
      have ih := scan_l0 L lo hi back most hl d (i + 1) acc (by omega) (by omega)
      refine Ev.step (fun k => ?_) ih
      rw [fold_Scan.l0, if_pos (by omega), if_pos (by omega), if_pos (by omega), rd66_get L i hi', wsucc (by omega)]
      by_cases c1 : Op.bytesLess L[i].f0.toList lo.toList = true
      · rw [if_pos c1]
      · rw [if_neg c1]
        have c2 : ¬ (hi.toList = [] ∨ Op.bytesLess L[i].f0.toList hi.toList = true) := by
          intro h
          refine c ?_
          unfold inScan
          simp only [Bool.and_eq_true, Bool.not_eq_true', Bool.or_eq_true, decide_eq_true_eq]
          exact ⟨Bool.eq_false_iff.2 c1, h⟩
        rw [if_neg (fun h => c2 (Or.inl h)), if_neg (fun h => c2 (Or.inr h))]
theorem scan_ev (L : List S66) (lo hi : ByteArray) (back : Bool) (most : Int) (hl : L.length ≤ 1000000) : Ev (fun k => fold_Scan.f k L lo hi back most) (scanP L lo hi back most) :=
  scan_l0 L lo hi back most hl L.length 0 [] (by omega) (Nat.le_refl _)

/-! ### what Make's batches are to a fold -/
def OneOp (o : S72) : Prop := (o.f0 = 1 ∨ o.f0 = 2) ∧ o.f1.size ≤ 4 ∧ o.f2.size ≤ 3
theorem one_op (a : Int) (p : ByteArray) (m : Nat) (v : ByteArray) (ha : a = 1 ∨ a = 2) (hp : p.size = 1) (hm : m < 256) (hv : v.size ≤ 3) : OneOp ⟨a, p ++ dg m, v⟩ := by
  refine ⟨ha, ?_, hv⟩
  show (p ++ dg m).size ≤ 4
  have := dg_size m hm
  rw [ByteArray.size_append]; omega
theorem mkOp_one (n : Nat) (h : n < 256) : OneOp (mkOp n) := by
  unfold mkOp
  by_cases c : n % 5 = 0
  · rw [if_pos c]; exact one_op 2 _ (n % 7) _ (Or.inr rfl) rfl (by omega) (Nat.zero_le _)
  · rw [if_neg c]; exact one_op 1 _ (n % 7) _ (Or.inl rfl) rfl (by omega) (dg_size n h)
theorem mkOps_one (n : Nat) (h : n < 256) : (mkOps n).length ≤ 2 ∧ ∀ o ∈ mkOps n, OneOp o := by
  unfold mkOps
  by_cases c : n % 3 = 0
  · rw [if_pos c]
    refine ⟨by simp, fun x hx => ?_⟩
    rcases List.mem_cons.1 hx with rfl | hx
    · exact mkOp_one n h
    · rw [List.mem_singleton.1 hx]
      exact one_op 1 _ (n % 4) _ (Or.inl rfl) rfl (by omega) (by show 1 ≤ 3; omega)
  · rw [if_neg c]
    refine ⟨by simp, fun x hx => ?_⟩
    rw [List.mem_singleton.1 hx]; exact mkOp_one n h
theorem made_one (ns : List Int) (hb : Bytes ns) (s : Int) : ∀ b ∈ made ns s, b.f1.length ≤ 2 ∧ ∀ o ∈ b.f1, OneOp o := by
  intro x hx
  obtain ⟨i, hi, rfl⟩ := List.getElem_of_mem hx
  rw [made_get ns s i hi]
  have hi2 : i < ns.length := by rw [made_len] at hi; exact hi
  have hr := hb (ns[i]) (List.getElem_mem hi2)
  exact mkOps_one _ (by rw [rd_at hi2]; omega)
theorem made_ok (ns : List Int) (hb : Bytes ns) (hl : ns.length ≤ 200) (s : Int) : Fold_ok (made ns s) = true := by
  unfold Fold_ok
  simp only [Bool.and_eq_true, List.all_eq_true, decide_eq_true_eq]
  refine ⟨by rw [made_len]; omega, fun b hb2 => ?_⟩
  obtain ⟨h1, h2⟩ := made_one ns hb s b hb2
  exact ⟨by omega, fun o ho => ⟨by have := (h2 o ho).2.1; omega, by have := (h2 o ho).2.2; omega⟩⟩

/-! ### FoldScans -/
theorem some_all (back : Bool) (l : List S66) (most : Int) (h : (l.length : Int) ≤ most) : someP back most l = if back = true then l.reverse else l := by
  unfold someP
  rw [show (max 0 (min most (l.length : Int))).toNat = l.length by omega]
  cases back
  · exact List.take_length
  · exact List.take_of_length_le (by simp)
/-- Below a key, and from it on: the whole, in order. -/
theorem split_at (key : ByteArray) (hk : key.toList ≠ []) : ∀ (L : List S66), SP L → L.filter (inScan ⟨#[]⟩ key) ++ L.filter (inScan key ⟨#[]⟩) = L
  | [], _ => rfl
  | y :: t, h => by
    have a := List.pairwise_cons.1 h
    have ih := split_at key hk t a.2
    have e0 : (⟨#[]⟩ : ByteArray).toList = [] := empty_tl
    have l0 : ∀ p : S66, inScan ⟨#[]⟩ key p = Op.bytesLess p.f0.toList key.toList := fun p => by
      unfold inScan
      rw [e0, decide_eq_false hk, Bool.false_or]
      cases p.f0.toList <;> simp [Op.bytesLess]
    have l1 : ∀ p : S66, inScan key ⟨#[]⟩ p = !Op.bytesLess p.f0.toList key.toList := fun p => by
      unfold inScan
      rw [e0]; simp
    by_cases c : Op.bytesLess y.f0.toList key.toList = true
    · rw [List.filter_cons, List.filter_cons, l0, if_pos c, l1, if_neg (by rw [c]; exact Bool.false_ne_true), List.cons_append, ih]
    · rw [List.filter_cons, List.filter_cons, l0, if_neg c, l1, if_pos (by rw [Bool.eq_false_iff.2 c]; rfl)]
      have e1 : t.filter (inScan ⟨#[]⟩ key) = [] := by
        rw [List.filter_eq_nil_iff]
        intro z hz hc
        rw [l0] at hc
        exact c (fl_trans _ _ _ (a.1 z hz) hc)
      rw [e1, List.nil_append] at ih ⊢
      rw [ih]
theorem scan_none (L : List S66) : L.filter (inScan ⟨#[]⟩ ⟨#[]⟩) = L := by
  rw [List.filter_eq_self]
  intro p _
  unfold inScan
  rw [empty_tl]
  cases p.f0.toList <;> simp [Op.bytesLess]
theorem scans_l0 (L : List S66) (hl : L.length ≤ 1000000) : ∀ (d i : Nat), i + d = L.length → Ev (fun k => iceboxlaw24_FoldScans.l0 k L L L.reverse (i : Int)) true
  | 0, i, hd => by
    refine Ev.step (fun k => by rw [iceboxlaw24_FoldScans.l0, if_neg (by simp; omega)]) (Ev.bind (pairs_ev L (by omega)) (f := fun k t374 => _) ?_)
    exact Ev.congr (fun k => by rw [if_pos rfl]) (Ev.bind awake24_ev (f := fun k t => some t) (Ev.now _))
  | d + 1, i, hd => by
    have ih := scans_l0 L hl d (i + 1) (by omega)
    have hi : i < L.length := by omega
    have hi2 : i < L.reverse.length := by simpa using hi
    have e1 : wrap64 (wrap64 ((L.length : Int) - 1) - i) = ((L.length - 1 - i : Nat) : Int) := by rw [w64 (x := (L.length : Int) - 1) (by omega) (by omega), w64 (by omega) (by omega)]; omega
    have e2 : L.reverse[i] = L[L.length - 1 - i] := List.getElem_reverse hi2
    refine Ev.step (fun k => ?_) ih
    rw [iceboxlaw24_FoldScans.l0, if_pos (by simp; omega), if_pos (by omega), e1, if_pos (by omega), if_pos (by omega), rd66_get _ i hi2, rd66_get L _ (by omega), e2, wsucc (by omega)]
    simp only [beq_self_eq_true, Bool.not_true, Bool.or_self]
    rw [if_neg Bool.false_ne_true]
theorem one_out (k : List UInt8) : ∀ L : List S66, SP L → L.length ≤ (L.filter fun x => x.f0.toList != k).length + 1
  | [], _ => Nat.zero_le _
  | y :: t, h => by
    have a := List.pairwise_cons.1 h
    rw [List.filter_cons]
    by_cases c : (y.f0.toList != k) = true
    · rw [if_pos c]
      have := one_out k t a.2
      simp only [List.length_cons]; omega
    · rw [if_neg c]
      have c2 : y.f0.toList = k := by simpa using c
      have e : t.filter (fun x => x.f0.toList != k) = t := by
        rw [List.filter_eq_self]
        intro z hz
        rw [bne_iff_ne]
        intro e
        have := a.1 z hz
        unfold plt at this
        rw [c2, e, bl_irrefl] at this; cases this
      rw [e]; simp
theorem few : ∀ (K : List (List UInt8)) (L : List S66), SP L → (∀ x ∈ L, x.f0.toList ∈ K) → L.length ≤ K.length
  | [], L, _, h => by
    cases L with
    | nil => exact Nat.le_refl _
    | cons y t => exact absurd (h y (List.mem_cons_self ..)) (by simp)
  | k :: K, L, hL, h => by
    have h1 := one_out k L hL
    have h2 := few K (L.filter fun x => x.f0.toList != k) (hL.filter _) (fun x hx => by
      obtain ⟨h3, h4⟩ := List.mem_filter.1 hx
      rcases List.mem_cons.1 (h x h3) with e | e
      · rw [bne_iff_ne] at h4; exact absurd e h4
      · exact e)
    rw [List.length_cons]; omega
theorem mem_ops (P : ByteArray → Prop) : ∀ (l : List S72) (M : List S66), (∀ o ∈ l, P o.f1) → (∀ z ∈ M, P z.f0) → ∀ z ∈ Fold_ops M l, P z.f0
  | [], M, _, h2, z, hz => h2 z hz
  | o :: l, M, h1, h2, z, hz => mem_ops P l (Fold_step M o) (fun x hx => h1 x (List.mem_cons_of_mem _ hx)) (fun y hy => by
      unfold Fold_step at hy
      by_cases c : o.f0 = 1
      · rw [if_pos c] at hy
        rcases put_mem _ _ _ _ hy with e | e
        · rw [e]; exact h1 o (List.mem_cons_self ..)
        · exact h2 y e
      · rw [if_neg c] at hy
        by_cases d : o.f0 = 2
        · rw [if_pos d] at hy
          exact h2 y (List.mem_filter.1 hy).1
        · rw [if_neg d] at hy
          exact h2 y hy) z hz
theorem mem_all (P : ByteArray → Prop) : ∀ (h : List S70) (M : List S66), (∀ b ∈ h, ∀ o ∈ b.f1, P o.f1) → (∀ z ∈ M, P z.f0) → ∀ z ∈ h.foldl (fun M b => Fold_ops M b.f1) M, P z.f0
  | [], M, _, h2, z, hz => h2 z hz
  | b :: h, M, h1, h2, z, hz => mem_all P h (Fold_ops M b.f1) (fun x hx => h1 x (List.mem_cons_of_mem _ hx)) (mem_ops P b.f1 M (h1 b (List.mem_cons_self ..)) h2) z hz
def keys11 : List ByteArray := (List.range 7).map (fun u => (⟨#[107]⟩ : ByteArray) ++ dg u) ++ (List.range 4).map (fun u => (⟨#[108]⟩ : ByteArray) ++ dg u)
theorem made_keys (ns : List Int) (hb : Bytes ns) (s : Int) : ∀ b ∈ made ns s, ∀ o ∈ b.f1, o.f1 ∈ keys11 := by
  intro x hx o ho
  obtain ⟨i, hi, rfl⟩ := List.getElem_of_mem hx
  rw [made_get ns s i hi] at ho
  unfold mk mkOps at ho
  generalize (rd ns (i : Int)).toNat = n at ho
  have hk7 : ∀ n : Nat, (⟨#[107]⟩ : ByteArray) ++ dg (n % 7) ∈ keys11 := fun n => List.mem_append_left _ (List.mem_map.2 ⟨n % 7, List.mem_range.2 (by omega), rfl⟩)
  have ho : o ∈ (if n % 3 = 0 then [mkOp n, ⟨1, (⟨#[108]⟩ : ByteArray) ++ dg (n % 4), (⟨#[120]⟩ : ByteArray)⟩] else [mkOp n]) := ho
  by_cases c : n % 3 = 0
  · rw [if_pos c] at ho
    rcases List.mem_cons.1 ho with e | e
    · rw [e, mkOp_key]; exact hk7 n
    · rw [List.mem_singleton.1 e]
      exact List.mem_append_right _ (List.mem_map.2 ⟨n % 4, List.mem_range.2 (by omega), rfl⟩)
  · rw [if_neg c] at ho
    rw [List.mem_singleton.1 ho, mkOp_key]; exact hk7 n
theorem made_few (ns : List Int) (hb : Bytes ns) (s n : Int) : (Fold_all (made ns s) n).length ≤ 11 := by
  have h := few (keys11.map fun k => k.toList) (Fold_all (made ns s) n) (all_sp _ _) (fun x hx => List.mem_map.2 ⟨x.f0, mem_all (· ∈ keys11) _ [] (fun b hb2 o ho => made_keys ns hb s b (List.mem_of_mem_take hb2) o ho) (fun z hz => by cases hz) x hx, rfl⟩)
  exact h
theorem FoldScans : iceboxlaw24_FoldScans.Pure := by
  intro ns n h1 h2 h3 h4
  have hb := bytes_wf h3
  have hn := wf_u8 h4
  by_cases c : (ns.length : Int) > 60
  · obtain ⟨K, hK⟩ := awake24_ev
    refine ⟨K, ?_⟩
    rw [iceboxlaw24_FoldScans.f, if_pos c, hK K (Nat.le_refl _)]; rfl
  · have hm := made_ev ns hb (by omega) 1 ⟨by omega, by omega⟩
    have hok := made_ok ns hb (by omega) 1
    have hf := fold_ev (made ns 1) (ns.length : Int) hok
    have hl := made_few ns hb 1 (ns.length : Int)
    have hs := all_sp (made ns 1) (ns.length : Int)
    generalize made ns 1 = H at *
    generalize Fold_all H (ns.length : Int) = L at *
    have ew : wrap64 n = n := w64 (by omega) (by omega)
    obtain ⟨u, ek⟩ : ∃ u : Nat, Int.tmod n 9 = (u : Int) := ⟨(Int.tmod n 9).toNat, by rw [Int.tmod_eq_emod_of_nonneg (by omega)]; omega⟩
    have hu : u < 9 := by
      rw [Int.tmod_eq_emod_of_nonneg (by omega)] at ek
      omega
    have d1 := dg_ev (u : Int) (by omega) (by omega)
    rw [Int.toNat_natCast] at d1
    have s1 := dg_size u (by omega)
    obtain ⟨key, ekey⟩ : ∃ key : ByteArray, key = (⟨#[107]⟩ : ByteArray) ++ dg u := ⟨_, rfl⟩
    have hkey : key.toList ≠ [] := by
      rw [ekey, toList_app2, show (⟨#[107]⟩ : ByteArray).toList = [107] by rw [Go.ByteArray.toList_eq]]
      simp
    have a1 := scan_ev L ⟨#[]⟩ key false 100 (by omega)
    have a2 := scan_ev L key ⟨#[]⟩ false 100 (by omega)
    have a3 := scan_ev L ⟨#[]⟩ ⟨#[]⟩ true 100 (by omega)
    have f1 := List.length_filter_le (inScan ⟨#[]⟩ key) L
    have f2 := List.length_filter_le (inScan key ⟨#[]⟩) L
    unfold scanP at a1 a2 a3
    rw [some_all _ _ _ (by omega), if_neg Bool.false_ne_true] at a1 a2
    rw [some_all _ _ _ (by rw [scan_none]; omega), if_pos rfl, scan_none] at a3
    have esp := split_at key hkey L hs
    have hfin := scans_l0 L (by omega) L.length 0 (by omega)
    have hE2 : Ev (fun k => iceboxlaw24_FoldScans.f k ns n) true := by
      refine Ev.congr (fun k => by rw [iceboxlaw24_FoldScans.f, if_neg c]) (Ev.bind hm (f := fun k t350 => _) ?_)
      refine Ev.bind hf (f := fun k t353 => _) ?_
      refine Ev.congr (fun k => by rw [ew, ek]) (Ev.bind d1 (f := fun k t356 => _) ?_)
      refine Ev.congr (fun k => by rw [if_pos (by omega), ← ekey]) (Ev.bind a1 (f := fun k t357 => _) ?_)
      refine Ev.bind a2 (f := fun k t360 => _) ?_
      refine Ev.congr (fun k => by rw [if_pos (by simp; omega), Option.bind_some, if_pos (by simp; omega)]) (Ev.bind a3 (f := fun k t369 => _) ?_)
      refine Ev.congr (fun k => ?_) hfin
      rw [if_pos (by simp), List.nil_append, esp]; rfl
    obtain ⟨K, hK⟩ := hE2
    exact ⟨K, hK K (Nat.le_refl _)⟩

end Go.Proofs.Ytffnimaaolmbdaa.Pure
