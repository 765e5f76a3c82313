/- The pure statement of the law FoldOn: over the Lean functions that the Go code was shown to compute, the law answers true for every input within the statement's own bounds. No further conditions. -/
import Derived.Test.YtffnimaaolmbdaaPFoldOnx2
import Derived.Test.YtffnimaaolmbdaaPFoldOnx3
import Derived.Test.YtffnimaaolmbdaaPFoldOnx4
import Derived.Test.YtffnimaaolmbdaaPFoldOnx5
namespace Go.Proofs.Ytffnimaaolmbdaa.Pure
open Go.RowKit Go.Proofs.Ytffnimaaolmbdaa.PFoldOn Go.Proofs.YtffnimaaolmbdaaW.PrintWords Go.Proofs.YtffnimaaolmbdaaW.PrintLast Go.Proofs.YtffnimaaolmbdaaW.PrintMore
set_option linter.unusedVariables false
set_option linter.unusedSimpArgs false

theorem w64 {x : Int} (h0 : -9223372036854775808 ≤ x) (h1 : x < 9223372036854775808) : wrap64 x = x := by
  unfold wrap64; omega
theorem bits_xor_nat (k : IntKind) (j : Nat) (hj : j ≤ k.bits) (hk : ∀ n : Int, 0 ≤ n → n < 2 ^ j → k.wrap n = n) (a b : Nat) (ha : a < 2 ^ j) (hb : b < 2 ^ j) :
    Go.bits .xor k a b = ((a ^^^ b : Nat) : Int) := by
  have hp : 2 ^ j ≤ 2 ^ k.bits := Nat.pow_le_pow_right (by decide) hj
  have ha' : a % 2 ^ k.bits = a := Nat.mod_eq_of_lt (Nat.lt_of_lt_of_le ha hp)
  have hb' : b % 2 ^ k.bits = b := Nat.mod_eq_of_lt (Nat.lt_of_lt_of_le hb hp)
  simp only [Go.bits, BitVec.ofInt_natCast, BitVec.toNat_xor, BitVec.toNat_ofNat, ha', hb']
  exact hk _ (Int.natCast_nonneg _) (by exact_mod_cast Nat.xor_lt_two_pow ha hb)
theorem wr_u32 (n : Int) (h₀ : 0 ≤ n) (h₁ : n < 2 ^ 32) : IntKind.u32.wrap n = n := by rw [IntKind.wrap_u32]; omega
theorem wr_u8 (n : Int) (h₀ : 0 ≤ n) (h₁ : n < 2 ^ 8) : IntKind.u8.wrap n = n := by rw [IntKind.wrap_u8]; omega
theorem wr_i64 (n : Int) (h₀ : 0 ≤ n) (h₁ : n < 2 ^ 63) : IntKind.i64.wrap n = n := by rw [IntKind.wrap_i64]; omega
theorem wr_u64 (n : Int) : IntKind.u64.wrap n = n % 18446744073709551616 := by simp [IntKind.wrap, IntKind.bits, IntKind.signed]
theorem bx_u32 (a b : Nat) (ha : a < 2 ^ 32) (hb : b < 2 ^ 32) : Go.bits .xor .u32 a b = ((a ^^^ b : Nat) : Int) := bits_xor_nat .u32 32 (by decide) wr_u32 a b ha hb
theorem bx_u8 (a b : Nat) (ha : a < 2 ^ 8) (hb : b < 2 ^ 8) : Go.bits .xor .u8 a b = ((a ^^^ b : Nat) : Int) := bits_xor_nat .u8 8 (by decide) wr_u8 a b ha hb
theorem bx_i64 (a b : Nat) (ha : a < 2 ^ 63) (hb : b < 2 ^ 63) : Go.bits .xor .i64 a b = ((a ^^^ b : Nat) : Int) := bits_xor_nat .i64 63 (by decide) wr_i64 a b ha hb
theorem bo_i64 (a b : Nat) (ha : a < 2 ^ 63) (hb : b < 2 ^ 63) : Go.bits .or .i64 a b = ((a ||| b : Nat) : Int) := (bits_nat .i64 63 (by decide) wr_i64 a b ha hb).2
theorem bo_u8 (a b : Nat) (ha : a < 2 ^ 8) (hb : b < 2 ^ 8) : Go.bits .or .u8 a b = ((a ||| b : Nat) : Int) := (bits_nat .u8 8 (by decide) wr_u8 a b ha hb).2
theorem ba_u8 (a b : Nat) (ha : a < 2 ^ 8) (hb : b < 2 ^ 8) : Go.bits .and .u8 a b = ((a &&& b : Nat) : Int) := (bits_nat .u8 8 (by decide) wr_u8 a b ha hb).1
theorem ba_u32 (a b : Nat) (ha : a < 2 ^ 32) (hb : b < 2 ^ 32) : Go.bits .and .u32 a b = ((a &&& b : Nat) : Int) := (bits_nat .u32 32 (by decide) wr_u32 a b ha hb).1
theorem max_u32 : IntKind.u32.max = ((4294967295 : Nat) : Int) := by decide
theorem wf_u8 {x : Int} (h : (Lit.int .u8 x).wf = true) : 0 ≤ x ∧ x < 256 := by
  simp [Lit.wf, IntKind.min, IntKind.max, IntKind.signed, IntKind.bits] at h; omega
theorem wf_u16 {x : Int} (h : (Lit.int .u16 x).wf = true) : 0 ≤ x ∧ x < 65536 := by
  simp [Lit.wf, IntKind.min, IntKind.max, IntKind.signed, IntKind.bits] at h; omega
theorem wf_u32 {x : Int} (h : (Lit.int .u32 x).wf = true) : 0 ≤ x ∧ x < 4294967296 := by
  simp [Lit.wf, IntKind.min, IntKind.max, IntKind.signed, IntKind.bits] at h; omega
theorem wf_u64 {x : Int} (h : (Lit.int .u64 x).wf = true) : 0 ≤ x ∧ x < 18446744073709551616 := by
  simp [Lit.wf, IntKind.min, IntKind.max, IntKind.signed, IntKind.bits] at h; omega
theorem wf_i64 {x : Int} (h : (Lit.int .i64 x).wf = true) : -9223372036854775808 ≤ x ∧ x < 9223372036854775808 := by
  simp [Lit.wf, IntKind.min, IntKind.max, IntKind.signed, IntKind.bits] at h; omega

def ints (l : List Nat) : List Int := l.map fun n : Nat => (n : Int)
theorem ints_length (l : List Nat) : (ints l).length = l.length := by unfold ints; simp
theorem ints_append (a b : List Nat) : ints (a ++ b) = ints a ++ ints b := by unfold ints; simp
def nats (l : List Int) : List Nat := l.map Int.toNat
def Bytes (l : List Int) : Prop := ∀ x ∈ l, 0 ≤ x ∧ x < 256
theorem bytes_wf {l : List Int} (h : ∀ x ∈ l, (Lit.int .u8 x).wf = true) : Bytes l := fun x hx => wf_u8 (h x hx)
theorem nats_length (l : List Int) : (nats l).length = l.length := by unfold nats; simp
theorem nats_ints (l : List Nat) : nats (ints l) = l := by
  unfold nats ints; rw [List.map_map]
  conv => rhs; rw [← List.map_id l]
  apply List.map_congr_left; intro a _; simp
theorem ints_nats {l : List Int} (h : Bytes l) : ints (nats l) = l := by
  unfold nats ints; rw [List.map_map]
  conv => rhs; rw [← List.map_id l]
  apply List.map_congr_left; intro a ha
  have := h a ha
  simp; omega
theorem nats_lt {l : List Int} (h : Bytes l) : ∀ c ∈ nats l, c < 256 := by
  intro c hc
  obtain ⟨x, hx, rfl⟩ := List.mem_map.1 hc
  have := h x hx; omega
theorem ints_bytes {l : List Nat} (h : ∀ c ∈ l, c < 256) : Bytes (ints l) := by
  intro x hx
  obtain ⟨c, hc, rfl⟩ := List.mem_map.1 hx
  have := h c hc; omega
theorem nats_append (a b : List Int) : nats (a ++ b) = nats a ++ nats b := by unfold nats; simp
theorem nats_take (l : List Int) (n : Nat) : nats (l.take n) = (nats l).take n := by unfold nats; rw [List.map_take]
theorem nats_drop (l : List Int) (n : Nat) : nats (l.drop n) = (nats l).drop n := by unfold nats; rw [List.map_drop]
theorem rd_at {l : List Int} {i : Nat} (h : i < l.length) : rd l (i : Int) = l[i] := by
  unfold rd; simp [h]
theorem rd_byte {l : List Int} {i : Nat} (h : i < l.length) (hb : Bytes l) : ∃ c : Nat, rd l (i : Int) = c ∧ c < 256 ∧ (nats l).drop i = c :: (nats l).drop (i + 1) := by
  have := hb l[i] (List.getElem_mem h)
  have h2 : i < (nats l).length := by rw [nats_length]; exact h
  refine ⟨l[i].toNat, by rw [rd_at h]; omega, by omega, ?_⟩
  rw [List.drop_eq_getElem_cons h2]
  have h4 : i < (l.map Int.toNat).length := h2
  have h3 : (l.map Int.toNat)[i]'h4 = l[i].toNat := by rw [List.getElem_map]
  rw [← h3]; rfl

/-! ### Make: entries in order, by numbers -/
def dg (n : Nat) : ByteArray := if n < 10 then ⟨#[UInt8.ofNat (48 + n)]⟩ else if n < 100 then ⟨#[UInt8.ofNat (48 + n / 10), UInt8.ofNat (48 + n % 10)]⟩ else ⟨#[UInt8.ofNat (48 + n / 100), UInt8.ofNat (48 + n / 10 % 10), UInt8.ofNat (48 + n % 10)]⟩
theorem dg_all : ∀ n : Nat, n < 256 → iceboxref1_Digits.f 5 (n : Int) = some (dg n) := by decide +kernel
theorem dg_size : ∀ n : Nat, n < 256 → (dg n).size ≤ 3 := by decide +kernel
theorem dg_num : ∀ n : Nat, n < 256 → (dg n).data.toList.foldl (fun a (b : UInt8) => 10 * a + (b.toNat - 48)) 0 = n := by decide +kernel
theorem dg_inj {m n : Nat} (hm : m < 256) (hn : n < 256) (h : (dg m).toList = (dg n).toList) : m = n := by
  rw [Go.ByteArray.toList_eq, Go.ByteArray.toList_eq] at h
  rw [← dg_num m hm, ← dg_num n hn, h]
theorem dg_ev (x : Int) (h0 : 0 ≤ x) (h1 : x ≤ 255) : Ev (fun k => iceboxref1_Digits.f k x) (dg x.toNat) := by
  have h := dg_all x.toNat (by omega)
  rw [Int.toNat_of_nonneg h0] at h
  exact Ev.of (fun k => iceboxref1_Digits.mono x k) h
theorem empty_tl : (⟨#[]⟩ : ByteArray).toList = [] := by rw [Go.ByteArray.toList_eq]
theorem zero_tl : (⟨#[0]⟩ : ByteArray).toList = [0] := by rw [Go.ByteArray.toList_eq]

/-! ### batches by numbers -/
theorem S72_eta (x : S72) : (⟨x.f0, x.f1, x.f2⟩ : S72) = x := rfl
theorem rnorm1 (o : S72) : Ev (fun k => iceboxref1_Norm.f k [o]) [o] := by
  refine ⟨3, fun k hk => ?_⟩
  obtain ⟨k', rfl⟩ : ∃ k', k = k' + 3 := ⟨k - 3, by omega⟩
  show iceboxref1_Norm.l0 (k' + 2 + 1) [o] [] 0 = some [o]
  rw [iceboxref1_Norm.l0, if_pos (by first | decide | simp)]
  show iceboxref1_Norm.l1 (k' + 1 + 1) [o] [] 0 0 = some [o]
  rw [iceboxref1_Norm.l1, if_neg (by first | decide | simp), Option.bind_some, if_pos (by first | decide | simp), if_pos (by first | decide | simp), Option.bind_some, if_pos (by first | decide | simp), Option.bind_some, if_pos (by first | decide | simp), if_pos (by first | decide | simp), if_pos (by first | decide | simp), Option.bind_some, Option.bind_some, if_pos (by first | decide | simp), w64 (by decide) (by decide)]
  show iceboxref1_Norm.l0 (k' + 1) [o] [o] 1 = some [o]
  rw [iceboxref1_Norm.l0, if_neg (by first | decide | simp)]
theorem rnorm2 (o q : S72) (h : Op.bytesLess o.f1.toList q.f1.toList = true) : Ev (fun k => iceboxref1_Norm.f k [o, q]) [o, q] := by
  refine ⟨6, fun k hk => ?_⟩
  obtain ⟨k', rfl⟩ : ∃ k', k = k' + 6 := ⟨k - 6, by omega⟩
  show iceboxref1_Norm.l0 (k' + 5 + 1) [o, q] [] 0 = some [o, q]
  rw [iceboxref1_Norm.l0, if_pos (by first | decide | simp)]
  show iceboxref1_Norm.l1 (k' + 4 + 1) [o, q] [] 0 0 = some [o, q]
  rw [iceboxref1_Norm.l1, if_neg (by first | decide | simp), Option.bind_some, if_pos (by first | decide | simp), if_pos (by first | decide | simp), Option.bind_some, if_pos (by first | decide | simp), Option.bind_some, if_pos (by first | decide | simp), if_pos (by first | decide | simp), if_pos (by first | decide | simp), Option.bind_some, Option.bind_some, if_pos (by first | decide | simp), w64 (by decide) (by decide)]
  show iceboxref1_Norm.l0 (k' + 3 + 1) [o, q] [o] 1 = some [o, q]
  rw [iceboxref1_Norm.l0, if_pos (by first | decide | simp)]
  show iceboxref1_Norm.l1 (k' + 2 + 1) [o, q] [o] 1 0 = some [o, q]
  have h' : Op.bytesLess (rd_T72 [o] 0).f1.toList (rd_T72 [o, q] 1).f1.toList = true := h
  rw [iceboxref1_Norm.l1, if_pos (by simp), if_pos (by first | decide | simp), if_pos (by first | decide | simp), if_pos (by simp), if_pos h', w64 (by decide) (by decide)]
  show iceboxref1_Norm.l1 (k' + 1 + 1) [o, q] [o] 1 1 = some [o, q]
  rw [iceboxref1_Norm.l1, if_neg (by simp), Option.bind_some, if_pos (by first | decide | simp), if_pos (by simp), Option.bind_some, if_pos (by simp), Option.bind_some, if_pos (by first | decide | simp), if_pos (by simp), if_pos (by simp), Option.bind_some, Option.bind_some, if_pos (by simp), w64 (by decide) (by decide)]
  show iceboxref1_Norm.l0 (k' + 1) [o, q] [o, q] 2 = some [o, q]
  rw [iceboxref1_Norm.l0, if_neg (by simp)]
def mkOp (n : Nat) : S72 := if n % 5 = 0 then ⟨2, (⟨#[107]⟩ : ByteArray) ++ dg (n % 7), (⟨#[]⟩ : ByteArray)⟩ else ⟨1, (⟨#[107]⟩ : ByteArray) ++ dg (n % 7), dg n⟩
def mkOps (n : Nat) : List S72 := if n % 3 = 0 then [mkOp n, ⟨1, (⟨#[108]⟩ : ByteArray) ++ dg (n % 4), (⟨#[120]⟩ : ByteArray)⟩] else [mkOp n]
theorem toList_app2 (a b : ByteArray) : (a ++ b).toList = a.toList ++ b.toList := by
  rw [Go.ByteArray.toList_eq, Go.ByteArray.toList_eq, Go.ByteArray.toList_eq, ByteArray.toList_data_append]
theorem mkOp_key (n : Nat) : (mkOp n).f1 = (⟨#[107]⟩ : ByteArray) ++ dg (n % 7) := by unfold mkOp; split <;> rfl
theorem key_lt (a b : Nat) : Op.bytesLess ((⟨#[107]⟩ : ByteArray) ++ dg a).toList ((⟨#[108]⟩ : ByteArray) ++ dg b).toList = true := by
  have e1 : (⟨#[107]⟩ : ByteArray).toList = [107] := by rw [Go.ByteArray.toList_eq]
  have e2 : (⟨#[108]⟩ : ByteArray).toList = [108] := by rw [Go.ByteArray.toList_eq]
  rw [toList_app2, toList_app2, e1, e2]
  simp [Op.bytesLess]
def mk (ns : List Int) (s : Int) (i : Nat) : S70 := ⟨s + i, mkOps (rd ns (i : Int)).toNat⟩
theorem mk_j1 (ns : List Int) (s : Int) (acc : List S70) (i n : Nat) (hi : i < 300) (hal : acc.length ≤ 1000) (hs : 1 ≤ s ∧ s ≤ 1000000) (hn : n < 256) (r : List S70) (h : Ev (fun k => iceboxlaw9_Make.l0 k ns s (acc ++ [⟨s + i, mkOps n⟩]) ((i + 1 : Nat) : Int)) r) :
    Ev (fun k => iceboxlaw9_Make.j1 k ns s acc (i : Int) (n : Int) (mkOp n).f0 (mkOp n).f1 (mkOp n).f2) r := by
  have ew : wrap64 ((i : Int) + 1) = ((i + 1 : Nat) : Int) := by rw [w64 (by omega) (by omega)]; omega
  have es : wrap64 (s + (i : Int)) = s + i := w64 (by omega) (by omega)
  have e3 : Int.tmod (n : Int) 3 = ((n % 3 : Nat) : Int) := by rw [Int.tmod_eq_emod_of_nonneg (by omega)]; omega
  have e4 : Int.tmod (n : Int) 4 = ((n % 4 : Nat) : Int) := by rw [Int.tmod_eq_emod_of_nonneg (by omega)]; omega
  by_cases c : n % 3 = 0
  · have hd := dg_ev ((n % 4 : Nat) : Int) (by omega) (by omega)
    rw [Int.toNat_natCast] at hd
    have hds := dg_size (n % 4) (by omega)
    have hN := rnorm2 (mkOp n) ⟨1, (⟨#[108]⟩ : ByteArray) ++ dg (n % 4), (⟨#[120]⟩ : ByteArray)⟩ (by rw [mkOp_key]; exact key_lt _ _)
    have e : mkOps n = [mkOp n, ⟨1, (⟨#[108]⟩ : ByteArray) ++ dg (n % 4), (⟨#[120]⟩ : ByteArray)⟩] := by unfold mkOps; rw [if_pos c]
    rw [← e] at hN
    obtain ⟨K1, hK1⟩ := hd
    obtain ⟨K2, hK2⟩ := hN
    obtain ⟨K3, hK3⟩ := h
    refine ⟨max K1 (max K2 K3) + 1, fun k hk => ?_⟩
    obtain ⟨k', rfl⟩ : ∃ k', k = k' + 1 := ⟨k - 1, by omega⟩
    have q1 := hK1 k' (by omega)
    have q2 := hK2 k' (by omega)
    have q3 := hK3 k' (by omega)
    dsimp only at q1 q2 q3
    show iceboxlaw9_Make.j1 (k' + 1) ns s acc (i : Int) (n : Int) (mkOp n).f0 (mkOp n).f1 (mkOp n).f2 = _
    rw [iceboxlaw9_Make.j1, Option.bind_some, if_pos (by rw [e3, c]; rfl), e4, q1, Option.bind_some, if_pos (by omega), if_pos (by simp), S72_eta]
    have e5 : ([mkOp n] ++ [⟨1, (⟨#[108]⟩ : ByteArray) ++ dg (n % 4), (⟨#[120]⟩ : ByteArray)⟩] : List S72) = mkOps n := by rw [e]; rfl
    rw [e5]
    have q2' : iceboxref1_Norm.f k' (mkOps n) = some (mkOps n) := by rw [← q2, e]
    rw [q2', Option.bind_some, if_pos (by omega), es, ew]; exact q3
  · have hN := rnorm1 (mkOp n)
    have e : mkOps n = [mkOp n] := by unfold mkOps; rw [if_neg c]
    obtain ⟨K2, hK2⟩ := hN
    obtain ⟨K3, hK3⟩ := h
    refine ⟨max K2 K3 + 1, fun k hk => ?_⟩
    obtain ⟨k', rfl⟩ : ∃ k', k = k' + 1 := ⟨k - 1, by omega⟩
    have q2 := hK2 k' (by omega)
    have q3 := hK3 k' (by omega)
    dsimp only at q2 q3
    show iceboxlaw9_Make.j1 (k' + 1) ns s acc (i : Int) (n : Int) (mkOp n).f0 (mkOp n).f1 (mkOp n).f2 = _
    rw [iceboxlaw9_Make.j1, Option.bind_some, if_neg (by rw [e3]; omega), S72_eta, q2, Option.bind_some, if_pos (by omega), es, ew, ← e]; exact q3
theorem mk_l0 (ns : List Int) (hb : Bytes ns) (hl : ns.length ≤ 200) (s : Int) (hs : 1 ≤ s ∧ s ≤ 1000000) : ∀ (d i : Nat), i + d = ns.length → Ev (fun k => iceboxlaw9_Make.l0 k ns s ((List.range i).map (mk ns s)) (i : Int)) ((List.range ns.length).map (mk ns s))
  | 0, i, hd => by
    obtain rfl : i = ns.length := by omega
    refine Ev.step (f := fun _ => some _) (fun k => ?_) (Ev.now _)
    rw [iceboxlaw9_Make.l0, if_neg (by omega)]
  | d + 1, i, hd => by
    have hi : i < ns.length := by omega
    have ih := mk_l0 ns hb hl s hs d (i + 1) (by omega)
    have hr := hb (ns[i]) (List.getElem_mem hi)
    have er : rd ns (i : Int) = ((rd ns (i : Int)).toNat : Int) := by rw [rd_at hi]; omega
    obtain ⟨n, en⟩ : ∃ n, n = (rd ns (i : Int)).toNat := ⟨_, rfl⟩
    have hn : n < 256 := by rw [en, rd_at hi]; omega
    rw [List.range_succ, List.map_append, List.map_cons, List.map_nil] at ih
    have em : mk ns s i = ⟨s + i, mkOps n⟩ := by unfold mk; rw [← en]
    rw [em] at ih
    have hj := mk_j1 ns s ((List.range i).map (mk ns s)) i n (by omega) (by simp; omega) hs hn _ ih
    have hd7 := dg_ev ((n % 7 : Nat) : Int) (by omega) (by omega)
    have hdn := dg_ev (n : Int) (by omega) (by omega)
    rw [Int.toNat_natCast] at hd7 hdn
    have hds := dg_size (n % 7) (by omega)
    have e7 : Int.tmod (n : Int) 7 = ((n % 7 : Nat) : Int) := by rw [Int.tmod_eq_emod_of_nonneg (by omega)]; omega
    have e5 : Int.tmod (n : Int) 5 = ((n % 5 : Nat) : Int) := by rw [Int.tmod_eq_emod_of_nonneg (by omega)]; omega
    have ewn : wrap64 (rd ns (i : Int)) = (n : Int) := by rw [er, ← en, w64 (by omega) (by omega)]
    obtain ⟨K1, hK1⟩ := hd7
    obtain ⟨K2, hK2⟩ := hdn
    obtain ⟨K3, hK3⟩ := hj
    refine ⟨max K1 (max K2 K3) + 1, fun k hk => ?_⟩
    obtain ⟨k', rfl⟩ : ∃ k', k = k' + 1 := ⟨k - 1, by omega⟩
    have q1 := hK1 k' (by omega)
    have q2 := hK2 k' (by omega)
    have q3 := hK3 k' (by omega)
    dsimp only at q1 q2 q3
    show iceboxlaw9_Make.l0 (k' + 1) ns s ((List.range i).map (mk ns s)) (i : Int) = _
    rw [iceboxlaw9_Make.l0, if_pos (by omega), if_pos (by omega), ewn, e7, q1, Option.bind_some, if_pos (by omega), q2, Option.bind_some, e5]
    by_cases c : n % 5 = 0
    · have em2 : mkOp n = ⟨2, (⟨#[107]⟩ : ByteArray) ++ dg (n % 7), (⟨#[]⟩ : ByteArray)⟩ := by unfold mkOp; rw [if_pos c]
      rw [em2] at q3
      rw [if_pos (by omega)]; exact q3
    · have em2 : mkOp n = ⟨1, (⟨#[107]⟩ : ByteArray) ++ dg (n % 7), dg n⟩ := by unfold mkOp; rw [if_neg c]
      rw [em2] at q3
      rw [if_neg (by omega)]; exact q3
def made (ns : List Int) (s : Int) : List S70 := (List.range ns.length).map (mk ns s)
theorem made_ev (ns : List Int) (hb : Bytes ns) (hl : ns.length ≤ 200) (s : Int) (hs : 1 ≤ s ∧ s ≤ 1000000) : Ev (fun k => iceboxlaw9_Make.f k ns s) (made ns s) := mk_l0 ns hb hl s hs ns.length 0 (by omega)
theorem made_len (ns : List Int) (s : Int) : (made ns s).length = ns.length := by unfold made; simp
theorem made_get (ns : List Int) (s : Int) (i : Nat) (h : i < (made ns s).length) : (made ns s)[i] = mk ns s i := by simp [made]
theorem rd37_get (l : List S70) (i : Nat) (h : i < l.length) : rd_T70 l (i : Int) = l[i] := by
  unfold rd_T70
  rw [Int.toNat_natCast, List.getD_eq_getElem?_getD, List.getElem?_eq_getElem h]; rfl

/-! ### fold: what the readers of a fold come to -/
theorem rd66_get (l : List S66) (i : Nat) (h : i < l.length) : rd_T66 l (i : Int) = l[i] := by
  unfold rd_T66
  rw [Int.toNat_natCast, List.getD_eq_getElem?_getD, List.getElem?_eq_getElem h]; rfl
theorem rd70_get (l : List S70) (i : Nat) (h : i < l.length) : rd_T70 l (i : Int) = l[i] := by
  unfold rd_T70
  rw [Int.toNat_natCast, List.getD_eq_getElem?_getD, List.getElem?_eq_getElem h]; rfl
theorem rd72_get (l : List S72) (i : Nat) (h : i < l.length) : rd_T72 l (i : Int) = l[i] := by
  unfold rd_T72
  rw [Int.toNat_natCast, List.getD_eq_getElem?_getD, List.getElem?_eq_getElem h]; rfl
theorem wsucc {i : Nat} (h : i < 4398046511104) : wrap64 ((i : Int) + 1) = ((i + 1 : Nat) : Int) := by rw [w64 (by omega) (by omega)]; omega
theorem fold_ev (h : List S70) (n : Int) (hk : Fold_ok h = true) : Ev (fun k => fold_Fold.f k h n) (Fold_all h n) :=
  Ev.congr (f := fun _ => some (Fold_all h n)) (fun k => by unfold fold_Fold.f; rw [if_pos hk]) (Ev.now _)
theorem ab_ev : (⟨#[98]⟩ : ByteArray).toList = [98] := by rw [Go.ByteArray.toList_eq]
theorem awake24_ev : Ev iceboxlaw24_awake.f true := by
  refine Ev.congr (f := fun _ => some true) (fun k => ?_) (Ev.now _)
  unfold iceboxlaw24_awake.f fold_Fold.f
  rw [if_pos (by decide), if_pos (by decide), Option.bind_some, Option.bind_some]
  have e0 : Fold_all [] 3 = [] := rfl
  have e : Fold_all [⟨1, [⟨1, ⟨#[97]⟩, ⟨#[98]⟩⟩]⟩] 1 = [⟨⟨#[97]⟩, ⟨#[98]⟩⟩] := rfl
  rw [e0, e, if_pos (by decide), if_pos (by decide), if_pos (by decide)]
  show some ((⟨#[98]⟩ : ByteArray).toList == [98]) = some true
  rw [ab_ev]; rfl
theorem pairs_l0 (L : List S66) (hl : L.length ≤ 4000000) : ∀ (d i : Nat), i + d = L.length → Ev (fun k => iceboxref1_Pairs.l0 k L L (i : Int)) true
  | 0, i, hd => by
    refine Ev.step (f := fun _ => some true) (fun k => ?_) (Ev.now _)
    rw [iceboxref1_Pairs.l0, if_neg (by omega)]
  | d + 1, i, hd => by
    have ih := pairs_l0 L hl d (i + 1) (by omega)
    refine Ev.step (fun k => ?_) ih
    rw [iceboxref1_Pairs.l0, if_pos (by omega), if_pos (by omega), if_pos (by omega), wsucc (by omega)]
    simp only [beq_self_eq_true, Bool.not_true, Bool.or_self]
    rw [if_neg Bool.false_ne_true]
theorem pairs_ev (L : List S66) (hl : L.length ≤ 4000000) : Ev (fun k => iceboxref1_Pairs.f k L L) true := by
  unfold iceboxref1_Pairs.f
  exact Ev.congr (fun k => by rw [if_pos rfl]; rfl) (pairs_l0 L hl L.length 0 (by omega))
theorem put_len (k v : ByteArray) : ∀ M : List S66, (Fold_put k v M).length ≤ M.length + 1
  | [] => Nat.le_refl _
  | y :: t => by
    rw [Fold_put]
    have := put_len k v t
    split
    · simp
    · split
      · simp only [List.length_cons]; omega
      · simp
theorem step_len (M : List S66) (o : S72) : (Fold_step M o).length ≤ M.length + 1 := by
  unfold Fold_step
  split
  · exact put_len _ _ _
  · split
    · unfold Fold_del; have := List.length_filter_le (fun y : S66 => y.f0.toList != o.f1.toList) M; omega
    · omega
theorem ops_len : ∀ (l : List S72) (M : List S66), (Fold_ops M l).length ≤ M.length + l.length
  | [], M => Nat.le_refl _
  | o :: l, M => by
    have h1 := ops_len l (Fold_step M o)
    have h2 := step_len M o
    show (Fold_ops (Fold_step M o) l).length ≤ _
    rw [List.length_cons]; omega
theorem all_len' : ∀ (h : List S70) (M : List S66), (∀ b ∈ h, b.f1.length ≤ 1000) → (h.foldl (fun M b => Fold_ops M b.f1) M).length ≤ M.length + h.length * 1000
  | [], M, _ => by simp
  | b :: h, M, hb => by
    have h1 := all_len' h (Fold_ops M b.f1) (fun x hx => hb x (List.mem_cons_of_mem _ hx))
    have h2 := ops_len b.f1 M
    have h3 := hb b (List.mem_cons_self ..)
    rw [List.foldl_cons, List.length_cons]; omega
theorem ok_parts {h : List S70} (hk : Fold_ok h = true) : h.length ≤ 1000 ∧ ∀ b ∈ h, b.f1.length ≤ 1000 := by
  unfold Fold_ok at hk
  simp only [Bool.and_eq_true, List.all_eq_true, decide_eq_true_eq] at hk
  exact ⟨hk.1, fun b hb => (hk.2 b hb).1⟩
theorem all_len (h : List S70) (n : Int) (hk : Fold_ok h = true) : (Fold_all h n).length ≤ 1000000 := by
  obtain ⟨h1, h2⟩ := ok_parts hk
  have := all_len' (h.take n.toNat) [] (fun b hb => h2 b (List.mem_of_mem_take hb))
  unfold Fold_all
  have e := List.length_take_le' n.toNat h
  simp only [List.length_nil] at this
  omega
theorem ops_sp : ∀ (l : List S72) (M : List S66), SP M → SP (Fold_ops M l)
  | [], _, h => h
  | o :: l, M, h => ops_sp l (Fold_step M o) (step_sp M o h)
theorem all_sp' : ∀ (h : List S70) (M : List S66), SP M → SP (h.foldl (fun M b => Fold_ops M b.f1) M)
  | [], _, h => h
  | b :: h, M, hM => all_sp' h (Fold_ops M b.f1) (ops_sp _ _ hM)
theorem all_sp (h : List S70) (n : Int) : SP (Fold_all h n) := all_sp' _ _ List.Pairwise.nil

/-! ### Get -/
def getP (L : List S66) (s : ByteArray) : ByteArray × Bool := (Fold_at L s).elim (⟨#[]⟩, false) fun p => (p.f1, true)
theorem getP_cons (y : S66) (t : List S66) (s : ByteArray) : getP (y :: t) s = if y.f0.toList = s.toList then (y.f1, true) else getP t s := by
  unfold getP
  rw [at_head]
  by_cases c : y.f0.toList = s.toList
  · rw [if_pos (beq_iff_eq.2 c), if_pos c]; rfl
  · rw [if_neg (fun h => c (beq_iff_eq.1 h)), if_neg c]
theorem get_l0 (L : List S66) (s : ByteArray) (hl : L.length ≤ 4000000) : ∀ (d i : Nat), i + d = L.length → Ev (fun k => fold_Get.l0 k s L (L.length : Int) (i : Int)) (getP (L.drop i) s)
  | 0, i, hd => by
    refine Ev.step (f := fun _ => some _) (fun k => ?_) (Ev.now _)
    rw [fold_Get.l0, if_neg (by omega), List.drop_of_length_le (by omega)]; rfl
  | d + 1, i, hd => by
    have hi : i < L.length := by omega
    have ih := get_l0 L s hl d (i + 1) (by omega)
    rw [List.drop_eq_getElem_cons hi, getP_cons]
    by_cases c : L[i].f0.toList = s.toList
    · rw [if_pos c]
      refine Ev.step (f := fun _ => some _) (fun k => ?_) (Ev.now _)
      rw [fold_Get.l0, if_pos (by omega), if_pos (by omega), if_pos (by omega), rd66_get L i hi, if_pos c]
    · rw [if_neg c]
      refine Ev.step (fun k => ?_) ih
      rw [fold_Get.l0, if_pos (by omega), if_pos (by omega), if_pos (by omega), rd66_get L i hi, if_neg c, wsucc (by omega)]
theorem get_ev (L : List S66) (s : ByteArray) (hl : L.length ≤ 4000000) : Ev (fun k => fold_Get.f k L s) (getP L s) := get_l0 L s hl L.length 0 (by omega)

/-! ### what Make's batches are to a fold -/
def OneOp (o : S72) : Prop := (o.f0 = 1 ∨ o.f0 = 2) ∧ o.f1.size ≤ 4 ∧ o.f2.size ≤ 3
theorem one_op (a : Int) (p : ByteArray) (m : Nat) (v : ByteArray) (ha : a = 1 ∨ a = 2) (hp : p.size = 1) (hm : m < 256) (hv : v.size ≤ 3) : OneOp ⟨a, p ++ dg m, v⟩ := by
  refine ⟨ha, ?_, hv⟩
  show (p ++ dg m).size ≤ 4
  have := dg_size m hm
  rw [ByteArray.size_append]; omega
theorem mkOp_one (n : Nat) (h : n < 256) : OneOp (mkOp n) := by
  unfold mkOp
  by_cases c : n % 5 = 0
  · rw [if_pos c]; exact one_op 2 _ (n % 7) _ (Or.inr rfl) rfl (by omega) (Nat.zero_le _)
  · rw [if_neg c]; exact one_op 1 _ (n % 7) _ (Or.inl rfl) rfl (by omega) (dg_size n h)
theorem mkOps_one (n : Nat) (h : n < 256) : (mkOps n).length ≤ 2 ∧ ∀ o ∈ mkOps n, OneOp o := by
  unfold mkOps
  by_cases c : n % 3 = 0
  · rw [if_pos c]
    refine ⟨by simp, fun x hx => ?_⟩
    rcases List.mem_cons.1 hx with rfl | hx
    · exact mkOp_one n h
    · rw [List.mem_singleton.1 hx]
      exact one_op 1 _ (n % 4) _ (Or.inl rfl) rfl (by omega) (by show 1 ≤ 3; omega)
  · rw [if_neg c]
    refine ⟨by simp, fun x hx => ?_⟩
    rw [List.mem_singleton.1 hx]; exact mkOp_one n h
theorem made_one (ns : List Int) (hb : Bytes ns) (s : Int) : ∀ b ∈ made ns s, b.f1.length ≤ 2 ∧ ∀ o ∈ b.f1, OneOp o := by
  intro x hx
  obtain ⟨i, hi, rfl⟩ := List.getElem_of_mem hx
  rw [made_get ns s i hi]
  have hi2 : i < ns.length := by rw [made_len] at hi; exact hi
  have hr := hb (ns[i]) (List.getElem_mem hi2)
  exact mkOps_one _ (by rw [rd_at hi2]; omega)
theorem made_ok (ns : List Int) (hb : Bytes ns) (hl : ns.length ≤ 200) (s : Int) : Fold_ok (made ns s) = true := by
  unfold Fold_ok
  simp only [Bool.and_eq_true, List.all_eq_true, decide_eq_true_eq]
  refine ⟨by rw [made_len]; omega, fun b hb2 => ?_⟩
  obtain ⟨h1, h2⟩ := made_one ns hb s b hb2
  exact ⟨by omega, fun o ho => ⟨by have := (h2 o ho).2.1; omega, by have := (h2 o ho).2.2; omega⟩⟩

/-! ### FoldOn -/
def lastS (key : ByteArray) (p : ByteArray × Bool) (o : S72) : ByteArray × Bool := if o.f1.toList = key.toList then (o.f2, o.f0 == 1) else p
def LInv (M : List S66) (key : ByteArray) (p : ByteArray × Bool) : Prop := (getP M key).2 = p.2 ∧ (p.2 = true → (getP M key).1.toList = p.1.toList)
theorem linv_step (M : List S66) (hM : SP M) (key : ByteArray) (p : ByteArray × Bool) (o : S72) (h1 : o.f0 = 1 ∨ o.f0 = 2) (h : LInv M key p) : LInv (Fold_step M o) key (lastS key p o) := by
  unfold lastS Fold_step
  rcases h1 with e | e
  · rw [if_pos e]
    by_cases c : o.f1.toList = key.toList
    · rw [if_pos c]
      have hp : getP (Fold_put o.f1 o.f2 M) key = (o.f2, true) := by unfold getP; rw [at_put _ _ _ _ hM, if_pos (beq_iff_eq.2 c)]; rfl
      unfold LInv
      rw [hp, e]
      exact ⟨rfl, fun _ => rfl⟩
    · rw [if_neg c]
      have hp : getP (Fold_put o.f1 o.f2 M) key = getP M key := by unfold getP; rw [at_put _ _ _ _ hM, if_neg (fun h => c (beq_iff_eq.1 h))]
      unfold LInv
      rw [hp]; exact h
  · rw [if_neg (by omega), if_pos e]
    by_cases c : o.f1.toList = key.toList
    · rw [if_pos c]
      have hp : getP (Fold_del o.f1 M) key = (⟨#[]⟩, false) := by unfold getP; rw [at_del, if_pos (beq_iff_eq.2 c)]; rfl
      unfold LInv
      rw [hp, e]
      exact ⟨rfl, fun h => by cases h⟩
    · rw [if_neg c]
      have hp : getP (Fold_del o.f1 M) key = getP M key := by unfold getP; rw [at_del, if_neg (fun h => c (beq_iff_eq.1 h))]
      unfold LInv
      rw [hp]; exact h
theorem linv_ops (key : ByteArray) : ∀ (l : List S72) (M : List S66) (p : ByteArray × Bool), SP M → (∀ o ∈ l, OneOp o) → LInv M key p → LInv (Fold_ops M l) key (l.foldl (lastS key) p)
  | [], M, p, _, _, h => h
  | o :: l, M, p, hM, h1, h => linv_ops key l (Fold_step M o) (lastS key p o) (step_sp M o hM) (fun x hx => h1 x (List.mem_cons_of_mem _ hx)) (linv_step M hM key p o (h1 o (List.mem_cons_self ..)).1 h)
theorem linv_all (key : ByteArray) : ∀ (h : List S70) (M : List S66) (p : ByteArray × Bool), SP M → (∀ b ∈ h, ∀ o ∈ b.f1, OneOp o) → LInv M key p → LInv (h.foldl (fun M b => Fold_ops M b.f1) M) key (h.foldl (fun p b => b.f1.foldl (lastS key) p) p)
  | [], M, p, _, _, h => h
  | b :: t, M, p, hM, h1, h => linv_all key t (Fold_ops M b.f1) (b.f1.foldl (lastS key) p) (ops_sp _ _ hM) (fun x hx => h1 x (List.mem_cons_of_mem _ hx)) (linv_ops key b.f1 M p hM (h1 b (List.mem_cons_self ..)) h)
theorem on_l3 (h : List S70) (kk : Int) (a : List S66) (u : Int) (key : ByteArray) (R : Bool) (i : Nat) (hi : i < h.length) (hh : h.length ≤ 1000) (hb : (h[i]).f1.length ≤ 1000) : ∀ (d j : Nat) (p : ByteArray × Bool), j + d = (h[i]).f1.length →
    Ev (fun k => iceboxlaw24_FoldOn.l2 k h kk a u key (((h[i]).f1.drop j).foldl (lastS key) p).1 (((h[i]).f1.drop j).foldl (lastS key) p).2 ((i + 1 : Nat) : Int)) R → Ev (fun k => iceboxlaw24_FoldOn.l3 k h kk a u key p.1 p.2 (i : Int) (j : Int)) R
  | 0, j, p, hd, hE => by
    rw [List.drop_of_length_le (by omega)] at hE
    refine Ev.step (fun k => ?_) hE
    rw [iceboxlaw24_FoldOn.l3, if_pos (by omega), if_pos (by omega), rd70_get h i hi, if_neg (by omega), wsucc (by omega)]
    rfl
  | d + 1, j, p, hd, hE => by
    have hj : j < (h[i]).f1.length := by omega
    rw [List.drop_eq_getElem_cons hj, List.foldl_cons] at hE
    have ih := on_l3 h kk a u key R i hi hh hb d (j + 1) _ (by omega) hE
    by_cases c : ((h[i]).f1[j]).f1.toList = key.toList
    · have e : lastS key p ((h[i]).f1[j]) = (((h[i]).f1[j]).f2, ((h[i]).f1[j]).f0 == 1) := by unfold lastS; rw [if_pos c]
      rw [e] at ih
      refine Ev.step (fun k => ?_) ih
      rw [iceboxlaw24_FoldOn.l3, if_pos (by omega), if_pos (by omega), rd70_get h i hi, if_pos (by omega), if_pos (by omega), rd72_get _ j hj, if_pos c, wsucc (by omega)]
    · have e : lastS key p ((h[i]).f1[j]) = p := by unfold lastS; rw [if_neg c]
      rw [e] at ih
      refine Ev.step (fun k => ?_) ih
      rw [iceboxlaw24_FoldOn.l3, if_pos (by omega), if_pos (by omega), rd70_get h i hi, if_pos (by omega), if_pos (by omega), rd72_get _ j hj, if_neg c, wsucc (by omega)]
theorem on_l2 (h : List S70) (kn : Nat) (hkn : kn ≤ h.length) (hh : h.length ≤ 1000) (hb : ∀ b ∈ h, b.f1.length ≤ 1000) (a : List S66) (u : Int) (key : ByteArray) (R : Bool) : ∀ (d i : Nat) (p : ByteArray × Bool), i + d = kn →
    Ev (fun k => iceboxlaw24_FoldOn.l2 k h (kn : Int) a u key ((((h.take kn).drop i).foldl (fun p b => b.f1.foldl (lastS key) p) p)).1 ((((h.take kn).drop i).foldl (fun p b => b.f1.foldl (lastS key) p) p)).2 (kn : Int)) R → Ev (fun k => iceboxlaw24_FoldOn.l2 k h (kn : Int) a u key p.1 p.2 (i : Int)) R
  | 0, i, p, hd, hE => by
    rw [List.drop_of_length_le (by rw [List.length_take]; omega)] at hE
    obtain rfl : i = kn := by omega
    exact hE
  | d + 1, i, p, hd, hE => by
    have hi : i < h.length := by omega
    have hi2 : i < (h.take kn).length := by rw [List.length_take]; omega
    rw [List.drop_eq_getElem_cons hi2, List.foldl_cons, List.getElem_take] at hE
    have ih := on_l2 h kn hkn hh hb a u key R d (i + 1) _ (by omega) hE
    have h3 := on_l3 h (kn : Int) a u key R i hi hh (hb _ (List.getElem_mem hi)) (h[i]).f1.length 0 p (by omega) ih
    refine Ev.step (fun k => ?_) h3
    rw [iceboxlaw24_FoldOn.l2, if_pos (by omega)]
    rfl
theorem all_over (h : List S70) (n : Int) (hn : (h.length : Int) ≤ n) : Fold_all h n = Fold_all h (h.length : Int) := by
  unfold Fold_all
  rw [List.take_of_length_le (by omega), List.take_of_length_le (by omega)]
theorem on_l1 (h : List S70) (kn : Nat) (hkn : kn ≤ h.length) (hh : h.length ≤ 1000) (hk : Fold_ok h = true) (hb : ∀ b ∈ h, ∀ o ∈ b.f1, OneOp o) : ∀ (d u : Nat), u + d = 11 → Ev (fun k => iceboxlaw24_FoldOn.l1 k h (kn : Int) (Fold_all h (kn : Int)) (u : Int)) true
  | 0, u, hd => by
    obtain rfl : u = 11 := by omega
    have e1 : wrap64 ((h.length : Int) + 5) = (h.length : Int) + 5 := w64 (by omega) (by omega)
    have f1 := fold_ev h ((h.length : Int) + 5) hk
    rw [all_over h _ (by omega)] at f1
    have f2 := fold_ev h (h.length : Int) hk
    have f3 := fold_ev h (-1) hk
    have f4 := pairs_ev (Fold_all h (h.length : Int)) (by have := all_len h (h.length : Int) hk; omega)
    have e3 : Fold_all h (-1) = [] := rfl
    rw [e3] at f3
    refine Ev.step (fun k => by rw [iceboxlaw24_FoldOn.l1, if_neg (by omega), e1]) (Ev.bind f1 (f := fun k t338 => _) ?_)
    refine Ev.bind f2 (f := fun k t341 => _) ?_
    refine Ev.bind f4 (f := fun k t344 => _) ?_
    refine Ev.congr (fun k => by rw [if_pos rfl]) (Ev.bind f3 (f := fun k t345 => _) ?_)
    refine Ev.congr (fun k => by rw [if_pos (show (([] : List S66).length : Int) = 0 from rfl)]) (Ev.bind awake24_ev (f := fun k t => some t) (Ev.now _))
  | d + 1, u, hd => by
    have ih := on_l1 h kn hkn hh hk hb d (u + 1) (by omega)
    obtain ⟨key, ekey⟩ : ∃ key : ByteArray, key = if 7 ≤ u then (⟨#[108]⟩ : ByteArray) ++ dg (u - 7) else (⟨#[107]⟩ : ByteArray) ++ dg u := ⟨_, rfl⟩
    have hgp := get_ev (Fold_all h (kn : Int)) key (by have := all_len h (kn : Int) hk; omega)
    have hin := linv_all key (h.take kn) [] (⟨#[]⟩, false) List.Pairwise.nil (fun b hb2 => hb b (List.mem_of_mem_take hb2)) ⟨rfl, fun h => by cases h⟩
    have eM : (h.take kn).foldl (fun M b => Fold_ops M b.f1) [] = Fold_all h (kn : Int) := by unfold Fold_all; rw [Int.toNat_natCast]
    rw [eM] at hin
    obtain ⟨i1, i2⟩ := hin
    have hfin : Ev (fun k => iceboxlaw24_FoldOn.l2 k h (kn : Int) (Fold_all h (kn : Int)) (u : Int) key ((h.take kn).foldl (fun p b => b.f1.foldl (lastS key) p) (⟨#[]⟩, false)).1 ((h.take kn).foldl (fun p b => b.f1.foldl (lastS key) p) (⟨#[]⟩, false)).2 (kn : Int)) true := by
      generalize (h.take kn).foldl (fun p b => b.f1.foldl (lastS key) p) ((⟨#[]⟩ : ByteArray), false) = q at *
      refine Ev.step (fun k => by rw [iceboxlaw24_FoldOn.l2, if_neg (by omega)]) (Ev.bind hgp (f := fun k bt329 => _) ?_)
      refine Ev.congr (fun k => ?_) ih
      rw [if_neg (by rw [i1]; simp), wsucc (by omega)]
      by_cases c : (getP (Fold_all h (kn : Int)) key).2 = true
      · rw [if_pos c, if_pos (i2 (i1 ▸ c))]
      · rw [if_neg c]
    have hl2 := on_l2 h kn hkn hh (fun b hb2 => (ok_parts hk).2 b hb2) (Fold_all h (kn : Int)) (u : Int) key true kn 0 (⟨#[]⟩, false) (by omega) hfin
    have hj2 : Ev (fun k => iceboxlaw24_FoldOn.j2 k h (kn : Int) (Fold_all h (kn : Int)) (u : Int) key) true := Ev.step (fun k => by rw [iceboxlaw24_FoldOn.j2]; rfl) hl2
    have d1 := dg_ev (u : Int) (by omega) (by omega)
    rw [Int.toNat_natCast] at d1
    have s1 := dg_size u (by omega)
    refine Ev.step (fun k => by rw [iceboxlaw24_FoldOn.l1, if_pos (by omega)]) (Ev.bind d1 (f := fun k t327 => _) ?_)
    by_cases c : 7 ≤ u
    · have d2 := dg_ev ((u - 7 : Nat) : Int) (by omega) (by omega)
      rw [Int.toNat_natCast] at d2
      have s2 := dg_size (u - 7) (by omega)
      have e7 : wrap64 ((u : Int) - 7) = ((u - 7 : Nat) : Int) := by rw [w64 (by omega) (by omega)]; omega
      refine Ev.congr (fun k => by rw [if_pos (by omega), if_pos (by omega), e7]) (Ev.bind d2 (f := fun k t328 => _) ?_)
      refine Ev.congr (fun k => ?_) hj2
      rw [if_pos (by omega), ekey, if_pos c]
    · refine Ev.congr (fun k => ?_) hj2
      rw [if_pos (by omega), if_neg (by omega), ekey, if_neg c]
theorem on_l0 (h : List S70) (kk : Int) (a : List S66) (ha : SP a) (hl : a.length ≤ 4000000) (hE : Ev (fun k => iceboxlaw24_FoldOn.l1 k h kk a 0) true) : ∀ (d i : Nat), i + d = max 1 a.length → 1 ≤ i → Ev (fun k => iceboxlaw24_FoldOn.l0 k h kk a (i : Int)) true
  | 0, i, hd, h1 => by
    refine Ev.step (fun k => ?_) hE
    rw [iceboxlaw24_FoldOn.l0, if_neg (by omega)]
  | d + 1, i, hd, h1 => by
    have ih := on_l0 h kk a ha hl hE d (i + 1) (by omega) (by omega)
    have hi : i < a.length := by omega
    have e1 : wrap64 ((i : Int) - 1) = ((i - 1 : Nat) : Int) := by rw [w64 (by omega) (by omega)]; omega
    refine Ev.step (fun k => ?_) ih
    have hp : Op.bytesLess a[i - 1].f0.toList a[i].f0.toList = true := List.pairwise_iff_getElem.1 ha (i - 1) i (by omega) hi (by omega)
    rw [iceboxlaw24_FoldOn.l0, if_pos (by omega), e1, if_pos (by omega), if_pos (by omega), if_pos (by omega), rd66_get a (i - 1) (by omega), rd66_get a i hi, if_pos hp, wsucc (by omega)]
theorem FoldOn : iceboxlaw24_FoldOn.Pure := by
  intro ns n h1 h2 h3 h4
  have hb := bytes_wf h3
  have hn := wf_u8 h4
  by_cases c : (ns.length : Int) > 60
  · obtain ⟨K, hK⟩ := awake24_ev
    refine ⟨K, ?_⟩
    rw [iceboxlaw24_FoldOn.f, if_pos c, hK K (Nat.le_refl _)]; rfl
  · have hm := made_ev ns hb (by omega) 1 ⟨by omega, by omega⟩
    have hok := made_ok ns hb (by omega) 1
    have hone := made_one ns hb 1
    have hlen := made_len ns 1
    generalize made ns 1 = H at *
    have ew : wrap64 n = n := w64 (by omega) (by omega)
    have ew2 : wrap64 ((H.length : Int) + 1) = (H.length : Int) + 1 := w64 (by omega) (by omega)
    obtain ⟨kn, ek⟩ : ∃ kn : Nat, Int.tmod n ((H.length : Int) + 1) = (kn : Int) := ⟨(Int.tmod n ((H.length : Int) + 1)).toNat, by rw [Int.tmod_eq_emod_of_nonneg (by omega)]; have := Int.emod_nonneg n (show (H.length : Int) + 1 ≠ 0 by omega); omega⟩
    have hkn : kn ≤ H.length := by
      have := Int.emod_lt_of_pos n (show 0 < (H.length : Int) + 1 by omega)
      rw [Int.tmod_eq_emod_of_nonneg (by omega)] at ek
      omega
    have hf := fold_ev H (kn : Int) hok
    have hl := all_len H (kn : Int) hok
    have hE := on_l0 H (kn : Int) (Fold_all H (kn : Int)) (all_sp _ _) (by omega) (on_l1 H kn hkn (by omega) hok (fun b hb2 => (hone b hb2).2) 11 0 (by omega)) (max 1 (Fold_all H (kn : Int)).length - 1) 1 (by omega) (Nat.le_refl _)
    have hE2 : Ev (fun k => iceboxlaw24_FoldOn.f k ns n) true := by
      refine Ev.congr (fun k => by rw [iceboxlaw24_FoldOn.f, if_neg c]) (Ev.bind hm (f := fun k t319 => _) ?_)
      refine Ev.congr (fun k => by rw [ew, ew2, if_neg (by omega), ek]) (Ev.bind hf (f := fun k t322 => iceboxlaw24_FoldOn.l0 k H (kn : Int) t322 1) hE)
    obtain ⟨K, hK⟩ := hE2
    exact ⟨K, hK K (Nat.le_refl _)⟩

end Go.Proofs.Ytffnimaaolmbdaa.Pure
