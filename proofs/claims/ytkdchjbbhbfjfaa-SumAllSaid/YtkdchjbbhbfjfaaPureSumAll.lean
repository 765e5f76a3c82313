/- The pure statement of the law SumAll: over the Lean functions that the Go code was shown to compute, the law answers true for every input within the statement's own bounds. No further conditions. -/
import Derived.Test.YtkdchjbbhbfjfaaPSumAllx1
namespace Go.Proofs.Ytkdchjbbhbfjfaa.Pure
open Go.RowKit Go.Proofs.Ytkdchjbbhbfjfaa.PSumAll Go.Proofs.YtkdchjbbhbfjfaaW.PrintWords Go.Proofs.YtkdchjbbhbfjfaaW.PrintLast Go.Proofs.YtkdchjbbhbfjfaaW.PrintMore
set_option linter.unusedVariables false
set_option linter.unusedSimpArgs false

theorem w64 {x : Int} (h0 : -9223372036854775808 ≤ x) (h1 : x < 9223372036854775808) : wrap64 x = x := by
  unfold wrap64; omega
theorem bits_xor_nat (k : IntKind) (j : Nat) (hj : j ≤ k.bits) (hk : ∀ n : Int, 0 ≤ n → n < 2 ^ j → k.wrap n = n) (a b : Nat) (ha : a < 2 ^ j) (hb : b < 2 ^ j) :
    Go.bits .xor k a b = ((a ^^^ b : Nat) : Int) := by
  have hp : 2 ^ j ≤ 2 ^ k.bits := Nat.pow_le_pow_right (by decide) hj
  have ha' : a % 2 ^ k.bits = a := Nat.mod_eq_of_lt (Nat.lt_of_lt_of_le ha hp)
  have hb' : b % 2 ^ k.bits = b := Nat.mod_eq_of_lt (Nat.lt_of_lt_of_le hb hp)
  simp only [Go.bits, BitVec.ofInt_natCast, BitVec.toNat_xor, BitVec.toNat_ofNat, ha', hb']
  exact hk _ (Int.natCast_nonneg _) (by exact_mod_cast Nat.xor_lt_two_pow ha hb)
theorem wr_u32 (n : Int) (h₀ : 0 ≤ n) (h₁ : n < 2 ^ 32) : IntKind.u32.wrap n = n := by rw [IntKind.wrap_u32]; omega
theorem wr_u8 (n : Int) (h₀ : 0 ≤ n) (h₁ : n < 2 ^ 8) : IntKind.u8.wrap n = n := by rw [IntKind.wrap_u8]; omega
theorem wr_i64 (n : Int) (h₀ : 0 ≤ n) (h₁ : n < 2 ^ 63) : IntKind.i64.wrap n = n := by rw [IntKind.wrap_i64]; omega
theorem wr_u64 (n : Int) : IntKind.u64.wrap n = n % 18446744073709551616 := by simp [IntKind.wrap, IntKind.bits, IntKind.signed]
theorem bx_u32 (a b : Nat) (ha : a < 2 ^ 32) (hb : b < 2 ^ 32) : Go.bits .xor .u32 a b = ((a ^^^ b : Nat) : Int) := bits_xor_nat .u32 32 (by decide) wr_u32 a b ha hb
theorem bx_u8 (a b : Nat) (ha : a < 2 ^ 8) (hb : b < 2 ^ 8) : Go.bits .xor .u8 a b = ((a ^^^ b : Nat) : Int) := bits_xor_nat .u8 8 (by decide) wr_u8 a b ha hb
theorem bx_i64 (a b : Nat) (ha : a < 2 ^ 63) (hb : b < 2 ^ 63) : Go.bits .xor .i64 a b = ((a ^^^ b : Nat) : Int) := bits_xor_nat .i64 63 (by decide) wr_i64 a b ha hb
theorem bo_i64 (a b : Nat) (ha : a < 2 ^ 63) (hb : b < 2 ^ 63) : Go.bits .or .i64 a b = ((a ||| b : Nat) : Int) := (bits_nat .i64 63 (by decide) wr_i64 a b ha hb).2
theorem bo_u8 (a b : Nat) (ha : a < 2 ^ 8) (hb : b < 2 ^ 8) : Go.bits .or .u8 a b = ((a ||| b : Nat) : Int) := (bits_nat .u8 8 (by decide) wr_u8 a b ha hb).2
theorem ba_u8 (a b : Nat) (ha : a < 2 ^ 8) (hb : b < 2 ^ 8) : Go.bits .and .u8 a b = ((a &&& b : Nat) : Int) := (bits_nat .u8 8 (by decide) wr_u8 a b ha hb).1
theorem ba_u32 (a b : Nat) (ha : a < 2 ^ 32) (hb : b < 2 ^ 32) : Go.bits .and .u32 a b = ((a &&& b : Nat) : Int) := (bits_nat .u32 32 (by decide) wr_u32 a b ha hb).1
theorem max_u32 : IntKind.u32.max = ((4294967295 : Nat) : Int) := by decide
theorem wf_u8 {x : Int} (h : (Lit.int .u8 x).wf = true) : 0 ≤ x ∧ x < 256 := by
  simp [Lit.wf, IntKind.min, IntKind.max, IntKind.signed, IntKind.bits] at h; omega
theorem wf_u16 {x : Int} (h : (Lit.int .u16 x).wf = true) : 0 ≤ x ∧ x < 65536 := by
  simp [Lit.wf, IntKind.min, IntKind.max, IntKind.signed, IntKind.bits] at h; omega
theorem wf_u32 {x : Int} (h : (Lit.int .u32 x).wf = true) : 0 ≤ x ∧ x < 4294967296 := by
  simp [Lit.wf, IntKind.min, IntKind.max, IntKind.signed, IntKind.bits] at h; omega
theorem wf_u64 {x : Int} (h : (Lit.int .u64 x).wf = true) : 0 ≤ x ∧ x < 18446744073709551616 := by
  simp [Lit.wf, IntKind.min, IntKind.max, IntKind.signed, IntKind.bits] at h; omega
theorem wf_i64 {x : Int} (h : (Lit.int .i64 x).wf = true) : -9223372036854775808 ≤ x ∧ x < 9223372036854775808 := by
  simp [Lit.wf, IntKind.min, IntKind.max, IntKind.signed, IntKind.bits] at h; omega

def crcStep (r : Nat) : Nat := if r % 2 = 0 then r / 2 else (r / 2) ^^^ 2197175160
def crcBits : Nat → Nat → Nat
  | 0, r => r
  | n + 1, r => crcBits n (crcStep r)
def crcByte (r c : Nat) : Nat := crcBits 8 (r ^^^ c)
def crcFold (r : Nat) (l : List Nat) : Nat := l.foldl crcByte r
theorem crcStep_lt {r : Nat} (h : r < 2 ^ 32) : crcStep r < 2 ^ 32 := by
  unfold crcStep; split
  · omega
  · exact Nat.xor_lt_two_pow (by omega) (by decide)
theorem crcBits_lt : ∀ n {r : Nat}, r < 2 ^ 32 → crcBits n r < 2 ^ 32
  | 0, _, h => h
  | n + 1, _, h => crcBits_lt n (crcStep_lt h)
theorem crcByte_lt {r c : Nat} (h : r < 2 ^ 32) (hc : c < 256) : crcByte r c < 2 ^ 32 :=
  crcBits_lt 8 (Nat.xor_lt_two_pow h (by omega))
theorem crcFold_lt : ∀ (l : List Nat) {r : Nat}, r < 2 ^ 32 → (∀ c ∈ l, c < 256) → crcFold r l < 2 ^ 32
  | [], _, h, _ => h
  | c :: l, _, h, hl => crcFold_lt l (crcByte_lt h (hl c (by simp))) (fun x hx => hl x (by simp [hx]))
def nats (l : List Int) : List Nat := l.map Int.toNat
def Bytes (l : List Int) : Prop := ∀ x ∈ l, 0 ≤ x ∧ x < 256
theorem bytes_wf {l : List Int} (h : ∀ x ∈ l, (Lit.int .u8 x).wf = true) : Bytes l := fun x hx => wf_u8 (h x hx)
theorem nats_lt {l : List Int} (h : Bytes l) : ∀ c ∈ nats l, c < 256 := by
  intro c hc
  obtain ⟨x, hx, rfl⟩ := List.mem_map.1 hc
  have := h x hx; omega
theorem rd_at {l : List Int} {i : Nat} (h : i < l.length) : rd l (i : Int) = l[i] := by
  unfold rd; simp [h]
theorem rd_byte {l : List Int} {i : Nat} (h : i < l.length) (hb : Bytes l) : ∃ c : Nat, rd l (i : Int) = c ∧ c < 256 ∧ (nats l)[i]? = some c := by
  have := hb l[i] (List.getElem_mem h)
  refine ⟨l[i].toNat, by rw [rd_at h]; omega, by omega, ?_⟩
  unfold nats
  rw [List.getElem?_map, List.getElem?_eq_getElem h]; rfl
theorem step_bit (r : Nat) (h : r < 2 ^ 32) : (if (Go.bits .and .u32 (r : Int) 1) = 0 then ((r : Int) / 2) else Go.bits .xor .u32 ((r : Int) / 2) 2197175160) = (crcStep r : Nat) := by
  have e : Go.bits .and .u32 (r : Int) 1 = ((r % 2 : Nat) : Int) := by
    have := ba_u32 r 1 h (by decide)
    rw [Nat.and_one_is_mod] at this; exact this
  have e2 : Go.bits .xor .u32 ((r : Int) / 2) 2197175160 = (((r / 2) ^^^ 2197175160 : Nat) : Int) := by
    have := bx_u32 (r / 2) 2197175160 (by omega) (by decide)
    rw [← this]; rfl
  rw [e, e2]; unfold crcStep
  by_cases h2 : r % 2 = 0
  · rw [if_pos (by omega), if_pos h2]; rfl
  · rw [if_neg (by omega), if_neg h2]
theorem sum_l1 (l : List Int) (L i : Int) (R : Int) : ∀ {n : Nat} {r : Nat}, n ≤ 8 → r < 2 ^ 32 →
    Ev (fun k => sum_Sum.l0 k (crcBits n r : Nat) l L (wrap64 (i + 1))) R → Ev (fun k => sum_Sum.l1 k (r : Int) l L i (8 - n)) R := by
  intro n
  induction n with
  | zero =>
    intro r _ hr h
    refine Ev.step (f := fun k => sum_Sum.l0 k (r : Int) l L (wrap64 (i + 1))) (fun k => ?_) h
    simp only [sum_Sum.l1]; rw [if_neg (by omega)]
  | succ n ih =>
    intro r hn hr h
    refine Ev.step (f := fun k => sum_Sum.l1 k (crcStep r : Nat) l L i (8 - n)) (fun k => ?_) (ih (r := crcStep r) (by omega) (crcStep_lt hr) h)
    simp only [sum_Sum.l1]
    have hw : wrap64 (8 - ((n + 1 : Nat) : Int) + 1) = 8 - (n : Int) := by unfold wrap64; omega
    rw [if_pos (by omega), hw, ← step_bit r hr]
    split <;> rfl
theorem sum_l0 (l : List Int) (hb : Bytes l) (hl : l.length < 2 ^ 48) : ∀ (d i : Nat) (r : Nat), i + d = l.length → r < 2 ^ 32 →
    Ev (fun k => sum_Sum.l0 k (r : Int) l (l.length : Int) (i : Int)) ((4294967295 ^^^ crcFold r ((nats l).drop i) : Nat) : Int) := by
  intro d
  induction d with
  | zero =>
    intro i r hi hr
    have : (nats l).drop i = [] := by rw [List.drop_eq_nil_iff]; unfold nats; simp; omega
    rw [this]
    refine Ev.step (f := fun _ => some _) (fun k => ?_) (Ev.now _)
    simp only [sum_Sum.l0]
    rw [if_neg (by omega), max_u32, bx_u32 _ _ (by decide) hr]
    have := Nat.xor_lt_two_pow (n := 32) (x := 4294967295) (y := r) (by decide) hr
    rw [w64 (by omega) (by omega)]; rfl
  | succ d ih =>
    intro i r hi hr
    have hlt : i < l.length := by omega
    obtain ⟨c, hc, hc1, hc2⟩ := rd_byte hlt hb
    have hdrop : (nats l).drop i = c :: (nats l).drop (i + 1) := by
      have h2 : i < (nats l).length := by unfold nats; simpa using hlt
      rw [List.drop_eq_getElem_cons h2]; rw [List.getElem?_eq_getElem h2] at hc2; injection hc2 with hc2; rw [hc2]
    rw [hdrop]
    have h1 := ih (i + 1) (crcByte r c) (by omega) (crcByte_lt hr hc1)
    have hx : r ^^^ c < 2 ^ 32 := Nat.xor_lt_two_pow hr (by omega)
    have h2 := sum_l1 l (l.length : Int) (i : Int) (n := 8) (r := r ^^^ c) (by omega) hx (R := ((4294967295 ^^^ crcFold (crcByte r c) ((nats l).drop (i + 1)) : Nat) : Int)) (by
      rw [show wrap64 ((i : Int) + 1) = ((i + 1 : Nat) : Int) by unfold wrap64; omega]; exact h1)
    refine Ev.step (fun k => ?_) h2
    simp only [sum_Sum.l0]
    rw [if_pos (by omega), if_pos (by omega), if_pos (by omega), hc, show ((c : Int) % 4294967296) = c by omega, bx_u32 _ _ hr (by omega)]
    rfl
def sumN (l : List Nat) : Nat := 4294967295 ^^^ crcFold 4294967295 l
theorem sumN_lt {l : List Nat} (h : ∀ c ∈ l, c < 256) : sumN l < 2 ^ 32 := Nat.xor_lt_two_pow (by decide) (crcFold_lt l (by decide) h)
theorem sum_ev (l : List Int) (hb : Bytes l) (hl : l.length < 2 ^ 48) : Ev (fun k => sum_Sum.f k l) ((sumN (nats l) : Nat) : Int) :=
  sum_l0 l hb hl l.length 0 4294967295 (by omega) (by decide)

def hashByte (h c : Nat) : Nat := ((h ^^^ c) * 16777619) % 4294967296
def bytesOf (s : ByteArray) : List Nat := s.data.toList.map UInt8.toNat
def hashFold (h : Nat) (l : List Nat) : Nat := l.foldl hashByte h
theorem hashByte_lt (h c : Nat) : hashByte h c < 4294967296 := Nat.mod_lt _ (by decide)
theorem hashFold_lt : ∀ (l : List Nat) {h : Nat}, h < 4294967296 → hashFold h l < 4294967296
  | [], _, h => h
  | c :: l, h, _ => hashFold_lt l (hashByte_lt h c)
theorem bytesOf_lt (s : ByteArray) : ∀ c ∈ bytesOf s, c < 256 := by
  intro c hc
  obtain ⟨x, _, rfl⟩ := List.mem_map.1 hc
  exact x.toNat_lt
theorem bytesOf_length (s : ByteArray) : (bytesOf s).length = s.size := by unfold bytesOf; simp
theorem bt_byte {s : ByteArray} {i : Nat} (h : i < s.size) : ∃ c : Nat, bt s (i : Int) = c ∧ c < 256 ∧ (bytesOf s).drop i = c :: (bytesOf s).drop (i + 1) := by
  have h2 : i < (bytesOf s).length := by rw [bytesOf_length]; exact h
  refine ⟨(s[i]'h).toNat, by unfold bt; simp [h], (s[i]'h).toNat_lt, ?_⟩
  rw [List.drop_eq_getElem_cons h2]
  have h3 : i < (s.data.toList.map UInt8.toNat).length := h2
  have h4 : (s.data.toList.map UInt8.toNat)[i]'h3 = (s[i]'h).toNat := by rw [List.getElem_map]; rfl
  rw [← h4]; rfl
theorem hash_cast (h c : Nat) : ((((h ^^^ c : Nat) : Int) * 16777619) % 4294967296) = ((hashByte h c : Nat) : Int) := by
  unfold hashByte; omega
theorem hash_l0 (s : ByteArray) (hs : s.size < 2 ^ 48) : ∀ (d i : Nat) (h : Nat), i + d = s.size → h < 4294967296 →
    Ev (fun k => sum_Hash.l0 k s (h : Int) (s.size : Int) (i : Int)) ((hashFold h ((bytesOf s).drop i) : Nat) : Int) := by
  intro d
  induction d with
  | zero =>
    intro i h hi hh
    have : (bytesOf s).drop i = [] := by rw [List.drop_eq_nil_iff, bytesOf_length]; omega
    rw [this]
    refine Ev.step (f := fun _ => some _) (fun k => ?_) (Ev.now _)
    simp only [sum_Hash.l0]
    rw [if_neg (by omega), w64 (by omega) (by omega)]; rfl
  | succ d ih =>
    intro i h hi hh
    obtain ⟨c, hc, hc1, hc2⟩ := bt_byte (s := s) (i := i) (by omega)
    rw [hc2]
    have h1 := ih (i + 1) (hashByte h c) (by omega) (hashByte_lt h c)
    refine Ev.step (fun k => ?_) h1
    simp only [sum_Hash.l0]
    rw [if_pos (by omega), if_pos (by omega), if_pos (by omega), hc, show ((c : Int) % 4294967296) = c by omega, bx_u32 _ _ (by omega) (by omega),
      show wrap64 ((i : Int) + 1) = ((i + 1 : Nat) : Int) by unfold wrap64; omega, hash_cast]
def hashN (l : List Nat) : Nat := hashFold 2166136261 l
theorem hashN_lt (l : List Nat) : hashN l < 4294967296 := hashFold_lt l (by decide)
theorem hash_ev (s : ByteArray) (hs : s.size < 2 ^ 48) : Ev (fun k => sum_Hash.f k s) ((hashN (bytesOf s) : Nat) : Int) :=
  hash_l0 s hs s.size 0 2166136261 (by omega) (by decide)
theorem hash_nil : ((hashN (bytesOf (⟨#[]⟩ : ByteArray)) : Nat) : Int) = 2166136261 := rfl
theorem sum_nil : ((sumN (nats []) : Nat) : Int) = 0 := by
  show (((4294967295 : Nat) ^^^ 4294967295 : Nat) : Int) = 0
  rw [Nat.xor_self]; rfl
theorem awake_ev : Ev (fun k => iceboxlaw3_awake.f k) true := by
  have h1 := sum_ev [] (by intro x hx; cases hx) (by decide)
  have h2 := hash_ev (⟨#[]⟩ : ByteArray) (by decide)
  rw [sum_nil] at h1
  rw [hash_nil] at h2
  refine Ev.congr (fun k => rfl) (Ev.bind h1 ?_)
  refine Ev.congr (f := fun k => (sum_Hash.f k (⟨#[]⟩ : ByteArray)).bind fun t103 => (some (t103 == 2166136261))) (fun k => ?_) (Ev.bind h2 ?_)
  · rw [if_pos rfl]
  · exact Ev.congr (f := fun _ => some true) (fun k => rfl) (Ev.now _)

theorem step_bit2 (r : Nat) (h : r < 2 ^ 32) : (if (Go.bits .and .u32 (r : Int) 1) > 0 then Go.bits .xor .u32 ((r : Int) / 2) 2197175160 else ((r : Int) / 2)) = (crcStep r : Nat) := by
  rw [← step_bit r h]
  have e : Go.bits .and .u32 (r : Int) 1 = ((r % 2 : Nat) : Int) := by
    have := ba_u32 r 1 h (by decide)
    rw [Nat.and_one_is_mod] at this; exact this
  rw [e]
  by_cases h2 : r % 2 = 0
  · rw [if_neg (by omega), if_pos (by omega)]
  · rw [if_pos (by omega), if_neg (by omega)]
theorem rsum_l1 (l : List Int) (i : Int) (R : Int) : ∀ {n : Nat} {r : Nat}, n ≤ 8 → r < 2 ^ 32 →
    Ev (fun k => iceboxref1_Sum.l0 k l (crcBits n r : Nat) (wrap64 (i + 1))) R → Ev (fun k => iceboxref1_Sum.l1 k l (r : Int) i (8 - n)) R := by
  intro n
  induction n with
  | zero =>
    intro r _ hr h
    refine Ev.step (f := fun k => iceboxref1_Sum.l0 k l (r : Int) (wrap64 (i + 1))) (fun k => ?_) h
    simp only [iceboxref1_Sum.l1]; rw [if_neg (by omega)]
  | succ n ih =>
    intro r hn hr h
    refine Ev.step (f := fun k => iceboxref1_Sum.l1 k l (crcStep r : Nat) i (8 - n)) (fun k => ?_) (ih (r := crcStep r) (by omega) (crcStep_lt hr) h)
    simp only [iceboxref1_Sum.l1]
    have hw : wrap64 (8 - ((n + 1 : Nat) : Int) + 1) = 8 - (n : Int) := by unfold wrap64; omega
    rw [if_pos (by omega), hw, ← step_bit2 r hr]
    split <;> rfl
theorem rsum_l0 (l : List Int) (hb : Bytes l) (hl : l.length < 2 ^ 48) : ∀ (d i : Nat) (r : Nat), i + d = l.length → r < 2 ^ 32 →
    Ev (fun k => iceboxref1_Sum.l0 k l (r : Int) (i : Int)) ((4294967295 ^^^ crcFold r ((nats l).drop i) : Nat) : Int) := by
  intro d
  induction d with
  | zero =>
    intro i r hi hr
    have : (nats l).drop i = [] := by rw [List.drop_eq_nil_iff]; unfold nats; simp; omega
    rw [this]
    refine Ev.step (f := fun _ => some _) (fun k => ?_) (Ev.now _)
    simp only [iceboxref1_Sum.l0]
    rw [if_neg (by omega), max_u32, bx_u32 _ _ (by decide) hr]
    have := Nat.xor_lt_two_pow (n := 32) (x := 4294967295) (y := r) (by decide) hr
    rw [w64 (by omega) (by omega)]; rfl
  | succ d ih =>
    intro i r hi hr
    have hlt : i < l.length := by omega
    obtain ⟨c, hc, hc1, hc2⟩ := rd_byte hlt hb
    have hdrop : (nats l).drop i = c :: (nats l).drop (i + 1) := by
      have h2 : i < (nats l).length := by unfold nats; simpa using hlt
      rw [List.drop_eq_getElem_cons h2]; rw [List.getElem?_eq_getElem h2] at hc2; injection hc2 with hc2; rw [hc2]
    rw [hdrop]
    have h1 := ih (i + 1) (crcByte r c) (by omega) (crcByte_lt hr hc1)
    have hx : r ^^^ c < 2 ^ 32 := Nat.xor_lt_two_pow hr (by omega)
    have h2 := rsum_l1 l (i : Int) (n := 8) (r := r ^^^ c) (by omega) hx (R := ((4294967295 ^^^ crcFold (crcByte r c) ((nats l).drop (i + 1)) : Nat) : Int)) (by
      rw [show wrap64 ((i : Int) + 1) = ((i + 1 : Nat) : Int) by unfold wrap64; omega]; exact h1)
    refine Ev.step (fun k => ?_) h2
    simp only [iceboxref1_Sum.l0]
    rw [if_pos (by omega), if_pos (by omega), hc, show ((c : Int) % 4294967296) = c by omega, bx_u32 _ _ hr (by omega)]
    rfl
theorem rsum_ev (l : List Int) (hb : Bytes l) (hl : l.length < 2 ^ 48) : Ev (fun k => iceboxref1_Sum.f k l) ((sumN (nats l) : Nat) : Int) :=
  rsum_l0 l hb hl l.length 0 4294967295 (by omega) (by decide)
theorem rhash_l0 (s : ByteArray) (hs : s.size < 2 ^ 48) : ∀ (d i : Nat) (h : Nat), i + d = s.size → h < 4294967296 →
    Ev (fun k => iceboxref1_Hash.l0 k s (h : Int) (i : Int)) ((hashFold h ((bytesOf s).drop i) : Nat) : Int) := by
  intro d
  induction d with
  | zero =>
    intro i h hi hh
    have : (bytesOf s).drop i = [] := by rw [List.drop_eq_nil_iff, bytesOf_length]; omega
    rw [this]
    refine Ev.step (f := fun _ => some _) (fun k => ?_) (Ev.now _)
    simp only [iceboxref1_Hash.l0]
    rw [if_neg (by omega), w64 (by omega) (by omega)]; rfl
  | succ d ih =>
    intro i h hi hh
    obtain ⟨c, hc, hc1, hc2⟩ := bt_byte (s := s) (i := i) (by omega)
    rw [hc2]
    have h1 := ih (i + 1) (hashByte h c) (by omega) (hashByte_lt h c)
    refine Ev.step (fun k => ?_) h1
    simp only [iceboxref1_Hash.l0]
    rw [if_pos (by omega), if_pos (by omega), hc, show ((c : Int) % 4294967296) = c by omega, bx_u32 _ _ (by omega) (by omega),
      show wrap64 ((i : Int) + 1) = ((i + 1 : Nat) : Int) by unfold wrap64; omega, hash_cast]
theorem rhash_ev (s : ByteArray) (hs : s.size < 2 ^ 48) : Ev (fun k => iceboxref1_Hash.f k s) ((hashN (bytesOf s) : Nat) : Int) :=
  rhash_l0 s hs s.size 0 2166136261 (by omega) (by decide)
theorem j0_ev (l : List Int) (s : ByteArray) (b : Bool) (hb : Bytes l) (hl : l.length < 2 ^ 48) (hs : s.size < 2 ^ 48) : Ev (fun k => iceboxlaw3_SumAll.j0 k l s b) true := by
  have ha : Ev (fun k => (iceboxlaw3_awake.f k).bind fun t105 => (some t105)) true := Ev.bind awake_ev (Ev.now _)
  cases b with
  | true =>
    refine Ev.step (fun k => ?_) ha
    simp only [iceboxlaw3_SumAll.j0, if_true]
  | false =>
    refine Ev.step (fun k => ?_) (Ev.bind (sum_ev l hb hl) (f := fun k t106 => ((iceboxref1_Sum.f k l).bind fun t107 => (if t106 = t107 then ((sum_Hash.f k s).bind fun t108 => ((iceboxref1_Hash.f k s).bind fun t109 => (if t108 = t109 then ((iceboxlaw3_awake.f k).bind fun t110 => (some t110)) else (some false)))) else (some false)))) (r := true) (Ev.bind (rsum_ev l hb hl) ?_))
    · simp only [iceboxlaw3_SumAll.j0]; rw [if_neg (by decide)]
    · refine Ev.congr (fun k => by rw [if_pos rfl]) (Ev.bind (hash_ev s hs) (f := fun k t108 => ((iceboxref1_Hash.f k s).bind fun t109 => (if t108 = t109 then ((iceboxlaw3_awake.f k).bind fun t110 => (some t110)) else (some false)))) (Ev.bind (rhash_ev s hs) ?_))
      exact Ev.congr (fun k => by rw [if_pos rfl]) ha
theorem SumAll : iceboxlaw3_SumAll.Pure := by
  intro l s _ hl hb hs
  apply Ev.rounds
  have hj := fun b => j0_ev l s b (bytes_wf hb) (by omega) (by omega)
  unfold iceboxlaw3_SumAll.f
  by_cases h : (l.length : Int) > 3000
  · exact Ev.congr (fun k => by rw [if_pos h]) (hj true)
  · exact Ev.congr (fun k => by rw [if_neg h]) (hj _)

end Go.Proofs.Ytkdchjbbhbfjfaa.Pure
