/- The pure statement of the law FoldAll: over the Lean functions that the Go code was shown to compute, the law answers true for every input within the statement's own bounds. No further conditions. -/
import Derived.Test.YtffnimaaolmbdaaPFoldAllx2
import Derived.Test.YtffnimaaolmbdaaPFoldAllx3
import Derived.Test.YtffnimaaolmbdaaPFoldAllx4
import Derived.Test.YtffnimaaolmbdaaPFoldAllx5
import Derived.Test.YtffnimaaolmbdaaPFoldAllx6
import Derived.Test.YtffnimaaolmbdaaPFoldAllx7
namespace Go.Proofs.Ytffnimaaolmbdaa.Pure
open Go.RowKit Go.Proofs.Ytffnimaaolmbdaa.PFoldAll Go.Proofs.YtffnimaaolmbdaaW.PrintWords Go.Proofs.YtffnimaaolmbdaaW.PrintLast Go.Proofs.YtffnimaaolmbdaaW.PrintMore
set_option linter.unusedVariables false
set_option linter.unusedSimpArgs false

theorem w64 {x : Int} (h0 : -9223372036854775808 ≤ x) (h1 : x < 9223372036854775808) : wrap64 x = x := by
  unfold wrap64; omega
theorem bits_xor_nat (k : IntKind) (j : Nat) (hj : j ≤ k.bits) (hk : ∀ n : Int, 0 ≤ n → n < 2 ^ j → k.wrap n = n) (a b : Nat) (ha : a < 2 ^ j) (hb : b < 2 ^ j) :
    Go.bits .xor k a b = ((a ^^^ b : Nat) : Int) := by
  have hp : 2 ^ j ≤ 2 ^ k.bits := Nat.pow_le_pow_right (by decide) hj
  have ha' : a % 2 ^ k.bits = a := Nat.mod_eq_of_lt (Nat.lt_of_lt_of_le ha hp)
  have hb' : b % 2 ^ k.bits = b := Nat.mod_eq_of_lt (Nat.lt_of_lt_of_le hb hp)
  simp only [Go.bits, BitVec.ofInt_natCast, BitVec.toNat_xor, BitVec.toNat_ofNat, ha', hb']
  exact hk _ (Int.natCast_nonneg _) (by exact_mod_cast Nat.xor_lt_two_pow ha hb)
theorem wr_u32 (n : Int) (h₀ : 0 ≤ n) (h₁ : n < 2 ^ 32) : IntKind.u32.wrap n = n := by rw [IntKind.wrap_u32]; omega
theorem wr_u8 (n : Int) (h₀ : 0 ≤ n) (h₁ : n < 2 ^ 8) : IntKind.u8.wrap n = n := by rw [IntKind.wrap_u8]; omega
theorem wr_i64 (n : Int) (h₀ : 0 ≤ n) (h₁ : n < 2 ^ 63) : IntKind.i64.wrap n = n := by rw [IntKind.wrap_i64]; omega
theorem wr_u64 (n : Int) : IntKind.u64.wrap n = n % 18446744073709551616 := by simp [IntKind.wrap, IntKind.bits, IntKind.signed]
theorem bx_u32 (a b : Nat) (ha : a < 2 ^ 32) (hb : b < 2 ^ 32) : Go.bits .xor .u32 a b = ((a ^^^ b : Nat) : Int) := bits_xor_nat .u32 32 (by decide) wr_u32 a b ha hb
theorem bx_u8 (a b : Nat) (ha : a < 2 ^ 8) (hb : b < 2 ^ 8) : Go.bits .xor .u8 a b = ((a ^^^ b : Nat) : Int) := bits_xor_nat .u8 8 (by decide) wr_u8 a b ha hb
theorem bx_i64 (a b : Nat) (ha : a < 2 ^ 63) (hb : b < 2 ^ 63) : Go.bits .xor .i64 a b = ((a ^^^ b : Nat) : Int) := bits_xor_nat .i64 63 (by decide) wr_i64 a b ha hb
theorem bo_i64 (a b : Nat) (ha : a < 2 ^ 63) (hb : b < 2 ^ 63) : Go.bits .or .i64 a b = ((a ||| b : Nat) : Int) := (bits_nat .i64 63 (by decide) wr_i64 a b ha hb).2
theorem bo_u8 (a b : Nat) (ha : a < 2 ^ 8) (hb : b < 2 ^ 8) : Go.bits .or .u8 a b = ((a ||| b : Nat) : Int) := (bits_nat .u8 8 (by decide) wr_u8 a b ha hb).2
theorem ba_u8 (a b : Nat) (ha : a < 2 ^ 8) (hb : b < 2 ^ 8) : Go.bits .and .u8 a b = ((a &&& b : Nat) : Int) := (bits_nat .u8 8 (by decide) wr_u8 a b ha hb).1
theorem ba_u32 (a b : Nat) (ha : a < 2 ^ 32) (hb : b < 2 ^ 32) : Go.bits .and .u32 a b = ((a &&& b : Nat) : Int) := (bits_nat .u32 32 (by decide) wr_u32 a b ha hb).1
theorem max_u32 : IntKind.u32.max = ((4294967295 : Nat) : Int) := by decide
theorem wf_u8 {x : Int} (h : (Lit.int .u8 x).wf = true) : 0 ≤ x ∧ x < 256 := by
  simp [Lit.wf, IntKind.min, IntKind.max, IntKind.signed, IntKind.bits] at h; omega
theorem wf_u16 {x : Int} (h : (Lit.int .u16 x).wf = true) : 0 ≤ x ∧ x < 65536 := by
  simp [Lit.wf, IntKind.min, IntKind.max, IntKind.signed, IntKind.bits] at h; omega
theorem wf_u32 {x : Int} (h : (Lit.int .u32 x).wf = true) : 0 ≤ x ∧ x < 4294967296 := by
  simp [Lit.wf, IntKind.min, IntKind.max, IntKind.signed, IntKind.bits] at h; omega
theorem wf_u64 {x : Int} (h : (Lit.int .u64 x).wf = true) : 0 ≤ x ∧ x < 18446744073709551616 := by
  simp [Lit.wf, IntKind.min, IntKind.max, IntKind.signed, IntKind.bits] at h; omega
theorem wf_i64 {x : Int} (h : (Lit.int .i64 x).wf = true) : -9223372036854775808 ≤ x ∧ x < 9223372036854775808 := by
  simp [Lit.wf, IntKind.min, IntKind.max, IntKind.signed, IntKind.bits] at h; omega

/-! ### fold: what the readers of a fold come to -/
theorem rd66_get (l : List S66) (i : Nat) (h : i < l.length) : rd_T66 l (i : Int) = l[i] := by
  unfold rd_T66
  rw [Int.toNat_natCast, List.getD_eq_getElem?_getD, List.getElem?_eq_getElem h]; rfl
theorem rd70_get (l : List S70) (i : Nat) (h : i < l.length) : rd_T70 l (i : Int) = l[i] := by
  unfold rd_T70
  rw [Int.toNat_natCast, List.getD_eq_getElem?_getD, List.getElem?_eq_getElem h]; rfl
theorem rd72_get (l : List S72) (i : Nat) (h : i < l.length) : rd_T72 l (i : Int) = l[i] := by
  unfold rd_T72
  rw [Int.toNat_natCast, List.getD_eq_getElem?_getD, List.getElem?_eq_getElem h]; rfl
theorem wsucc {i : Nat} (h : i < 4398046511104) : wrap64 ((i : Int) + 1) = ((i + 1 : Nat) : Int) := by rw [w64 (by omega) (by omega)]; omega
theorem fold_ev (h : List S70) (n : Int) (hk : Fold_ok h = true) : Ev (fun k => fold_Fold.f k h n) (Fold_all h n) :=
  Ev.congr (f := fun _ => some (Fold_all h n)) (fun k => by unfold fold_Fold.f; rw [if_pos hk]) (Ev.now _)
theorem ab_ev : (⟨#[98]⟩ : ByteArray).toList = [98] := by rw [Go.ByteArray.toList_eq]
theorem awake24_ev : Ev iceboxlaw24_awake.f true := by
  refine Ev.congr (f := fun _ => some true) (fun k => ?_) (Ev.now _)
  unfold iceboxlaw24_awake.f fold_Fold.f
  rw [if_pos (by decide), if_pos (by decide), Option.bind_some, Option.bind_some]
  have e0 : Fold_all [] 3 = [] := rfl
  have e : Fold_all [⟨1, [⟨1, ⟨#[97]⟩, ⟨#[98]⟩⟩]⟩] 1 = [⟨⟨#[97]⟩, ⟨#[98]⟩⟩] := rfl
  rw [e0, e, if_pos (by decide), if_pos (by decide), if_pos (by decide)]
  show some ((⟨#[98]⟩ : ByteArray).toList == [98]) = some true
  rw [ab_ev]; rfl
theorem pairs_l0 (L : List S66) (hl : L.length ≤ 4000000) : ∀ (d i : Nat), i + d = L.length → Ev (fun k => iceboxref1_Pairs.l0 k L L (i : Int)) true
  | 0, i, hd => by
    refine Ev.step (f := fun _ => some true) (fun k => ?_) (Ev.now _)
    rw [iceboxref1_Pairs.l0, if_neg (by omega)]
  | d + 1, i, hd => by
    have ih := pairs_l0 L hl d (i + 1) (by omega)
    refine Ev.step (fun k => ?_) ih
    rw [iceboxref1_Pairs.l0, if_pos (by omega), if_pos (by omega), if_pos (by omega), wsucc (by omega)]
    simp only [beq_self_eq_true, Bool.not_true, Bool.or_self]
    rw [if_neg Bool.false_ne_true]
theorem pairs_ev (L : List S66) (hl : L.length ≤ 4000000) : Ev (fun k => iceboxref1_Pairs.f k L L) true := by
  unfold iceboxref1_Pairs.f
  exact Ev.congr (fun k => by rw [if_pos rfl]; rfl) (pairs_l0 L hl L.length 0 (by omega))
theorem put_len (k v : ByteArray) : ∀ M : List S66, (Fold_put k v M).length ≤ M.length + 1
  | [] => Nat.le_refl _
  | y :: t => by
    rw [Fold_put]
    have := put_len k v t
    split
    · simp
    · split
      · simp only [List.length_cons]; omega
      · simp
theorem step_len (M : List S66) (o : S72) : (Fold_step M o).length ≤ M.length + 1 := by
  unfold Fold_step
  split
  · exact put_len _ _ _
  · split
    · unfold Fold_del; have := List.length_filter_le (fun y : S66 => y.f0.toList != o.f1.toList) M; omega
    · omega
theorem ops_len : ∀ (l : List S72) (M : List S66), (Fold_ops M l).length ≤ M.length + l.length
  | [], M => Nat.le_refl _
  | o :: l, M => by
    have h1 := ops_len l (Fold_step M o)
    have h2 := step_len M o
    show (Fold_ops (Fold_step M o) l).length ≤ _
    rw [List.length_cons]; omega
theorem all_len' : ∀ (h : List S70) (M : List S66), (∀ b ∈ h, b.f1.length ≤ 1000) → (h.foldl (fun M b => Fold_ops M b.f1) M).length ≤ M.length + h.length * 1000
  | [], M, _ => by simp
  | b :: h, M, hb => by
    have h1 := all_len' h (Fold_ops M b.f1) (fun x hx => hb x (List.mem_cons_of_mem _ hx))
    have h2 := ops_len b.f1 M
    have h3 := hb b (List.mem_cons_self ..)
    rw [List.foldl_cons, List.length_cons]; omega
theorem ok_parts {h : List S70} (hk : Fold_ok h = true) : h.length ≤ 1000 ∧ ∀ b ∈ h, b.f1.length ≤ 1000 := by
  unfold Fold_ok at hk
  simp only [Bool.and_eq_true, List.all_eq_true, decide_eq_true_eq] at hk
  exact ⟨hk.1, fun b hb => (hk.2 b hb).1⟩
theorem all_len (h : List S70) (n : Int) (hk : Fold_ok h = true) : (Fold_all h n).length ≤ 1000000 := by
  obtain ⟨h1, h2⟩ := ok_parts hk
  have := all_len' (h.take n.toNat) [] (fun b hb => h2 b (List.mem_of_mem_take hb))
  unfold Fold_all
  have e := List.length_take_le' n.toNat h
  simp only [List.length_nil] at this
  omega
theorem ops_sp : ∀ (l : List S72) (M : List S66), SP M → SP (Fold_ops M l)
  | [], _, h => h
  | o :: l, M, h => ops_sp l (Fold_step M o) (step_sp M o h)
theorem all_sp' : ∀ (h : List S70) (M : List S66), SP M → SP (h.foldl (fun M b => Fold_ops M b.f1) M)
  | [], _, h => h
  | b :: h, M, hM => all_sp' h (Fold_ops M b.f1) (ops_sp _ _ hM)
theorem all_sp (h : List S70) (n : Int) : SP (Fold_all h n) := all_sp' _ _ List.Pairwise.nil

/-! ### Get -/
def getP (L : List S66) (s : ByteArray) : ByteArray × Bool := (Fold_at L s).elim (⟨#[]⟩, false) fun p => (p.f1, true)
theorem getP_cons (y : S66) (t : List S66) (s : ByteArray) : getP (y :: t) s = if y.f0.toList = s.toList then (y.f1, true) else getP t s := by
  unfold getP
  rw [at_head]
  by_cases c : y.f0.toList = s.toList
  · rw [if_pos (beq_iff_eq.2 c), if_pos c]; rfl
  · rw [if_neg (fun h => c (beq_iff_eq.1 h)), if_neg c]
theorem get_l0 (L : List S66) (s : ByteArray) (hl : L.length ≤ 4000000) : ∀ (d i : Nat), i + d = L.length → Ev (fun k => fold_Get.l0 k s L (L.length : Int) (i : Int)) (getP (L.drop i) s)
  | 0, i, hd => by
    refine Ev.step (f := fun _ => some _) (fun k => ?_) (Ev.now _)
    rw [fold_Get.l0, if_neg (by omega), List.drop_of_length_le (by omega)]; rfl
  | d + 1, i, hd => by
    have hi : i < L.length := by omega
    have ih := get_l0 L s hl d (i + 1) (by omega)
    rw [List.drop_eq_getElem_cons hi, getP_cons]
    by_cases c : L[i].f0.toList = s.toList
    · rw [if_pos c]
      refine Ev.step (f := fun _ => some _) (fun k => ?_) (Ev.now _)
      rw [fold_Get.l0, if_pos (by omega), if_pos (by omega), if_pos (by omega), rd66_get L i hi, if_pos c]
    · rw [if_neg c]
      refine Ev.step (fun k => ?_) ih
      rw [fold_Get.l0, if_pos (by omega), if_pos (by omega), if_pos (by omega), rd66_get L i hi, if_neg c, wsucc (by omega)]
theorem get_ev (L : List S66) (s : ByteArray) (hl : L.length ≤ 4000000) : Ev (fun k => fold_Get.f k L s) (getP L s) := get_l0 L s hl L.length 0 (by omega)

/-! ### Scan -/
def inScan (lo hi : ByteArray) (p : S66) : Bool := !(Op.bytesLess p.f0.toList lo.toList) && (decide (hi.toList = []) || Op.bytesLess p.f0.toList hi.toList)
def someP (back : Bool) (most : Int) (l : List S66) : List S66 := (if back = true then l.reverse else l).take (max 0 (min most (l.length : Int))).toNat
def scanP (L : List S66) (lo hi : ByteArray) (back : Bool) (most : Int) : List S66 := someP back most (L.filter (inScan lo hi))
theorem mx_is (a b : Int) : mx a b = max a b := by unfold mx; omega
theorem mn_is (a b : Int) : mn a b = min a b := by unfold mn; omega
theorem S66_eta (x : S66) : (⟨x.f0, x.f1⟩ : S66) = x := rfl
theorem rev_l0 (L : List S66) (hl : L.length ≤ 4000000) : ∀ (d i : Nat) (x : List S66), L.length = 2 * i + d → x.length = L.length → (∀ j, (hj : j < L.length) → x[j]? = if j < i ∨ L.length - 1 - j < i then L[L.length - 1 - j]? else L[j]?) →
    Ev (fun k => api_Pair_85.l0 k x (i : Int) ((L.length : Int) - 1 - i)) L.reverse := by
  intro d
  induction d using Nat.strongRecOn with
  | _ d ih =>
    intro i x hd hx he
    by_cases c : 2 ≤ d
    · have ew : wrap64 ((i : Int) + 1) = ((i + 1 : Nat) : Int) := wsucc (by omega)
      have ew2 : wrap64 ((L.length : Int) - 1 - i - 1) = (L.length : Int) - 1 - ((i + 1 : Nat) : Int) := by rw [w64 (by omega) (by omega)]; omega
      obtain ⟨j, ej⟩ : ∃ j : Nat, (L.length : Int) - 1 - i = (j : Int) := ⟨L.length - 1 - i, by omega⟩
      have hj : j < L.length := by omega
      have hi : i < L.length := by omega
      have hij : i < j := by omega
      have h2 := ih (d - 2) (by omega) (i + 1) ((x.set i (rd_T66 x (j : Int))).set j (rd_T66 x (i : Int))) (by omega) (by simp [hx]) (fun m hm => by
        have gj := rd66_get x j (by omega)
        have gi := rd66_get x i (by omega)
        have qj := he j hj
        have qi := he i hi
        rw [if_neg (by omega), List.getElem?_eq_getElem (by omega), List.getElem?_eq_getElem hj] at qj
        rw [if_neg (by omega), List.getElem?_eq_getElem (by omega), List.getElem?_eq_getElem hi] at qi
        rw [gj, gi, List.getElem?_set, List.getElem?_set]
        by_cases m1 : j = m
        · subst m1
          rw [if_pos rfl, if_pos (by simp [hx]; omega), if_pos (by omega), qi, show L.length - 1 - j = i by omega, List.getElem?_eq_getElem hi]
        · rw [if_neg m1]
          by_cases m2 : i = m
          · subst m2
            rw [if_pos rfl, if_pos (by omega), if_pos (by omega), qj, show L.length - 1 - i = j by omega, List.getElem?_eq_getElem hj]
          · rw [if_neg m2, he m hm]
            by_cases m3 : m < i ∨ L.length - 1 - m < i
            · rw [if_pos m3, if_pos (by omega)]
            · rw [if_neg m3, if_neg (by omega)])
      rw [← ew2, ej] at h2
      rw [ej]
      refine Ev.step (fun k => ?_) h2
      rw [api_Pair_85.l0, if_pos (by omega), if_pos (by omega), if_pos (by omega), if_pos (by omega), if_pos (by omega), ew, Int.toNat_natCast, Int.toNat_natCast]
    · refine Ev.step (f := fun _ => some _) (fun k => ?_) (Ev.now _)
      rw [api_Pair_85.l0, if_neg (by omega)]
      congr 1
      refine List.ext_getElem? fun m => ?_
      rcases Nat.lt_or_ge m L.length with hm | hm
      · rw [he m hm, List.getElem?_reverse hm]
        by_cases m3 : m < i ∨ L.length - 1 - m < i
        · rw [if_pos m3]
        · rw [if_neg m3, show L.length - 1 - m = m by omega]
      · rw [List.getElem?_eq_none (by omega), List.getElem?_eq_none (by simp; omega)]
theorem rev_ev (L : List S66) (hl : L.length ≤ 4000000) : Ev (fun k => api_Pair_85.f k L) L.reverse := by
  have h := rev_l0 L hl L.length 0 L (by omega) rfl (fun j hj => by rw [if_neg (by omega)])
  unfold api_Pair_85.f
  have e : wrap64 ((L.length : Int) - 1) = (L.length : Int) - 1 - ((0 : Nat) : Int) := by rw [w64 (by omega) (by omega)]; omega
  rw [e]; exact h
theorem clone_is (l : List S66) (hl : l.length ≤ 4000000) : api_Pair_86.f l = some l := by
  unfold api_Pair_86.f
  rw [Option.bind_some, if_pos (by simp; omega), List.nil_append]
theorem scan_end (L acc : List S66) (lo hi : ByteArray) (back : Bool) (most : Int) (hl : acc.length ≤ 4000000) (n : Nat) (hn : L.length ≤ n) : Ev (fun k => fold_Scan.l0 k lo hi back most acc L (L.length : Int) (n : Int)) (someP back most acc) := by
  have h0 : 0 ≤ mx 0 (mn most (acc.length : Int)) := by rw [mx_is]; omega
  have h1 : mx 0 (mn most (acc.length : Int)) ≤ (acc.length : Int) := by rw [mx_is, mn_is]; omega
  unfold someP
  rw [← mx_is, ← mn_is] at *
  cases back with
  | true =>
    rw [if_pos rfl]
    refine Ev.step (fun k => by rw [fold_Scan.l0, if_neg (by omega), if_pos rfl]) (Ev.bind (rev_ev acc hl) (f := fun k t259 => _) ?_)
    refine Ev.congr (f := fun _ => some _) (fun k => ?_) (Ev.now _)
    rw [if_pos h0, if_pos h1, clone_is _ (by rw [List.length_take]; simp; omega)]
    rfl
  | false =>
    rw [if_neg Bool.false_ne_true]
    refine Ev.step (f := fun _ => some _) (fun k => ?_) (Ev.now _)
    rw [fold_Scan.l0, if_neg (by omega), if_neg Bool.false_ne_true, if_pos h0, if_pos h1, clone_is _ (by rw [List.length_take]; omega)]
    rfl
theorem scan_l0 (L : List S66) (lo hi : ByteArray) (back : Bool) (most : Int) (hl : L.length ≤ 1000000) : ∀ (d i : Nat) (acc : List S66), i + d = L.length → acc.length ≤ i → Ev (fun k => fold_Scan.l0 k lo hi back most acc L (L.length : Int) (i : Int)) (someP back most (acc ++ (L.drop i).filter (inScan lo hi)))
  | 0, i, acc, hd, ha => by
    rw [List.drop_of_length_le (by omega), List.filter_nil, List.append_nil]
    exact scan_end L acc lo hi back most (by omega) i (by omega)
  | d + 1, i, acc, hd, ha => by
    have hi' : i < L.length := by omega
    rw [List.drop_eq_getElem_cons hi', List.filter_cons]
    by_cases c : inScan lo hi L[i] = true
    · rw [if_pos c]
      have ih := scan_l0 L lo hi back most hl d (i + 1) (acc ++ [L[i]]) (by omega) (by rw [List.length_append, List.length_singleton]; omega)
      rw [List.append_assoc, List.singleton_append] at ih
      unfold inScan at c
      simp only [Bool.and_eq_true, Bool.not_eq_true', Bool.or_eq_true, decide_eq_true_eq] at c
      obtain ⟨c1, c2⟩ := c
      refine Ev.step (fun k => ?_) ih
      rw [fold_Scan.l0, if_pos (by omega), if_pos (by omega), if_pos (by omega), rd66_get L i hi', if_neg (by rw [c1]; exact Bool.false_ne_true), S66_eta, wsucc (by omega)]
      by_cases c3 : hi.toList = []
      · rw [if_pos c3, if_pos (by omega)]
      · rw [if_neg c3, if_pos (c2.resolve_left c3), if_pos (by omega)]
    · rw [if_neg c]
      have ih := scan_l0 L lo hi back most hl d (i + 1) acc (by omega) (by omega)
      refine Ev.step (fun k => ?_) ih
      rw [fold_Scan.l0, if_pos (by omega), if_pos (by omega), if_pos (by omega), rd66_get L i hi', wsucc (by omega)]
      by_cases c1 : Op.bytesLess L[i].f0.toList lo.toList = true
      · rw [if_pos c1]
      · rw [if_neg c1]
        have c2 : ¬ (hi.toList = [] ∨ Op.bytesLess L[i].f0.toList hi.toList = true) := by
          intro h
          refine c ?_
          unfold inScan
          simp only [Bool.and_eq_true, Bool.not_eq_true', Bool.or_eq_true, decide_eq_true_eq]
          exact ⟨Bool.eq_false_iff.2 c1, h⟩
        rw [if_neg (fun h => c2 (Or.inl h)), if_neg (fun h => c2 (Or.inr h))]
theorem scan_ev (L : List S66) (lo hi : ByteArray) (back : Bool) (most : Int) (hl : L.length ≤ 1000000) : Ev (fun k => fold_Scan.f k L lo hi back most) (scanP L lo hi back most) :=
  scan_l0 L lo hi back most hl L.length 0 [] (by omega) (Nat.le_refl _)

/-! ### Great: more than a statement goes through? -/
theorem great_no (l : List S72) (i : Nat) (h : ¬ ((i : Int) < (l.length : Int) ∧ (i : Int) < 80)) : Ev (fun k => iceboxlaw8_Great.l0 k l (i : Int)) (decide ((l.length : Int) > 60)) := by
  refine Ev.step (f := fun k => iceboxlaw8_Great.j1 k l (i : Int) false) (fun k => ?_) (Ev.step (f := fun _ => some (decide ((l.length : Int) > 60))) (fun k => by rw [iceboxlaw8_Great.j1, if_neg Bool.false_ne_true]) (Ev.now _))
  by_cases p2 : (i : Int) < (l.length : Int)
  · rw [iceboxlaw8_Great.l0, if_pos p2, decide_eq_false (fun c => h ⟨p2, c⟩)]
  · rw [iceboxlaw8_Great.l0, if_neg p2]
theorem great_at (l : List S72) : ∀ (d i : Nat), i + d = 80 → (Ev (fun k => iceboxlaw8_Great.l0 k l (i : Int)) true) ∨ (Ev (fun k => iceboxlaw8_Great.l0 k l (i : Int)) false ∧ l.length ≤ 60 ∧ ∀ j : Nat, i ≤ j → j < l.length → (rd_T72 l (j : Int)).f1.size ≤ 1000 ∧ (rd_T72 l (j : Int)).f2.size ≤ 1000)
  | 0, i, hd => by
    have h := great_no l i (by omega)
    by_cases c : (l.length : Int) > 60
    · rw [decide_eq_true c] at h; exact Or.inl h
    · rw [decide_eq_false c] at h; exact Or.inr ⟨h, by omega, fun j h1 h2 => by omega⟩
  | d + 1, i, hd => by
    by_cases p2 : (i : Int) < (l.length : Int)
    case neg =>
      have h := great_no l i (fun h => p2 h.1)
      by_cases c : (l.length : Int) > 60
      · rw [decide_eq_true c] at h; exact Or.inl h
      · rw [decide_eq_false c] at h; exact Or.inr ⟨h, by omega, fun j h1 h2 => by omega⟩
    have q1 : i + 1 + d = 80 := by omega
    have p1 : (0 : Int) ≤ (i : Int) := by omega
    have c : (i : Int) < 80 := by omega
    have e2 : wrap64 ((i : Int) + 1) = ((i + 1 : Nat) : Int) := by rw [w64 (by omega) (by omega)]; omega
    have hb := great_at l d (i + 1) q1
    by_cases c1 : ((rd_T72 l (i : Int)).f1.size : Int) > 1000
    · refine Or.inl (Ev.step (f := fun k => iceboxlaw8_Great.j1 k l (i : Int) true) (fun k => by rw [iceboxlaw8_Great.l0, if_pos p2, decide_eq_true c]) (Ev.step (f := fun _ => some true) (fun k => ?_) (Ev.now _)))
      rw [iceboxlaw8_Great.j1, if_pos rfl, if_pos p1, if_pos p2, if_pos c1]
    · by_cases c2 : ((rd_T72 l (i : Int)).f2.size : Int) > 1000
      · refine Or.inl (Ev.step (f := fun k => iceboxlaw8_Great.j1 k l (i : Int) true) (fun k => by rw [iceboxlaw8_Great.l0, if_pos p2, decide_eq_true c]) (Ev.step (f := fun _ => some true) (fun k => ?_) (Ev.now _)))
        rw [iceboxlaw8_Great.j1, if_pos rfl, if_pos p1, if_pos p2, if_neg c1, if_pos c2]
      · have st : ∀ b, Ev (fun k => iceboxlaw8_Great.l0 k l ((i + 1 : Nat) : Int)) b → Ev (fun k => iceboxlaw8_Great.l0 k l (i : Int)) b := by
          intro b hb
          refine Ev.step (f := fun k => iceboxlaw8_Great.j1 k l (i : Int) true) (fun k => by rw [iceboxlaw8_Great.l0, if_pos p2, decide_eq_true c]) (Ev.step (fun k => ?_) hb)
          rw [iceboxlaw8_Great.j1, if_pos rfl, if_pos p1, if_pos p2, if_neg c1, if_neg c2, e2]
        rcases hb with hb | ⟨hb, h1, h2⟩
        · exact Or.inl (st _ hb)
        · refine Or.inr ⟨st _ hb, h1, fun j g1 g2 => ?_⟩
          rcases Nat.eq_or_lt_of_le g1 with e | e
          · subst e; omega
          · exact h2 j e g2
theorem great27 (l : List S72) : (Ev (fun k => iceboxlaw8_Great.f k l) true) ∨ (Ev (fun k => iceboxlaw8_Great.f k l) false ∧ l.length ≤ 60 ∧ ∀ x ∈ l, x.f1.size ≤ 1000 ∧ x.f2.size ≤ 1000) := by
  rcases great_at l 80 0 (by omega) with h | ⟨h, h1, h2⟩
  · exact Or.inl h
  · refine Or.inr ⟨h, h1, fun x hx => ?_⟩
    obtain ⟨i, hi, rfl⟩ := List.getElem_of_mem hx
    have := h2 i (Nat.zero_le _) hi
    rw [rd72_get l i hi] at this
    exact this

/-! ### the document's fold -/
theorem filter_gt (k : ByteArray) (y : S66) (t : List S66) (h : SP (y :: t)) (hk : Op.bytesLess y.f0.toList k.toList = false) : t.filter (fun x => x.f0.toList != k.toList) = t := by
  have a := List.pairwise_cons.1 h
  rw [List.filter_eq_self]
  intro z hz
  rw [bne_iff_ne]
  intro e
  have h1 := a.1 z hz
  unfold plt at h1
  rw [e, hk] at h1; cases h1
theorem step_in (M : List S66) (hM : M.length ≤ 1000000) (a : Int) (key v : ByteArray) : ∀ (d i : Nat) (acc : List S66), i + d = M.length → acc.length ≤ i + 1 → Ev (fun k => iceboxref17_step.l0 k M acc true (i : Int) a key v) (acc ++ (M.drop i).filter fun x => x.f0.toList != key.toList)
  | 0, i, acc, hd, ha => by
    rw [List.drop_of_length_le (by omega), List.filter_nil, List.append_nil]
    refine Ev.step (f := fun _ => some _) (fun k => ?_) (Ev.now _)
    rw [iceboxref17_step.l0, if_neg (by omega), if_pos rfl]
  | d + 1, i, acc, hd, ha => by
    have hi : i < M.length := by omega
    rw [List.drop_eq_getElem_cons hi, List.filter_cons]
    by_cases c : M[i].f0.toList = key.toList
    · rw [if_neg (by rw [c]; simp)]
      have ih := step_in M hM a key v d (i + 1) acc (by omega) (by omega)
      refine Ev.step (f := fun k => iceboxref17_step.j2 k M acc true (i : Int) false a key v) (fun k => by rw [iceboxref17_step.l0, if_pos (by omega), if_pos rfl]) (Ev.step (fun k => ?_) ih)
      rw [iceboxref17_step.j2, if_neg Bool.false_ne_true, if_pos (by omega), if_pos (by omega), rd66_get M i hi, if_pos c, wsucc (by omega)]
    · rw [if_pos (by simpa using c)]
      have ih := step_in M hM a key v d (i + 1) (acc ++ [M[i]]) (by omega) (by rw [List.length_append, List.length_singleton]; omega)
      rw [List.append_assoc, List.singleton_append] at ih
      refine Ev.step (f := fun k => iceboxref17_step.j2 k M acc true (i : Int) false a key v) (fun k => by rw [iceboxref17_step.l0, if_pos (by omega), if_pos rfl]) (Ev.step (fun k => ?_) ih)
      rw [iceboxref17_step.j2, if_neg Bool.false_ne_true, if_pos (by omega), if_pos (by omega), rd66_get M i hi, if_neg c, if_pos (by omega), S66_eta, wsucc (by omega)]
theorem step_put (M : List S66) (hM : M.length ≤ 1000000) (hs : SP M) (a : Int) (key v : ByteArray) : ∀ (d i : Nat) (acc : List S66), i + d = M.length → acc.length ≤ i → Ev (fun k => iceboxref17_step.l0 k M acc false (i : Int) a key v) (acc ++ Fold_put key v (M.drop i))
  | 0, i, acc, hd, ha => by
    rw [List.drop_of_length_le (by omega)]
    refine Ev.step (f := fun _ => some _) (fun k => ?_) (Ev.now _)
    rw [iceboxref17_step.l0, if_neg (by omega), if_neg Bool.false_ne_true, if_pos (by omega)]
    rfl
  | d + 1, i, acc, hd, ha => by
    have hi : i < M.length := by omega
    have hsd : SP (M.drop i) := hs.drop
    rw [List.drop_eq_getElem_cons hi] at hsd ⊢
    rw [Fold_put]
    by_cases c : Op.bytesLess M[i].f0.toList key.toList = true
    · have c2 : Op.bytesLess key.toList M[i].f0.toList ≠ true := by
        intro h
        have := fl_trans _ _ _ c h
        rw [bl_irrefl] at this; cases this
      have c3 : M[i].f0.toList ≠ key.toList := by
        intro h
        rw [h, bl_irrefl] at c; cases c
      rw [if_neg c2, if_pos c]
      have ih := step_put M hM hs a key v d (i + 1) (acc ++ [M[i]]) (by omega) (by rw [List.length_append, List.length_singleton]; omega)
      rw [List.append_assoc, List.singleton_append] at ih
      refine Ev.step (f := fun k => iceboxref17_step.j2 k M acc false (i : Int) false a key v) (fun k => by rw [iceboxref17_step.l0, if_pos (by omega), if_neg Bool.false_ne_true, if_pos (by omega), rd66_get M i hi, c]; rfl) (Ev.step (fun k => ?_) ih)
      rw [iceboxref17_step.j2, if_neg Bool.false_ne_true, if_pos (by omega), if_pos (by omega), rd66_get M i hi, if_neg c3, if_pos (by omega), S66_eta, wsucc (by omega)]
    · have c0 : Op.bytesLess M[i].f0.toList key.toList = false := Bool.eq_false_iff.2 c
      have hf := filter_gt key M[i] (M.drop (i + 1)) hsd c0
      have e0 : ∀ k, iceboxref17_step.l0 (k + 1) M acc false (i : Int) a key v = iceboxref17_step.j2 k M acc false (i : Int) true a key v := fun k => by
        rw [iceboxref17_step.l0, if_pos (by omega), if_neg Bool.false_ne_true, if_pos (by omega), rd66_get M i hi, c0]; rfl
      by_cases c2 : Op.bytesLess key.toList M[i].f0.toList = true
      · have c3 : M[i].f0.toList ≠ key.toList := by
          intro h
          rw [h, bl_irrefl] at c2; cases c2
        rw [if_pos c2]
        have ih := step_in M hM a key v d (i + 1) (acc ++ [⟨key, v⟩] ++ [M[i]]) (by omega) (by simp only [List.length_append, List.length_singleton]; omega)
        have e9 : acc ++ [⟨key, v⟩] ++ [M[i]] ++ M.drop (i + 1) = acc ++ ⟨key, v⟩ :: M[i] :: M.drop (i + 1) := by simp
        rw [hf, e9] at ih
        refine Ev.step e0 (Ev.step (fun k => ?_) ih)
        rw [iceboxref17_step.j2, if_pos rfl, if_pos (by omega), Option.bind_some, if_pos (by omega), if_pos (by omega), rd66_get M i hi, if_neg c3, if_pos (by simp; omega), S66_eta, wsucc (by omega)]
      · have c3 : M[i].f0.toList = key.toList := fl_eq c0 (Bool.eq_false_iff.2 c2)
        rw [if_neg c2, if_neg c]
        have ih := step_in M hM a key v d (i + 1) (acc ++ [⟨key, v⟩]) (by omega) (by simp only [List.length_append, List.length_singleton]; omega)
        rw [hf, List.append_assoc, List.singleton_append] at ih
        refine Ev.step e0 (Ev.step (fun k => ?_) ih)
        rw [iceboxref17_step.j2, if_pos rfl, if_pos (by omega), Option.bind_some, if_pos (by omega), if_pos (by omega), rd66_get M i hi, if_pos c3, wsucc (by omega)]
theorem step_ev (M : List S66) (hM : M.length ≤ 1000000) (hs : SP M) (o : S72) : Ev (fun k => iceboxref17_step.f k M o.f0 o.f1 o.f2) (Fold_step M o) := by
  unfold Fold_step
  by_cases c : o.f0 = 1
  · rw [if_pos c]
    have h := step_put M hM hs o.f0 o.f1 o.f2 M.length 0 [] (by omega) (by simp)
    refine Ev.congr (fun k => by rw [iceboxref17_step.f, if_pos c]) (Ev.step (fun k => ?_) h)
    rw [iceboxref17_step.j0, if_neg Bool.false_ne_true, c]; rfl
  · rw [if_neg c]
    by_cases d : o.f0 = 2
    · rw [if_pos d]
      have h := step_in M hM o.f0 o.f1 o.f2 M.length 0 [] (by omega) (by simp)
      refine Ev.congr (fun k => by rw [iceboxref17_step.f, if_neg c]) (Ev.step (fun k => ?_) h)
      rw [iceboxref17_step.j0, d, if_neg (by decide)]; rfl
    · rw [if_neg d]
      refine Ev.congr (fun k => by rw [iceboxref17_step.f, if_neg c]) (Ev.step (f := fun _ => some M) (fun k => ?_) (Ev.now _))
      rw [iceboxref17_step.j0, if_pos (by simpa using d)]
theorem rf_l1 (h : List S70) (n : Int) (i : Nat) (hi : i < h.length) (hh : h.length ≤ 1000) (hb : (h[i]).f1.length ≤ 1000) (R : List S66) : ∀ (d j : Nat) (M : List S66), j + d = (h[i]).f1.length → SP M → M.length ≤ i * 1000 + j →
    Ev (fun k => iceboxref17_Fold.l0 k h n (Fold_ops M ((h[i]).f1.drop j)) ((i + 1 : Nat) : Int)) R → Ev (fun k => iceboxref17_Fold.l1 k h n M (i : Int) (j : Int)) R
  | 0, j, M, hd, hs, hM, hE => by
    rw [List.drop_of_length_le (by omega)] at hE
    refine Ev.step (fun k => ?_) hE
    rw [iceboxref17_Fold.l1, if_pos (by omega), if_pos (by omega), rd70_get h i hi, if_neg (by omega), wsucc (by omega)]; rfl
  | d + 1, j, M, hd, hs, hM, hE => by
    have hj : j < (h[i]).f1.length := by omega
    have hl := step_len M (h[i]).f1[j]
    rw [List.drop_eq_getElem_cons hj] at hE
    have ih := rf_l1 h n i hi hh hb R d (j + 1) (Fold_step M (h[i]).f1[j]) (by omega) (step_sp _ _ hs) (by omega) hE
    refine Ev.step (fun k => by rw [iceboxref17_Fold.l1, if_pos (by omega), if_pos (by omega), rd70_get h i hi, if_pos (by omega), if_pos (by omega), rd72_get _ j hj, wsucc (by omega)]) (Ev.bind (step_ev M (by omega) hs (h[i]).f1[j]) (f := fun k t299 => iceboxref17_Fold.l1 k h n t299 (i : Int) ((j + 1 : Nat) : Int)) ih)
theorem rf_l0 (h : List S70) (n : Int) (hh : h.length ≤ 1000) (hb : ∀ b ∈ h, b.f1.length ≤ 1000) : ∀ (d i : Nat) (M : List S66), i + d = (h.take n.toNat).length → SP M → M.length ≤ i * 1000 → Ev (fun k => iceboxref17_Fold.l0 k h n M (i : Int)) (((h.take n.toNat).drop i).foldl (fun M b => Fold_ops M b.f1) M)
  | 0, i, M, hd, hs, hM => by
    rw [List.drop_of_length_le (by omega)]
    rw [List.length_take] at hd
    refine Ev.step (f := fun k => iceboxref17_Fold.j1 k h n M (i : Int) false) (fun k => ?_) (Ev.step (f := fun _ => some M) (fun k => by rw [iceboxref17_Fold.j1, if_neg Bool.false_ne_true]) (Ev.now _))
    rw [iceboxref17_Fold.l0]
    by_cases c : (i : Int) < (h.length : Int)
    · rw [if_pos c, decide_eq_false (by omega)]
    · rw [if_neg c]
  | d + 1, i, M, hd, hs, hM => by
    have hi2 : i < (h.take n.toNat).length := by omega
    rw [List.length_take] at hd
    have hi : i < h.length := by omega
    rw [List.drop_eq_getElem_cons hi2, List.foldl_cons, List.getElem_take]
    have hbi := hb _ (List.getElem_mem hi)
    have hol := ops_len (h[i]).f1 M
    have ih := rf_l0 h n hh hb d (i + 1) (Fold_ops M (h[i]).f1) (by rw [List.length_take]; omega) (ops_sp _ _ hs) (by omega)
    obtain ⟨d0, ed0⟩ : ∃ d0, 0 + d0 = (h[i]).f1.length := ⟨_, Nat.zero_add _⟩
    have h1 := rf_l1 h n i hi hh hbi _ d0 0 M ed0 hs (by rw [Nat.add_zero]; exact hM) (by rw [List.drop_zero]; exact ih)
    refine Ev.step (f := fun k => iceboxref17_Fold.j1 k h n M (i : Int) true) (fun k => by rw [iceboxref17_Fold.l0, if_pos (by omega), decide_eq_true (by omega)]) (Ev.step (fun k => ?_) h1)
    rw [iceboxref17_Fold.j1, if_pos rfl]; rfl
theorem rf_ev (h : List S70) (n : Int) (hk : Fold_ok h = true) : Ev (fun k => iceboxref17_Fold.f k h n) (Fold_all h n) := by
  obtain ⟨a, b⟩ := ok_parts hk
  obtain ⟨d, ed⟩ : ∃ d, d = (h.take n.toNat).length := ⟨_, rfl⟩
  have h0 := rf_l0 h n a b d 0 [] (by rw [Nat.zero_add]; exact ed) List.Pairwise.nil (Nat.zero_le _)
  rw [List.drop_zero] at h0
  exact h0
theorem gp_l0 (L : List S66) (s : ByteArray) (hl : L.length ≤ 4000000) : ∀ (d i : Nat), i + d = L.length → Ev (fun k => iceboxref17_GetPair.l0 k L s (i : Int)) (getP (L.drop i) s)
  | 0, i, hd => by
    refine Ev.step (f := fun _ => some _) (fun k => ?_) (Ev.now _)
    rw [iceboxref17_GetPair.l0, if_neg (by omega), List.drop_of_length_le (by omega)]; rfl
  | d + 1, i, hd => by
    have hi : i < L.length := by omega
    have ih := gp_l0 L s hl d (i + 1) (by omega)
    rw [List.drop_eq_getElem_cons hi, getP_cons]
    by_cases c : L[i].f0.toList = s.toList
    · rw [if_pos c]
      refine Ev.step (f := fun _ => some _) (fun k => ?_) (Ev.now _)
      rw [iceboxref17_GetPair.l0, if_pos (by omega), if_pos (by omega), rd66_get L i hi, if_pos c]
    · rw [if_neg c]
      refine Ev.step (fun k => ?_) ih
      rw [iceboxref17_GetPair.l0, if_pos (by omega), if_pos (by omega), rd66_get L i hi, if_neg c, wsucc (by omega)]
theorem gp_ev (L : List S66) (s : ByteArray) (hl : L.length ≤ 4000000) : Ev (fun k => iceboxref17_GetPair.f k L s) (getP L s) := gp_l0 L s hl L.length 0 (by omega)
theorem so_l0 (l : List S66) (back : Bool) (most : Int) (hl : l.length ≤ 1000000) : ∀ (d i : Nat), i + d = (max 0 (min most (l.length : Int))).toNat → Ev (fun k => iceboxref10_Some.l0 k l back most ((if back = true then l.reverse else l).take i) (i : Int)) (someP back most l)
  | 0, i, hd => by
    obtain rfl : i = (max 0 (min most (l.length : Int))).toNat := by omega
    refine Ev.step (f := fun k => iceboxref10_Some.j1 k l back most (someP back most l) (((max 0 (min most (l.length : Int))).toNat : Nat) : Int) false) (fun k => ?_) (Ev.step (f := fun _ => some _) (fun k => by rw [iceboxref10_Some.j1, if_neg Bool.false_ne_true]) (Ev.now _))
    rw [iceboxref10_Some.l0]
    by_cases c : (((max 0 (min most (l.length : Int))).toNat : Nat) : Int) < (l.length : Int)
    · rw [if_pos c, decide_eq_false (by omega)]; rfl
    · rw [if_neg c]; rfl
  | d + 1, i, hd => by
    have hi : i < l.length := by omega
    have him : (i : Int) < most := by omega
    have ih := so_l0 l back most hl d (i + 1) (by omega)
    refine Ev.step (f := fun k => iceboxref10_Some.j1 k l back most _ (i : Int) true) (fun k => by rw [iceboxref10_Some.l0, if_pos (by omega), decide_eq_true him]) (Ev.step (fun k => ?_) ih)
    rw [iceboxref10_Some.j1, if_pos rfl]
    cases back with
    | true =>
      have hi2 : i < l.reverse.length := by simpa using hi
      have e1 : wrap64 (wrap64 ((l.length : Int) - 1) - i) = ((l.length - 1 - i : Nat) : Int) := by rw [w64 (x := (l.length : Int) - 1) (by omega) (by omega), w64 (by omega) (by omega)]; omega
      have e2 : l.reverse[i] = l[l.length - 1 - i] := List.getElem_reverse hi2
      simp only [if_true]
      rw [e1, if_pos (by omega), if_pos (by omega), if_pos (by rw [List.length_take]; omega), rd66_get l _ (by omega), S66_eta, ← e2, List.take_append_getElem hi2, wsucc (by omega)]
    | false =>
      simp only [Bool.false_eq_true, if_false]
      rw [if_pos (by omega), if_pos (by omega), if_pos (by rw [List.length_take]; omega), rd66_get l i hi, S66_eta, List.take_append_getElem hi, wsucc (by omega)]
theorem so_ev (l : List S66) (back : Bool) (most : Int) (hl : l.length ≤ 1000000) : Ev (fun k => iceboxref10_Some.f k l back most) (someP back most l) := by
  have h := so_l0 l back most hl (max 0 (min most (l.length : Int))).toNat 0 (by omega)
  rw [List.take_zero] at h
  exact h
theorem rs_l0 (L : List S66) (lo hi : ByteArray) (back : Bool) (most : Int) (hl : L.length ≤ 1000000) : ∀ (d i : Nat) (acc : List S66), i + d = L.length → acc.length ≤ i → Ev (fun k => iceboxref17_Scan.l0 k L lo hi back most acc (i : Int)) (someP back most (acc ++ (L.drop i).filter (inScan lo hi)))
  | 0, i, acc, hd, ha => by
    rw [List.drop_of_length_le (by omega), List.filter_nil, List.append_nil]
    exact Ev.step (fun k => by rw [iceboxref17_Scan.l0, if_neg (by omega)]) (Ev.bind (so_ev acc back most (by omega)) (f := fun k t320 => some t320) (Ev.now _))
  | d + 1, i, acc, hd, ha => by
    have hi' : i < L.length := by omega
    rw [List.drop_eq_getElem_cons hi', List.filter_cons]
    by_cases c : inScan lo hi L[i] = true
    · rw [if_pos c]
      have ih := rs_l0 L lo hi back most hl d (i + 1) (acc ++ [L[i]]) (by omega) (by rw [List.length_append, List.length_singleton]; omega)
      rw [List.append_assoc, List.singleton_append] at ih
      unfold inScan at c
      simp only [Bool.and_eq_true, Bool.not_eq_true', Bool.or_eq_true, decide_eq_true_eq] at c
      obtain ⟨c1, c2⟩ := c
      refine Ev.step (fun k => ?_) ih
      rw [iceboxref17_Scan.l0, if_pos (by omega), if_pos (by omega), rd66_get L i hi', if_neg (by rw [c1]; exact Bool.false_ne_true), S66_eta, wsucc (by omega)]
      by_cases c3 : hi.toList = []
      · rw [if_pos c3, if_pos (by omega)]
      · rw [if_neg c3, if_pos (c2.resolve_left c3), if_pos (by omega)]
    · rw [if_neg c]
      have ih := rs_l0 L lo hi back most hl d (i + 1) acc (by omega) (by omega)
      refine Ev.step (fun k => ?_) ih
      rw [iceboxref17_Scan.l0, if_pos (by omega), if_pos (by omega), rd66_get L i hi', wsucc (by omega)]
      by_cases c1 : Op.bytesLess L[i].f0.toList lo.toList = true
      · rw [if_pos c1]
      · rw [if_neg c1]
        have c2 : ¬ (hi.toList = [] ∨ Op.bytesLess L[i].f0.toList hi.toList = true) := by
          intro h
          refine c ?_
          unfold inScan
          simp only [Bool.and_eq_true, Bool.not_eq_true', Bool.or_eq_true, decide_eq_true_eq]
          exact ⟨Bool.eq_false_iff.2 c1, h⟩
        rw [if_neg (fun h => c2 (Or.inl h)), if_neg (fun h => c2 (Or.inr h))]
theorem rs_ev (L : List S66) (lo hi : ByteArray) (back : Bool) (most : Int) (hl : L.length ≤ 1000000) : Ev (fun k => iceboxref17_Scan.f k L lo hi back most) (scanP L lo hi back most) :=
  rs_l0 L lo hi back most hl L.length 0 [] (by omega) (Nat.le_refl _)
/-! ### FoldAll -/
theorem scan_len (L : List S66) (lo hi : ByteArray) (back : Bool) (most : Int) (hl : L.length ≤ 1000000) : (scanP L lo hi back most).length ≤ 1000000 := by
  unfold scanP someP
  have := List.length_filter_le (inScan lo hi) L
  rw [List.length_take]
  cases back <;> simp <;> omega
theorem all_end (h : List S70) (n : Int) (key lo hi : ByteArray) (back : Bool) (most : Int) (l : List S66) (hl : l.length ≤ 60) (hk : Fold_ok h = true) (i : Nat) (hi' : h.length ≤ i) : Ev (fun k => iceboxlaw24_FoldAll.l0 k h n key lo hi back most l (i : Int)) true := by
  have hx := all_len h n hk
  have f1 := fold_ev h n hk
  have f2 := get_ev l key (by omega)
  have f3 := gp_ev l key (by omega)
  have f4 := rf_ev h n hk
  have f5 := pairs_ev (Fold_all h n) (by omega)
  have f6 := scan_ev l lo hi back most (by omega)
  have f7 := rs_ev l lo hi back most (by omega)
  have f8 := pairs_ev (scanP l lo hi back most) (by have := scan_len l lo hi back most (by omega); omega)
  have f9 := scan_ev (Fold_all h n) lo hi back most hx
  have f10 := rs_ev (Fold_all h n) lo hi back most hx
  have f11 := pairs_ev (scanP (Fold_all h n) lo hi back most) (by have := scan_len (Fold_all h n) lo hi back most hx; omega)
  refine Ev.step (fun k => by rw [iceboxlaw24_FoldAll.l0, if_neg (by omega)]) (Ev.bind f1 (f := fun k t329 => _) ?_)
  refine Ev.bind f2 (f := fun k t => _) ?_
  refine Ev.bind f3 (f := fun k t => _) ?_
  refine Ev.bind f4 (f := fun k t => _) ?_
  refine Ev.bind f5 (f := fun k t => _) ?_
  refine Ev.congr (fun k => by rw [if_pos rfl, if_pos rfl, if_pos (by simp)]) (Ev.bind f6 (f := fun k t => _) ?_)
  refine Ev.bind f7 (f := fun k t => _) ?_
  refine Ev.bind f8 (f := fun k t => _) ?_
  refine Ev.congr (fun k => by rw [if_pos rfl]) (Ev.bind f9 (f := fun k t => _) ?_)
  refine Ev.bind f4 (f := fun k t => _) ?_
  refine Ev.bind f10 (f := fun k t => _) ?_
  refine Ev.bind f11 (f := fun k t => _) ?_
  exact Ev.congr (fun k => by rw [if_pos rfl]) (Ev.bind awake24_ev (f := fun k t => some t) (Ev.now _))
theorem all_l0 (h : List S70) (n : Int) (key lo hi : ByteArray) (back : Bool) (most : Int) (l : List S66) (hl : l.length ≤ 60) (hh : h.length ≤ 20) : ∀ (d i : Nat), i + d = h.length → (∀ b ∈ h.take i, b.f1.length ≤ 20 ∧ ∀ o ∈ b.f1, o.f1.size ≤ 1000 ∧ o.f2.size ≤ 1000) → Ev (fun k => iceboxlaw24_FoldAll.l0 k h n key lo hi back most l (i : Int)) true
  | 0, i, hd, hp => by
    rw [List.take_of_length_le (by omega)] at hp
    refine all_end h n key lo hi back most l hl ?_ i (by omega)
    unfold Fold_ok
    simp only [Bool.and_eq_true, List.all_eq_true, decide_eq_true_eq]
    exact ⟨by omega, fun b hb => ⟨by have := (hp b hb).1; omega, fun o ho => ⟨by have := ((hp b hb).2 o ho).1; omega, by have := ((hp b hb).2 o ho).2; omega⟩⟩⟩
  | d + 1, i, hd, hp => by
    have hil : i < h.length := by omega
    rcases great27 (h[i]).f1 with hg | ⟨hg, g1, g2⟩
    · refine Ev.step (fun k => by rw [iceboxlaw24_FoldAll.l0, if_pos (by omega), if_pos (by omega), rd70_get h i hil]) (Ev.bind hg (f := fun k t => _) ?_)
      exact Ev.congr (fun k => by rw [if_pos rfl]) (Ev.bind awake24_ev (f := fun k t => some t) (Ev.now _))
    · by_cases c : ((h[i]).f1.length : Int) > 20
      · refine Ev.step (fun k => by rw [iceboxlaw24_FoldAll.l0, if_pos (by omega), if_pos (by omega), rd70_get h i hil]) (Ev.bind hg (f := fun k t => _) ?_)
        exact Ev.congr (fun k => by rw [if_neg Bool.false_ne_true, if_pos c]) (Ev.bind awake24_ev (f := fun k t => some t) (Ev.now _))
      · have ih := all_l0 h n key lo hi back most l hl hh d (i + 1) (by omega) (fun b hb => by
          rw [List.take_succ_eq_append_getElem hil] at hb
          rcases List.mem_append.1 hb with e | e
          · exact hp b e
          · rw [List.mem_singleton.1 e]
            exact ⟨by omega, g2⟩)
        refine Ev.step (fun k => by rw [iceboxlaw24_FoldAll.l0, if_pos (by omega), if_pos (by omega), rd70_get h i hil]) (Ev.bind hg (f := fun k t => _) ?_)
        refine Ev.congr (fun k => ?_) ih
        rw [if_neg Bool.false_ne_true, if_neg c, wsucc (by omega)]
theorem FoldAll : iceboxlaw24_FoldAll.Pure := by
  intro h n key lo hi back most l h1 h2 h3 h4 h5 h6 h7 h8 h9
  have haw : Ev (fun k => iceboxlaw24_FoldAll.j0 k h n key lo hi back most l true) true :=
    Ev.step (fun k => by rw [iceboxlaw24_FoldAll.j0, if_pos rfl]) (Ev.bind awake24_ev (f := fun k t => some t) (Ev.now _))
  have hE : Ev (fun k => iceboxlaw24_FoldAll.f k h n key lo hi back most l) true := by
    unfold iceboxlaw24_FoldAll.f
    by_cases c1 : (h.length : Int) > 20
    · exact Ev.congr (fun k => by rw [if_pos c1]) haw
    · by_cases c2 : (key.size : Int) > 300
      · exact Ev.congr (fun k => by rw [if_neg c1, if_pos c2]) haw
      · by_cases c3 : (lo.size : Int) > 300
        · exact Ev.congr (fun k => by rw [if_neg c1, if_neg c2, if_pos c3]) haw
        · by_cases c4 : (hi.size : Int) > 300
          · exact Ev.congr (fun k => by rw [if_neg c1, if_neg c2, if_neg c3, if_pos c4]) haw
          · by_cases c5 : (l.length : Int) > 60
            · exact Ev.congr (fun k => by rw [if_neg c1, if_neg c2, if_neg c3, if_neg c4, decide_eq_true c5]) haw
            · have hm := all_l0 h n key lo hi back most l (by omega) (by omega) h.length 0 (by omega) (fun b hb => by simp at hb)
              refine Ev.congr (fun k => by rw [if_neg c1, if_neg c2, if_neg c3, if_neg c4, decide_eq_false c5]) (Ev.step (fun k => ?_) hm)
              rw [iceboxlaw24_FoldAll.j0, if_neg Bool.false_ne_true]; rfl
  obtain ⟨K, hK⟩ := hE
  exact ⟨K, hK K (Nat.le_refl _)⟩

end Go.Proofs.Ytffnimaaolmbdaa.Pure
