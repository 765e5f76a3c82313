/- The pure statement of the law MergeViews: over the Lean functions that the Go code was shown to compute, the law answers true for every input within the statement's own bounds. No further conditions. -/
import Derived.Test.YtoomipmndapgnaaPMergeViewsx10
namespace Go.Proofs.Ytoomipmndapgnaa.Pure
open Go.RowKit Go.Proofs.Ytoomipmndapgnaa.PMergeViews Go.Proofs.YtoomipmndapgnaaW.PrintWords Go.Proofs.YtoomipmndapgnaaW.PrintLast Go.Proofs.YtoomipmndapgnaaW.PrintMore
set_option linter.unusedVariables false
set_option linter.unusedSimpArgs false

theorem w64 {x : Int} (h0 : -9223372036854775808 ≤ x) (h1 : x < 9223372036854775808) : wrap64 x = x := by
  unfold wrap64; omega
theorem bits_xor_nat (k : IntKind) (j : Nat) (hj : j ≤ k.bits) (hk : ∀ n : Int, 0 ≤ n → n < 2 ^ j → k.wrap n = n) (a b : Nat) (ha : a < 2 ^ j) (hb : b < 2 ^ j) :
    Go.bits .xor k a b = ((a ^^^ b : Nat) : Int) := by
  have hp : 2 ^ j ≤ 2 ^ k.bits := Nat.pow_le_pow_right (by decide) hj
  have ha' : a % 2 ^ k.bits = a := Nat.mod_eq_of_lt (Nat.lt_of_lt_of_le ha hp)
  have hb' : b % 2 ^ k.bits = b := Nat.mod_eq_of_lt (Nat.lt_of_lt_of_le hb hp)
  simp only [Go.bits, BitVec.ofInt_natCast, BitVec.toNat_xor, BitVec.toNat_ofNat, ha', hb']
  exact hk _ (Int.natCast_nonneg _) (by exact_mod_cast Nat.xor_lt_two_pow ha hb)
theorem wr_u32 (n : Int) (h₀ : 0 ≤ n) (h₁ : n < 2 ^ 32) : IntKind.u32.wrap n = n := by rw [IntKind.wrap_u32]; omega
theorem wr_u8 (n : Int) (h₀ : 0 ≤ n) (h₁ : n < 2 ^ 8) : IntKind.u8.wrap n = n := by rw [IntKind.wrap_u8]; omega
theorem wr_i64 (n : Int) (h₀ : 0 ≤ n) (h₁ : n < 2 ^ 63) : IntKind.i64.wrap n = n := by rw [IntKind.wrap_i64]; omega
theorem wr_u64 (n : Int) : IntKind.u64.wrap n = n % 18446744073709551616 := by simp [IntKind.wrap, IntKind.bits, IntKind.signed]
theorem bx_u32 (a b : Nat) (ha : a < 2 ^ 32) (hb : b < 2 ^ 32) : Go.bits .xor .u32 a b = ((a ^^^ b : Nat) : Int) := bits_xor_nat .u32 32 (by decide) wr_u32 a b ha hb
theorem bx_u8 (a b : Nat) (ha : a < 2 ^ 8) (hb : b < 2 ^ 8) : Go.bits .xor .u8 a b = ((a ^^^ b : Nat) : Int) := bits_xor_nat .u8 8 (by decide) wr_u8 a b ha hb
theorem bx_i64 (a b : Nat) (ha : a < 2 ^ 63) (hb : b < 2 ^ 63) : Go.bits .xor .i64 a b = ((a ^^^ b : Nat) : Int) := bits_xor_nat .i64 63 (by decide) wr_i64 a b ha hb
theorem bo_i64 (a b : Nat) (ha : a < 2 ^ 63) (hb : b < 2 ^ 63) : Go.bits .or .i64 a b = ((a ||| b : Nat) : Int) := (bits_nat .i64 63 (by decide) wr_i64 a b ha hb).2
theorem bo_u8 (a b : Nat) (ha : a < 2 ^ 8) (hb : b < 2 ^ 8) : Go.bits .or .u8 a b = ((a ||| b : Nat) : Int) := (bits_nat .u8 8 (by decide) wr_u8 a b ha hb).2
theorem ba_u8 (a b : Nat) (ha : a < 2 ^ 8) (hb : b < 2 ^ 8) : Go.bits .and .u8 a b = ((a &&& b : Nat) : Int) := (bits_nat .u8 8 (by decide) wr_u8 a b ha hb).1
theorem ba_u32 (a b : Nat) (ha : a < 2 ^ 32) (hb : b < 2 ^ 32) : Go.bits .and .u32 a b = ((a &&& b : Nat) : Int) := (bits_nat .u32 32 (by decide) wr_u32 a b ha hb).1
theorem max_u32 : IntKind.u32.max = ((4294967295 : Nat) : Int) := by decide
theorem wf_u8 {x : Int} (h : (Lit.int .u8 x).wf = true) : 0 ≤ x ∧ x < 256 := by
  simp [Lit.wf, IntKind.min, IntKind.max, IntKind.signed, IntKind.bits] at h; omega
theorem wf_u16 {x : Int} (h : (Lit.int .u16 x).wf = true) : 0 ≤ x ∧ x < 65536 := by
  simp [Lit.wf, IntKind.min, IntKind.max, IntKind.signed, IntKind.bits] at h; omega
theorem wf_u32 {x : Int} (h : (Lit.int .u32 x).wf = true) : 0 ≤ x ∧ x < 4294967296 := by
  simp [Lit.wf, IntKind.min, IntKind.max, IntKind.signed, IntKind.bits] at h; omega
theorem wf_u64 {x : Int} (h : (Lit.int .u64 x).wf = true) : 0 ≤ x ∧ x < 18446744073709551616 := by
  simp [Lit.wf, IntKind.min, IntKind.max, IntKind.signed, IntKind.bits] at h; omega
theorem wf_i64 {x : Int} (h : (Lit.int .i64 x).wf = true) : -9223372036854775808 ≤ x ∧ x < 9223372036854775808 := by
  simp [Lit.wf, IntKind.min, IntKind.max, IntKind.signed, IntKind.bits] at h; omega

theorem bless_irrefl : ∀ x : List UInt8, Op.bytesLess x x = false
  | [] => rfl
  | a :: x => by simp [Op.bytesLess, bless_irrefl x]
theorem bless_trans : ∀ x y z : List UInt8, Op.bytesLess x y = true → Op.bytesLess y z = true → Op.bytesLess x z = true
  | _, [], _, h, _ => by simp [Op.bytesLess] at h
  | _, _ :: _, [], _, h => by simp [Op.bytesLess] at h
  | [], _ :: _, _ :: _, _, _ => rfl
  | a :: x, b :: y, c :: z, h1, h2 => by
    simp only [Op.bytesLess, Bool.or_eq_true, decide_eq_true_eq, Bool.and_eq_true, beq_iff_eq] at h1 h2 ⊢
    rcases h1 with h1 | ⟨rfl, h1⟩
    · rcases h2 with h2 | ⟨rfl, h2⟩
      · exact Or.inl (UInt8.lt_trans h1 h2)
      · exact Or.inl h1
    · rcases h2 with h2 | ⟨rfl, h2⟩
      · exact Or.inl h2
      · exact Or.inr ⟨rfl, bless_trans x y z h1 h2⟩
theorem bless_total : ∀ x y : List UInt8, Op.bytesLess x y = true ∨ x = y ∨ Op.bytesLess y x = true
  | [], [] => Or.inr (Or.inl rfl)
  | [], _ :: _ => Or.inl rfl
  | _ :: _, [] => Or.inr (Or.inr rfl)
  | a :: x, b :: y => by
    simp only [Op.bytesLess, Bool.or_eq_true, decide_eq_true_eq, Bool.and_eq_true, beq_iff_eq, List.cons.injEq]
    rcases UInt8.lt_or_lt_of_ne (a := a) (b := b) |> fun h => (Classical.em (a = b)) with h | h
    · subst h
      rcases bless_total x y with h | h | h
      · exact Or.inl (Or.inr ⟨rfl, h⟩)
      · exact Or.inr (Or.inl ⟨rfl, h⟩)
      · exact Or.inr (Or.inr (Or.inr ⟨rfl, h⟩))
    · rcases UInt8.lt_or_lt_of_ne h with h | h
      · exact Or.inl (Or.inl h)
      · exact Or.inr (Or.inr (Or.inl h))

def vskip (seq : Int) (lo hi : ByteArray) (e : S31) : Bool :=
  Op.bytesLess e.f0.f0.toList lo.toList || (!(hi.toList == []) && !(Op.bytesLess e.f0.f0.toList hi.toList)) || decide (e.f0.f1 > seq)
def viewP (seq : Int) (lo hi : ByteArray) : List S31 → List S47 → Bool → ByteArray → List S47
  | [], out, _, _ => out
  | e :: r, out, seen, user => if (vskip seq lo hi e || (seen && e.f0.f0.toList == user.toList)) = true then viewP seq lo hi r out seen user
      else viewP seq lo hi r (if e.f0.f2 = 1 then out ++ [⟨e.f0.f0, e.f1⟩] else out) true e.f0.f0
theorem rd31_drop (l : List S31) (i : Nat) (h : i < l.length) : l.drop i = rd_T31 l (i : Int) :: l.drop (i + 1) := by
  rw [List.drop_eq_getElem_cons h]
  congr 1
  unfold rd_T31
  rw [Int.toNat_natCast, List.getD_eq_getElem?_getD, List.getElem?_eq_getElem h]; rfl
theorem view_round (l : List S31) (i : Nat) (h : i < l.length) (seq : Int) (lo hi : ByteArray) (back : Bool) (most : Int) (out : List S47) (seen : Bool) (user : ByteArray) (k : Nat) :
    merge_View.l0 (k + 1) seq lo hi back most out seen user l (l.length : Int) (i : Int) =
      merge_View.j1 k seq lo hi back most out seen user (rd_T31 l i).f0.f0 l (l.length : Int) (i : Int) (vskip seq lo hi (rd_T31 l i) || (seen && (rd_T31 l i).f0.f0.toList == user.toList)) (rd_T31 l i).f0.f0 (rd_T31 l i).f0.f1 (rd_T31 l i).f0.f2 (rd_T31 l i).f1 := by
  rw [merge_View.l0, if_pos (show (i : Int) < (l.length : Int) by omega), if_pos (show (0 : Int) ≤ (i : Int) by omega), if_pos (show (i : Int) < (l.length : Int) by omega)]
  generalize rd_T31 l (i : Int) = e
  unfold vskip
  by_cases h1 : Op.bytesLess e.f0.f0.toList lo.toList = true
  · rw [if_pos h1, h1]; rfl
  rw [if_neg h1]
  rw [Bool.not_eq_true] at h1
  rw [h1]
  by_cases h2 : hi.toList = ([] : List UInt8)
  · rw [if_pos h2, h2]
    by_cases h3 : e.f0.f1 > seq
    · rw [if_pos h3, decide_eq_true h3]; rfl
    · rw [if_neg h3, decide_eq_false h3]
      cases seen with
      | true => rw [if_pos rfl]; rfl
      | false => rw [if_neg (by decide)]; rfl
  · rw [if_neg h2]
    have h2' : (hi.toList == []) = false := beq_eq_false_iff_ne.mpr h2
    rw [h2']
    by_cases h4 : Op.bytesLess e.f0.f0.toList hi.toList = true
    · rw [if_pos h4, h4]
      by_cases h3 : e.f0.f1 > seq
      · rw [if_pos h3, decide_eq_true h3]; rfl
      · rw [if_neg h3, decide_eq_false h3]
        cases seen with
        | true => rw [if_pos rfl]; rfl
        | false => rw [if_neg (by decide)]; rfl
    · rw [if_neg h4]
      rw [Bool.not_eq_true] at h4
      rw [h4]; rfl

theorem S47_eta (v : S47) : (⟨v.f0, v.f1⟩ : S47) = v := by cases v; rfl
theorem rd47_get (l : List S47) (i : Nat) (h : i < l.length) : rd_T47 l (i : Int) = l[i] := by
  unfold rd_T47
  rw [Int.toNat_natCast, List.getD_eq_getElem?_getD, List.getElem?_eq_getElem h]; rfl
/-- the middle of a list that is being turned round: what stands outside is done -/
theorem reverse_ev : ∀ (d i : Nat) (l m : List S47), l.length ≤ 4000000000 → m.length = l.length → i + d + i = l.length → 
    (∀ j, (hj : j < l.length) → m[j]? = if j < i ∨ l.length - i ≤ j then l[l.length - 1 - j]? else l[j]?) →
    Ev (fun k => api_Pair_51.l0 k m (i : Int) ((l.length : Int) - 1 - i)) l.reverse
  | 0, i, l, m, hb, hl, hd, hm => by
    refine Ev.step (f := fun _ => some l.reverse) (fun k => ?_) (Ev.now _)
    rw [api_Pair_51.l0, if_neg (by omega)]
    congr 1
    apply List.ext_getElem?
    intro j
    by_cases hj : j < l.length
    · rw [hm j hj, List.getElem?_reverse hj, if_pos (by omega)]
    · rw [List.getElem?_eq_none (by omega), List.getElem?_eq_none (by rw [List.length_reverse]; omega)]
  | 1, i, l, m, hb, hl, hd, hm => by
    refine Ev.step (f := fun _ => some l.reverse) (fun k => ?_) (Ev.now _)
    rw [api_Pair_51.l0, if_neg (by omega)]
    congr 1
    apply List.ext_getElem?
    intro j
    by_cases hj : j < l.length
    · rw [hm j hj, List.getElem?_reverse hj]
      split
      · rfl
      · rw [show l.length - 1 - j = j by omega]
    · rw [List.getElem?_eq_none (by omega), List.getElem?_eq_none (by rw [List.length_reverse]; omega)]
  | d + 2, i, l, m, hb, hl, hd, hm => by
    have h1 : i < m.length := by omega
    have h2 : l.length - 1 - i < m.length := by omega
    have e1 : ((l.length : Int) - 1 - i) = ((l.length - 1 - i : Nat) : Int) := by omega
    have e2 : wrap64 ((i : Int) + 1) = ((i + 1 : Nat) : Int) := by rw [w64 (by omega) (by omega)]; omega
    have e3 : wrap64 (((l.length - 1 - i : Nat) : Int) - 1) = (l.length : Int) - 1 - ((i + 1 : Nat) : Int) := by rw [w64 (by omega) (by omega)]; omega
    have ih := reverse_ev d (i + 1) l ((m.set i m[l.length - 1 - i]).set (l.length - 1 - i) m[i]) hb (by simp [hl]) (by omega) (fun j hj => by
      clear e2 e3
      have a1 := hm i (by omega)
      have a2 := hm (l.length - 1 - i) (by omega)
      rw [if_neg (by omega), List.getElem?_eq_getElem h1] at a1
      rw [if_neg (by omega), List.getElem?_eq_getElem h2] at a2
      by_cases hj1 : j = l.length - 1 - i
      · subst hj1
        rw [List.getElem?_set_self (by simpa using h2), if_pos (by omega), a1]
        congr 1; omega
      · rw [List.getElem?_set_ne (fun h => hj1 h.symm)]
        by_cases hj2 : j = i
        · subst hj2
          rw [List.getElem?_set_self h1, if_pos (by omega), a2]
        · rw [List.getElem?_set_ne (fun h => hj2 h.symm), hm j hj]
          by_cases c : j < i ∨ l.length - i ≤ j
          · rw [if_pos c, if_pos (by omega)]
          · rw [if_neg c, if_neg (by omega)])
    refine Ev.step (fun k => ?_) ih
    rw [e1, api_Pair_51.l0, if_pos (by omega), if_pos (by omega), if_pos (by omega), if_pos (by omega), if_pos (by omega), e2, e3, rd47_get m _ h2, rd47_get m _ h1, S47_eta, S47_eta, Int.toNat_natCast, Int.toNat_natCast]
theorem reverse47_ev (l : List S47) (hb : l.length ≤ 4000000000) : Ev (fun k => api_Pair_51.f k l) l.reverse := by
  have h := reverse_ev l.length 0 l l hb rfl (by omega) (fun j hj => by rw [if_neg (by omega)])
  refine Ev.congr (fun k => ?_) h
  unfold api_Pair_51.f
  rw [w64 (by omega) (by omega), show (l.length : Int) - 1 - ((0 : Nat) : Int) = (l.length : Int) - 1 by omega]; rfl
theorem clone47 (l : List S47) (hb : l.length ≤ 4000000000) : api_Pair_52.f l = some l := by
  unfold api_Pair_52.f
  simp only [Option.bind_some, List.length_nil, Nat.zero_add, List.nil_append]
  rw [if_pos (by omega)]

def vfin (back : Bool) (most : Int) (out : List S47) : List S47 := (if back then out.reverse else out).take (mx 0 (mn most out.length)).toNat
theorem mxmn (most : Int) (n : Nat) : 0 ≤ mx 0 (mn most n) ∧ mx 0 (mn most n) ≤ n := by unfold mx mn; split <;> split <;> omega
theorem view_end (l : List S31) (seq : Int) (lo hi : ByteArray) (back : Bool) (most : Int) (out : List S47) (seen : Bool) (user : ByteArray) (ho : out.length ≤ 1000) :
    Ev (fun k => merge_View.l0 k seq lo hi back most out seen user l (l.length : Int) (l.length : Int)) (vfin back most out) := by
  obtain ⟨m1, m2⟩ := mxmn most out.length
  cases back with
  | true =>
    refine Ev.step (fun k => ?_) (Ev.bind (reverse47_ev out (by omega)) (f := fun _ t => some (t.take (mx 0 (mn most out.length)).toNat)) (Ev.now _))
    rw [merge_View.l0, if_neg (by omega), if_pos rfl]
    congr 1; funext t
    rw [if_pos m1, if_pos m2]
    unfold api_Pair_52.f
    simp only [Option.bind_some, List.length_nil, Nat.zero_add, List.nil_append]
    have : (t.take (mx 0 (mn most out.length)).toNat).length < 4398046511104 := by rw [List.length_take]; omega
    rw [if_pos this]; rfl
  | false =>
    refine Ev.step (f := fun _ => some (vfin false most out)) (fun k => ?_) (Ev.now _)
    rw [merge_View.l0, if_neg (by omega), if_neg (by decide), if_pos m1, if_pos m2, clone47 _ (by rw [List.length_take]; omega)]
    rfl
theorem view_ev (l : List S31) (hl : l.length ≤ 400) (seq : Int) (lo hi : ByteArray) (back : Bool) (most : Int) : ∀ (d i : Nat) (out : List S47) (seen : Bool) (user : ByteArray), i + d = l.length → out.length ≤ i →
    Ev (fun k => merge_View.l0 k seq lo hi back most out seen user l (l.length : Int) (i : Int)) (vfin back most (viewP seq lo hi (l.drop i) out seen user))
  | 0, i, out, seen, user, hd, ho => by
    obtain rfl : i = l.length := by omega
    rw [List.drop_length, viewP]
    exact view_end l seq lo hi back most out seen user (by omega)
  | d + 1, i, out, seen, user, hd, ho => by
    have hi' : i < l.length := by omega
    have q1 : i + 1 + d = l.length := by omega
    have q2 : out.length ≤ i + 1 := by omega
    have q3 : out.length < 4398046511104 := by omega
    have q4 : ∀ v : S47, (out ++ [v]).length ≤ i + 1 := fun v => by rw [List.length_append, List.length_singleton]; omega
    have e2 : wrap64 ((i : Int) + 1) = ((i + 1 : Nat) : Int) := by rw [w64 (by omega) (by omega)]; omega
    have ih := view_ev l hl seq lo hi back most d (i + 1)
    rw [rd31_drop l i hi', viewP]
    refine Ev.step (fun k => view_round l i hi' seq lo hi back most out seen user k) ?_
    generalize rd_T31 l (i : Int) = e
    generalize (vskip seq lo hi e || (seen && e.f0.f0.toList == user.toList)) = c
    cases c with
    | true =>
      rw [if_pos rfl]
      refine Ev.step (fun k => ?_) (ih out seen user q1 q2)
      rw [merge_View.j1, if_pos rfl, e2]
    | false =>
      rw [if_neg Bool.false_ne_true]
      by_cases h1 : e.f0.f2 = 1
      · rw [if_pos h1]
        have ih2 := ih (out ++ [(⟨e.f0.f0, e.f1⟩ : S47)]) true e.f0.f0 q1 (q4 (⟨e.f0.f0, e.f1⟩ : S47))
        refine Ev.step (fun k => ?_) ih2
        rw [merge_View.j1, if_neg Bool.false_ne_true, if_pos h1, if_pos q3, e2]
      · rw [if_neg h1]
        refine Ev.step (fun k => ?_) (ih out true e.f0.f0 q1 q2)
        rw [merge_View.j1, if_neg Bool.false_ne_true, if_neg h1, e2]
#print axioms view_ev

def sameUser (p : Option ByteArray) (e : S31) : Bool := match p with | none => false | some u => u.toList == e.f0.f0.toList
def viewR (seq : Int) (lo hi : ByteArray) : List S31 → List S47 → Bool → Option ByteArray → List S47
  | [], out, _, _ => out
  | e :: r, out, done, p => if ((sameUser p e && done) || vskip seq lo hi e) = true then viewR seq lo hi r out (sameUser p e && done) (some e.f0.f0)
      else viewR seq lo hi r (if e.f0.f2 = 1 then out ++ [⟨e.f0.f0, e.f1⟩] else out) true (some e.f0.f0)
/-- users rise; alike ones stand side by side -/
def Rise : List S31 → Option ByteArray → Prop
  | [], _ => True
  | e :: r, p => (match p with | none => True | some u => u.toList = e.f0.f0.toList ∨ Op.bytesLess u.toList e.f0.f0.toList = true) ∧ Rise r (some e.f0.f0)
/-- what has been seen of the last user but the program's 'user' -/
theorem view_same (seq : Int) (lo hi : ByteArray) : ∀ (l : List S31) (out : List S47) (seen done : Bool) (user : ByteArray) (p : Option ByteArray), Rise l p →
    (p = none → seen = false ∧ done = false) →
    (∀ u, p = some u → (seen = true → user.toList = u.toList ∨ Op.bytesLess user.toList u.toList = true) ∧ (done = true ↔ seen = true ∧ user.toList = u.toList)) →
    viewP seq lo hi l out seen user = viewR seq lo hi l out done p
  | [], _, _, _, _, _, _, _, _ => rfl
  | e :: r, out, seen, done, user, p, hr, h0, h1 => by
    obtain ⟨hr1, hr2⟩ := hr
    have key : (seen && e.f0.f0.toList == user.toList) = (sameUser p e && done) ∧ (seen = true → user.toList = e.f0.f0.toList ∨ Op.bytesLess user.toList e.f0.f0.toList = true) := by
      cases p with
      | none =>
        obtain ⟨rfl, rfl⟩ := h0 rfl
        exact ⟨rfl, fun h => by cases h⟩
      | some u =>
        obtain ⟨g1, g2⟩ := h1 u rfl
        have hr1' : u.toList = e.f0.f0.toList ∨ Op.bytesLess u.toList e.f0.f0.toList = true := hr1
        constructor
        · rw [Bool.eq_iff_iff]
          simp only [sameUser, Bool.and_eq_true, beq_iff_eq]
          constructor
          · rintro ⟨a, b⟩
            rcases hr1' with c | c
            · exact ⟨c, g2.2 ⟨a, by rw [c, b]⟩⟩
            · exfalso
              rcases g1 a with d | d
              · rw [← d, ← b, bless_irrefl] at c; cases c
              · have := bless_trans _ _ _ d c; rw [b, bless_irrefl] at this; cases this
          · rintro ⟨a, b⟩
            obtain ⟨c, d⟩ := g2.1 b
            exact ⟨c, by rw [← a, d]⟩
        · intro a
          rcases hr1' with c | c
          · rw [← c]; exact g1 a
          · rcases g1 a with d | d
            · rw [d]; exact Or.inr c
            · exact Or.inr (bless_trans _ _ _ d c)
    obtain ⟨k1, k2⟩ := key
    rw [viewP, viewR, k1, Bool.or_comm]
    cases hc : ((sameUser p e && done) || vskip seq lo hi e) with
    | true =>
      rw [if_pos rfl, if_pos rfl]
      refine view_same seq lo hi r out seen _ user (some e.f0.f0) hr2 (fun h => by cases h) (fun u hu => ?_)
      obtain rfl := Option.some.inj hu
      refine ⟨k2, ?_⟩
      rw [← k1, Bool.and_eq_true, beq_iff_eq]
      exact ⟨fun ⟨a, b⟩ => ⟨a, b.symm⟩, fun ⟨a, b⟩ => ⟨a, b.symm⟩⟩
    | false =>
      rw [if_neg Bool.false_ne_true, if_neg Bool.false_ne_true]
      refine view_same seq lo hi r _ true true e.f0.f0 (some e.f0.f0) hr2 (fun h => by cases h) (fun u hu => ?_)
      obtain rfl := Option.some.inj hu
      exact ⟨fun _ => Or.inl rfl, ⟨fun _ => ⟨rfl, rfl⟩, fun _ => rfl⟩⟩
#print axioms view_same

def prevU (l : List S31) (i : Nat) : Option ByteArray := if i = 0 then none else some (rd_T31 l ((i - 1 : Nat) : Int)).f0.f0
theorem some_ev (l : List S47) (hb : l.length ≤ 1000) (back : Bool) (most : Int) : ∀ (d i : Nat) (out : List S47), i + d = l.length → out = ((if back then l.reverse else l).take i) → ((i : Int) ≤ most ∨ i = 0) →
    Ev (fun k => iceboxref10_Some.l0 k l back most out (i : Int)) (vfin back most l)
  | d, i, out, hd, ho, hm => by
    have hlen : (if back then l.reverse else l).length = l.length := by cases back <;> simp
    have fin_ : ¬ ((i : Int) < (l.length : Int) ∧ (i : Int) < most) → out = vfin back most l := by
      intro h
      rw [ho]; unfold vfin
      have : (mx 0 (mn most l.length)).toNat = i ∨ (l.length ≤ i ∧ l.length ≤ (mx 0 (mn most l.length)).toNat) := by
        unfold mx mn; split <;> split <;> omega
      rcases this with h | ⟨h1, h2⟩
      · rw [h]
      · rw [List.take_of_length_le (by omega), List.take_of_length_le (by omega)]
    by_cases h1 : (i : Int) < (l.length : Int)
    · by_cases h2 : (i : Int) < most
      · cases d with
        | zero => omega
        | succ d =>
          have q1 : i + 1 + d = l.length := by omega
          have q2 : ((i + 1 : Nat) : Int) ≤ most := by omega
          have q3 : out.length < 4398046511104 := by rw [ho, List.length_take]; omega
          have hi : i < l.length := by omega
          have q4 : ((l.length - 1 - i : Nat) : Int) < (l.length : Int) := by omega
          have q5 : l.length - 1 - i < l.length := by omega
          have q6 : (0 : Int) ≤ ((l.length - 1 - i : Nat) : Int) := by omega
          have q7 : (0 : Int) ≤ (i : Int) := by omega
          have e1 : wrap64 ((wrap64 ((l.length : Int) - 1)) - (i : Int)) = ((l.length - 1 - i : Nat) : Int) := by rw [w64 (x := (l.length : Int) - 1) (by omega) (by omega), w64 (by omega) (by omega)]; omega
          have e2 : wrap64 ((i : Int) + 1) = ((i + 1 : Nat) : Int) := by rw [w64 (by omega) (by omega)]; omega
          cases back with
          | true =>
            have ih := some_ev l hb true most d (i + 1) (out ++ [rd_T47 l ((l.length - 1 - i : Nat) : Int)]) q1 (by
              clear e1 e2
              rw [ho, if_pos rfl, List.take_add_one, List.getElem?_reverse hi, List.getElem?_eq_getElem q5, rd47_get l _ q5]; rfl) (Or.inl q2)
            refine Ev.step (f := fun k => iceboxref10_Some.j1 k l true most out (i : Int) true) (fun k => ?_) (Ev.step (fun k => ?_) ih)
            · rw [iceboxref10_Some.l0, if_pos h1, decide_eq_true h2]
            · rw [iceboxref10_Some.j1, if_pos rfl, if_pos rfl, e1, if_pos q6, if_pos q4, if_pos q3, S47_eta, e2]
          | false =>
            have ih := some_ev l hb false most d (i + 1) (out ++ [rd_T47 l (i : Int)]) q1 (by
              clear e1 e2
              rw [ho, if_neg Bool.false_ne_true, List.take_add_one, List.getElem?_eq_getElem hi, rd47_get l _ hi]; rfl) (Or.inl q2)
            refine Ev.step (f := fun k => iceboxref10_Some.j1 k l false most out (i : Int) true) (fun k => ?_) (Ev.step (fun k => ?_) ih)
            · rw [iceboxref10_Some.l0, if_pos h1, decide_eq_true h2]
            · rw [iceboxref10_Some.j1, if_pos rfl, if_neg Bool.false_ne_true, if_pos q7, if_pos h1, if_pos q3, S47_eta, e2]
      · have f1 := fin_ (fun h => h2 h.2)
        refine Ev.step (f := fun k => iceboxref10_Some.j1 k l back most out (i : Int) false) (fun k => ?_) (Ev.step (f := fun _ => some (vfin back most l)) (fun k => ?_) (Ev.now _))
        · rw [iceboxref10_Some.l0, if_pos h1, decide_eq_false h2]
        · rw [iceboxref10_Some.j1, if_neg Bool.false_ne_true, f1]
    · have f1 := fin_ (fun h => h1 h.1)
      refine Ev.step (f := fun k => iceboxref10_Some.j1 k l back most out (i : Int) false) (fun k => ?_) (Ev.step (f := fun _ => some (vfin back most l)) (fun k => ?_) (Ev.now _))
      · rw [iceboxref10_Some.l0, if_neg h1]
      · rw [iceboxref10_Some.j1, if_neg Bool.false_ne_true, f1]
#print axioms some_ev

theorem view3_ev {res : List S47} (l : List S31) (i : Nat) (hi : i < l.length) (hl : l.length ≤ 400) (seq : Int) (lo hi' : ByteArray) (back : Bool) (most : Int) (out : List S47) (done b : Bool) (ho : out.length ≤ i)
    (h1 : b = true → Ev (fun k => iceboxref10_View.l0 k l seq lo hi' back most out done ((i + 1 : Nat) : Int)) res)
    (h2 : b = false → Ev (fun k => iceboxref10_View.l0 k l seq lo hi' back most (if (rd_T31 l i).f0.f2 = 1 then out ++ [(⟨(rd_T31 l i).f0.f0, (rd_T31 l i).f1⟩ : S47)] else out) true ((i + 1 : Nat) : Int)) res) :
    Ev (fun k => iceboxref10_View.j3 k l seq lo hi' back most out done (i : Int) b (rd_T31 l i).f0.f0 (rd_T31 l i).f0.f1 (rd_T31 l i).f0.f2) res := by
  have q3 : out.length < 4398046511104 := by omega
  have p1 : (0 : Int) ≤ (i : Int) := by omega
  have p2 : (i : Int) < (l.length : Int) := by omega
  have e2 : wrap64 ((i : Int) + 1) = ((i + 1 : Nat) : Int) := by rw [w64 (by omega) (by omega)]; omega
  cases b with
  | true => exact Ev.step (fun k => by rw [iceboxref10_View.j3, if_pos rfl, e2]) (h1 rfl)
  | false =>
    have h2 := h2 rfl
    by_cases c : (rd_T31 l i).f0.f2 = 1
    · rw [if_pos c] at h2
      refine Ev.step (fun k => ?_) h2
      rw [iceboxref10_View.j3, if_neg Bool.false_ne_true, if_pos c, if_pos p1, if_pos p2, if_pos q3, e2]
    · rw [if_neg c] at h2
      refine Ev.step (fun k => ?_) h2
      rw [iceboxref10_View.j3, if_neg Bool.false_ne_true, if_neg c, e2]
theorem view2_step (l : List S31) (i : Nat) (seq : Int) (lo hi : ByteArray) (back : Bool) (most : Int) (out : List S47) (done : Bool) (k : Nat) :
    iceboxref10_View.j2 (k + 1) l seq lo hi back most out done (i : Int) (rd_T31 l i).f0.f0 (rd_T31 l i).f0.f1 (rd_T31 l i).f0.f2 =
      iceboxref10_View.j3 k l seq lo hi back most out done (i : Int) (done || vskip seq lo hi (rd_T31 l i)) (rd_T31 l i).f0.f0 (rd_T31 l i).f0.f1 (rd_T31 l i).f0.f2 := by
  rw [iceboxref10_View.j2]
  generalize rd_T31 l (i : Int) = e
  unfold vskip
  cases done with
  | true => rw [if_pos rfl]; rfl
  | false =>
    rw [if_neg Bool.false_ne_true]
    by_cases h3 : e.f0.f1 > seq
    · rw [if_pos h3, decide_eq_true h3]; simp only [Bool.or_true]
    · rw [if_neg h3, decide_eq_false h3]
      by_cases h1 : Op.bytesLess e.f0.f0.toList lo.toList = true
      · rw [if_pos h1, h1]; rfl
      · rw [if_neg h1]
        rw [Bool.not_eq_true] at h1
        rw [h1]
        by_cases h2 : hi.toList = ([] : List UInt8)
        · rw [if_pos h2, h2]; rfl
        · rw [if_neg h2]
          have h2' : (hi.toList == []) = false := beq_eq_false_iff_ne.mpr h2
          rw [h2']
          simp only [Bool.not_false, Bool.true_and, Bool.false_or, Bool.or_false]
theorem viewref_ev (l : List S31) (hl : l.length ≤ 400) (seq : Int) (lo hi : ByteArray) (back : Bool) (most : Int) : ∀ (d i : Nat) (out : List S47) (done : Bool), i + d = l.length → out.length ≤ i → (i = 0 → done = false) →
    Ev (fun k => iceboxref10_View.l0 k l seq lo hi back most out done (i : Int)) (vfin back most (viewR seq lo hi (l.drop i) out done (prevU l i)))
  | 0, i, out, done, hd, ho, _ => by
    obtain rfl : i = l.length := by omega
    rw [List.drop_length, viewR]
    have h := some_ev out (by omega) back most out.length 0 [] (by omega) (by simp) (Or.inr rfl)
    refine Ev.step (fun k => ?_) (Ev.bind (g := fun k => iceboxref10_Some.f k out back most) h (f := fun _ t => some t) (Ev.now _))
    rw [iceboxref10_View.l0, if_neg (by omega)]
  | d + 1, i, out, done, hd, ho, hz => by
    have hi' : i < l.length := by omega
    have q1 : i + 1 + d = l.length := by omega
    have q2 : out.length ≤ i + 1 := by omega
    have q4 : ∀ v : S47, (out ++ [v]).length ≤ i + 1 := fun v => by rw [List.length_append, List.length_singleton]; omega
    have q5 : i + 1 = 0 → ∀ b : Bool, b = false := fun h => by omega
    have p1 : (0 : Int) ≤ (i : Int) := by omega
    have p2 : (i : Int) < (l.length : Int) := by omega
    have ih := viewref_ev l hl seq lo hi back most d (i + 1)
    have hp : prevU l (i + 1) = some (rd_T31 l (i : Int)).f0.f0 := by unfold prevU; rw [if_neg (Nat.succ_ne_zero i)]; rfl
    rw [hp] at ih
    rw [rd31_drop l i hi', viewR]
    have tail_ : ∀ dn : Bool, Ev (fun k => iceboxref10_View.j2 k l seq lo hi back most out dn (i : Int) (rd_T31 l i).f0.f0 (rd_T31 l i).f0.f1 (rd_T31 l i).f0.f2)
        (vfin back most (if (dn || vskip seq lo hi (rd_T31 l i)) = true then viewR seq lo hi (l.drop (i + 1)) out dn (some (rd_T31 l i).f0.f0)
          else viewR seq lo hi (l.drop (i + 1)) (if (rd_T31 l i).f0.f2 = 1 then out ++ [⟨(rd_T31 l i).f0.f0, (rd_T31 l i).f1⟩] else out) true (some (rd_T31 l i).f0.f0))) := by
      intro dn
      refine Ev.step (fun k => view2_step l i seq lo hi back most out dn k) ?_
      refine view3_ev l i hi' hl seq lo hi back most out dn _ ho (fun hb => ?_) (fun hb => ?_)
      · rw [if_pos hb]; exact ih out dn q1 q2 (fun h => q5 h _)
      · have hq : (if (rd_T31 l i).f0.f2 = 1 then out ++ [(⟨(rd_T31 l i).f0.f0, (rd_T31 l i).f1⟩ : S47)] else out).length ≤ i + 1 := by
          split
          · exact q4 _
          · exact q2
        rw [hb, if_neg Bool.false_ne_true]
        exact ih _ true q1 hq (fun h => q5 h _)
    have join_ : ∀ b : Bool, Ev (fun k => iceboxref10_View.j1 k l seq lo hi back most out done (i : Int) b (rd_T31 l i).f0.f0 (rd_T31 l i).f0.f1 (rd_T31 l i).f0.f2)
        (vfin back most (if ((!b && done) || vskip seq lo hi (rd_T31 l i)) = true then viewR seq lo hi (l.drop (i + 1)) out (!b && done) (some (rd_T31 l i).f0.f0)
          else viewR seq lo hi (l.drop (i + 1)) (if (rd_T31 l i).f0.f2 = 1 then out ++ [⟨(rd_T31 l i).f0.f0, (rd_T31 l i).f1⟩] else out) true (some (rd_T31 l i).f0.f0))) := by
      intro b
      cases b with
      | true => exact Ev.step (fun k => by rw [iceboxref10_View.j1, if_pos rfl]) (tail_ false)
      | false => exact Ev.step (fun k => by rw [iceboxref10_View.j1, if_neg Bool.false_ne_true]) (tail_ done)
    by_cases c : i = 0
    · have hpn : prevU l i = none := by unfold prevU; rw [if_pos c]
      have hdn := hz c
      subst hdn
      rw [hpn]
      refine Ev.step (fun k => ?_) (join_ true)
      rw [iceboxref10_View.l0, if_pos p2, if_pos p1, if_pos (by rw [c]; rfl)]
    · have hpn : prevU l i = some (rd_T31 l ((i - 1 : Nat) : Int)).f0.f0 := by unfold prevU; rw [if_neg c]
      have c1 : ¬ (i : Int) = 0 := by omega
      have c2 : (0 : Int) ≤ ((i - 1 : Nat) : Int) := by omega
      have c3 : ((i - 1 : Nat) : Int) < (l.length : Int) := by omega
      have e1 : wrap64 ((i : Int) - 1) = ((i - 1 : Nat) : Int) := by rw [w64 (by omega) (by omega)]; omega
      rw [hpn]
      have hj := join_ ((rd_T31 l ((i - 1 : Nat) : Int)).f0.f0.toList != (rd_T31 l (i : Int)).f0.f0.toList)
      rw [bne, Bool.not_not] at hj
      refine Ev.step (fun k => ?_) hj
      rw [iceboxref10_View.l0, if_pos p2, if_pos p1, if_neg c1, e1, if_pos c2, if_pos c3]; rfl
#print axioms viewref_ev

theorem pairs_ev (l : List S47) (hb : l.length ≤ 1000) : ∀ (d i : Nat), i + d = l.length → Ev (fun k => iceboxref1_Pairs.l0 k l l (i : Int)) true
  | 0, i, hd => Ev.step (f := fun _ => some true) (fun k => by rw [iceboxref1_Pairs.l0, if_neg (by omega)]) (Ev.now _)
  | d + 1, i, hd => by
    have q1 : i + 1 + d = l.length := by omega
    have p1 : (0 : Int) ≤ (i : Int) := by omega
    have p2 : (i : Int) < (l.length : Int) := by omega
    have e2 : wrap64 ((i : Int) + 1) = ((i + 1 : Nat) : Int) := by rw [w64 (by omega) (by omega)]; omega
    refine Ev.step (fun k => ?_) (pairs_ev l hb d (i + 1) q1)
    rw [iceboxref1_Pairs.l0, if_pos p2, if_pos p1, if_pos p2]
    simp only [beq_self_eq_true, Bool.not_true, Bool.or_self]
    rw [if_neg Bool.false_ne_true, e2]
theorem pairsf_ev (l : List S47) (hb : l.length ≤ 1000) : Ev (fun k => iceboxref1_Pairs.f k l l) true := by
  refine Ev.congr (fun k => ?_) (pairs_ev l hb l.length 0 (by omega))
  rw [iceboxref1_Pairs.f, if_pos rfl]; rfl
/-- Ordered answers; yes means that users rise from there on -/
theorem ordered_ev (l : List S31) (hl : l.length ≤ 400) : ∀ (d i : Nat), i + d = l.length → 1 ≤ i → ∃ b : Bool, Ev (fun k => iceboxref10_Ordered.l0 k l (i : Int)) b ∧ (b = true → Rise (l.drop i) (some (rd_T31 l ((i - 1 : Nat) : Int)).f0.f0))
  | 0, i, hd, h1 => ⟨true, Ev.step (f := fun _ => some true) (fun k => by rw [iceboxref10_Ordered.l0, if_neg (by omega)]) (Ev.now _), fun _ => by rw [List.drop_eq_nil_of_le (by omega)]; trivial⟩
  | d + 1, i, hd, h1 => by
    have hi : i < l.length := by omega
    have q1 : i + 1 + d = l.length := by omega
    have p1 : (0 : Int) ≤ (i : Int) := by omega
    have p2 : (i : Int) < (l.length : Int) := by omega
    have p3 : (0 : Int) ≤ ((i - 1 : Nat) : Int) := by omega
    have p4 : ((i - 1 : Nat) : Int) < (l.length : Int) := by omega
    have e1 : wrap64 ((i : Int) - 1) = ((i - 1 : Nat) : Int) := by rw [w64 (by omega) (by omega)]; omega
    have e2 : wrap64 ((i : Int) + 1) = ((i + 1 : Nat) : Int) := by rw [w64 (by omega) (by omega)]; omega
    obtain ⟨b, hb, hr⟩ := ordered_ev l hl d (i + 1) q1 (by omega)
    rw [show i + 1 - 1 = i by omega] at hr
    have hc : ∃ t : Int, iceboxref1_Cmp.f (rd_T31 l ((i - 1 : Nat) : Int)).f0.f0 (rd_T31 l ((i - 1 : Nat) : Int)).f0.f1 (rd_T31 l ((i - 1 : Nat) : Int)).f0.f2 (rd_T31 l (i : Int)).f0.f0 (rd_T31 l (i : Int)).f0.f1 (rd_T31 l (i : Int)).f0.f2 = some t ∧
        (t < 0 → (rd_T31 l ((i - 1 : Nat) : Int)).f0.f0.toList = (rd_T31 l (i : Int)).f0.f0.toList ∨ Op.bytesLess (rd_T31 l ((i - 1 : Nat) : Int)).f0.f0.toList (rd_T31 l (i : Int)).f0.f0.toList = true) := by
      generalize rd_T31 l ((i - 1 : Nat) : Int) = x
      generalize rd_T31 l (i : Int) = y
      unfold iceboxref1_Cmp.f
      by_cases c : x.f0.f0.toList = y.f0.f0.toList
      · rw [if_pos c]
        repeat' split
        all_goals exact ⟨_, rfl, fun _ => Or.inl c⟩
      · rw [if_neg c]
        by_cases c2 : Op.bytesLess x.f0.f0.toList y.f0.f0.toList = true
        · rw [if_pos c2]; exact ⟨_, rfl, fun _ => Or.inr c2⟩
        · rw [if_neg c2]; exact ⟨1, rfl, fun h => by omega⟩
    obtain ⟨t, ht, htr⟩ := hc
    by_cases c : t ≥ 0
    · refine ⟨false, Ev.step (f := fun _ => some false) (fun k => ?_) (Ev.now _), fun h => by cases h⟩
      rw [iceboxref10_Ordered.l0, if_pos p2, e1, if_pos p3, if_pos p4, if_pos p1, ht, Option.bind_some, if_pos c]
    · refine ⟨b, Ev.step (fun k => ?_) hb, fun h => ?_⟩
      · rw [iceboxref10_Ordered.l0, if_pos p2, e1, if_pos p3, if_pos p4, if_pos p1, ht, Option.bind_some, if_neg c, e2]
      · rw [rd31_drop l i hi]
        exact ⟨htr (by omega), hr h⟩
#print axioms ordered_ev

theorem great_no (l : List S31) (i : Nat) (h : ¬ ((i : Int) < (l.length : Int) ∧ (i : Int) < 400)) : Ev (fun k => iceboxlaw12_Great.l0 k l (i : Int)) (decide ((l.length : Int) > 300)) := by
  refine Ev.step (f := fun k => iceboxlaw12_Great.j1 k l (i : Int) false) (fun k => ?_) (Ev.step (f := fun _ => some (decide ((l.length : Int) > 300))) (fun k => by rw [iceboxlaw12_Great.j1, if_neg Bool.false_ne_true]) (Ev.now _))
  by_cases p2 : (i : Int) < (l.length : Int)
  · rw [iceboxlaw12_Great.l0, if_pos p2, decide_eq_false (fun c => h ⟨p2, c⟩)]
  · rw [iceboxlaw12_Great.l0, if_neg p2]
theorem great_ev (l : List S31) : ∀ (d i : Nat), i + d = 400 → ∃ b : Bool, Ev (fun k => iceboxlaw12_Great.l0 k l (i : Int)) b
  | 0, i, hd => ⟨_, great_no l i (by omega)⟩
  | d + 1, i, hd => by
    by_cases p2 : (i : Int) < (l.length : Int)
    case neg => exact ⟨_, great_no l i (fun h => p2 h.1)⟩
    have q1 : i + 1 + d = 400 := by omega
    have p1 : (0 : Int) ≤ (i : Int) := by omega
    have e2 : wrap64 ((i : Int) + 1) = ((i + 1 : Nat) : Int) := by rw [w64 (by omega) (by omega)]; omega
    obtain ⟨b, hb⟩ := great_ev l d (i + 1) q1
    by_cases c : (i : Int) < 400
    · by_cases c1 : ((rd_T31 l (i : Int)).f0.f0.size : Int) > 300
      · refine ⟨true, Ev.step (f := fun k => iceboxlaw12_Great.j1 k l (i : Int) true) (fun k => by rw [iceboxlaw12_Great.l0, if_pos p2, decide_eq_true c]) (Ev.step (f := fun _ => some true) (fun k => ?_) (Ev.now _))⟩
        rw [iceboxlaw12_Great.j1, if_pos rfl, if_pos p1, if_pos p2, if_pos c1]
      · by_cases c2 : ((rd_T31 l (i : Int)).f1.size : Int) > 1000
        · refine ⟨true, Ev.step (f := fun k => iceboxlaw12_Great.j1 k l (i : Int) true) (fun k => by rw [iceboxlaw12_Great.l0, if_pos p2, decide_eq_true c]) (Ev.step (f := fun _ => some true) (fun k => ?_) (Ev.now _))⟩
          rw [iceboxlaw12_Great.j1, if_pos rfl, if_pos p1, if_pos p2, if_neg c1, if_pos c2]
        · refine ⟨b, Ev.step (f := fun k => iceboxlaw12_Great.j1 k l (i : Int) true) (fun k => by rw [iceboxlaw12_Great.l0, if_pos p2, decide_eq_true c]) (Ev.step (fun k => ?_) hb)⟩
          rw [iceboxlaw12_Great.j1, if_pos rfl, if_pos p1, if_pos p2, if_neg c1, if_neg c2, e2]
    · exact ⟨_, great_no l i (fun h => c h.2)⟩
theorem viewP_length (seq : Int) (lo hi : ByteArray) : ∀ (l : List S31) (out : List S47) (seen : Bool) (user : ByteArray), (viewP seq lo hi l out seen user).length ≤ out.length + l.length
  | [], out, _, _ => by rw [viewP]; simp
  | e :: r, out, seen, user => by
    rw [viewP]
    split
    · have := viewP_length seq lo hi r out seen user
      rw [List.length_cons]; omega
    · have := viewP_length seq lo hi r (if e.f0.f2 = 1 then out ++ [⟨e.f0.f0, e.f1⟩] else out) true e.f0.f0
      have h2 : (if e.f0.f2 = 1 then out ++ [(⟨e.f0.f0, e.f1⟩ : S47)] else out).length ≤ out.length + 1 := by split <;> simp
      rw [List.length_cons]; omega
theorem vfin_length (back : Bool) (most : Int) (out : List S47) : (vfin back most out).length ≤ out.length := by
  unfold vfin
  rw [List.length_take]
  cases back <;> simp <;> omega

theorem awake15_ev : Ev iceboxlaw15_awake.f true := Ev.of (fun k => iceboxlaw15_awake.mono k) (k := 40) (by decide +kernel)
theorem MergeViews : iceboxlaw15_MergeViews.Pure := by
  intro l seq lo hi back most _ _ _ _ _ _
  apply Ev.rounds
  unfold iceboxlaw15_MergeViews.f
  have ha : Ev (fun k => (iceboxlaw15_awake.f k).bind fun t => some t) true := Ev.bind awake15_ev (f := fun _ t => some t) (Ev.now _)
  have hj : Ev (fun k => iceboxlaw15_MergeViews.j0 k l seq lo hi back most true) true := Ev.step (fun k => by rw [iceboxlaw15_MergeViews.j0, if_pos rfl]) ha
  obtain ⟨g, hg⟩ := great_ev l 400 0 rfl
  refine Ev.bind (g := fun k => iceboxlaw12_Great.f k l) hg ?_
  cases g with
  | true => exact Ev.congr (fun k => by rw [if_pos rfl]) hj
  | false =>
    by_cases c1 : (l.length : Int) > 100
    · exact Ev.congr (fun k => by rw [if_neg Bool.false_ne_true, if_pos c1]) hj
    by_cases c2 : (lo.size : Int) > 300
    · exact Ev.congr (fun k => by rw [if_neg Bool.false_ne_true, if_neg c1, if_pos c2]) hj
    by_cases c3 : (hi.size : Int) > 300
    · exact Ev.congr (fun k => by rw [if_neg Bool.false_ne_true, if_neg c1, if_neg c2, if_pos c3]) hj
    have hl : l.length ≤ 100 := by omega
    obtain ⟨b, hb, hr⟩ : ∃ b : Bool, Ev (fun k => iceboxref10_Ordered.f k l) b ∧ (b = true → Rise l none) := by
      by_cases c : l = []
      · subst c
        exact ⟨true, Ev.step (f := fun _ => some true) (fun k => by rw [iceboxref10_Ordered.f, iceboxref10_Ordered.l0, if_neg (by decide)]) (Ev.now _), fun _ => trivial⟩
      · have hpos : 0 < l.length := List.length_pos_iff.2 c
        obtain ⟨b, h1, h2⟩ := ordered_ev l (by omega) (l.length - 1) 1 (by omega) (Nat.le_refl 1)
        refine ⟨b, h1, fun h => ?_⟩
        have h3 := h2 h
        have := rd31_drop l 0 hpos
        rw [List.drop_zero] at this
        rw [this]
        exact ⟨trivial, h3⟩
    refine Ev.congr (fun k => by rw [if_neg Bool.false_ne_true, if_neg c1, if_neg c2, if_neg c3]) (Ev.bind (a := b) (g := fun k => iceboxref10_Ordered.f k l) (f := fun k t => iceboxlaw15_MergeViews.j0 k l seq lo hi back most (!t)) hb ?_)
    cases b with
    | false => exact hj
    | true =>
      have h1 := view_ev l (by omega) seq lo hi back most l.length 0 [] false (⟨#[]⟩ : ByteArray) (by omega) (Nat.le_refl 0)
      have h2 := viewref_ev l (by omega) seq lo hi back most l.length 0 [] false (by omega) (Nat.le_refl 0) (fun _ => rfl)
      rw [List.drop_zero] at h1 h2
      have hp : prevU l 0 = none := by unfold prevU; rw [if_pos rfl]
      rw [hp, ← view_same seq lo hi l [] false false (⟨#[]⟩ : ByteArray) none (hr rfl) (fun _ => ⟨rfl, rfl⟩) (fun u h => by cases h)] at h2
      have hlen : (vfin back most (viewP seq lo hi l [] false (⟨#[]⟩ : ByteArray))).length ≤ 1000 := by
        have h3 := vfin_length back most (viewP seq lo hi l [] false (⟨#[]⟩ : ByteArray))
        have h4 := viewP_length seq lo hi l [] false (⟨#[]⟩ : ByteArray)
        rw [List.length_nil] at h4
        omega
      generalize vfin back most (viewP seq lo hi l [] false (⟨#[]⟩ : ByteArray)) = V at h1 h2 hlen
      have h3 := pairsf_ev V hlen
      refine Ev.step (fun k => by rw [iceboxlaw15_MergeViews.j0, if_neg (by decide)]) ?_
      refine Ev.bind (g := fun k => merge_View.f k l seq lo hi back most) h1 (Ev.bind (g := fun k => iceboxref10_View.f k l seq lo hi back most) h2 (Ev.bind (g := fun k => iceboxref1_Pairs.f k V V) h3 ?_))
      exact Ev.congr (fun k => by rw [if_pos rfl]) ha

end Go.Proofs.Ytoomipmndapgnaa.Pure
