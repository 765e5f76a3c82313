/- The functions that a law reaches, as Lean functions, each with the contract that its Go code comes to just these answers. Written by a program of this claim's author (wip/mkprint.py). No conditions. -/
import Derived.Test.YtffnimaaolmbdaaPFoldAllx0
namespace Go.Proofs.Ytffnimaaolmbdaa.PFoldAll
open Go.RowKit Go.Proofs.YtffnimaaolmbdaaW.PrintWords Go.Proofs.YtffnimaaolmbdaaW.PrintLast Go.Proofs.YtffnimaaolmbdaaW.PrintMore
attribute [local go_sem] max2_int min2_int max_two min_two max_three min_three max_four min_four   -- for this text's walks alone
set_option linter.unusedVariables false
set_option linter.unusedSimpArgs false

-- NOT PRINTED: function 116 (slices_xorshift_Next)

-- NOT PRINTED: function 105 (api_Pair_105)

-- NOT PRINTED: function 120 (api_Pair_120)

-- NOT PRINTED: function 118 (api_Pair_118)

-- NOT PRINTED: function 117 (api_Pair_117)

-- NOT PRINTED: function 106 (api_Pair_106)

-- NOT PRINTED: function 110 (api_Pair_110)

-- NOT PRINTED: function 97 (api_Pair_97)

-- NOT PRINTED: function 82 (api_Pair_82)

/-! ### fold_Fold and what it leans on -/
def scmp (a b : ByteArray) : Int := if Op.bytesLess a.toList b.toList = true then -1 else if Op.bytesLess b.toList a.toList = true then 1 else 0
theorem nan_x (a : ByteArray) (w : World) : Calls Try.prog 99 #[.string a] w fun e w' => e = .returned (.bool false) ∧ w' = w := by
 go_enter Try.func99, Try.ntmps99
 go_wp2
 go_ret
 exact ⟨rfl, rfl⟩
set_option maxHeartbeats 4000000 in
theorem cmp84 (a b : ByteArray) (w : World) : Calls Try.prog 84 #[.string a, .string b] w fun e w' => e = .returned (.int .i64 (scmp a b)) ∧ w' = w := by
 unfold scmp
 cases h1 : Op.bytesLess a.toList b.toList with
 | true =>
  rw [if_pos rfl]
  go_enter Try.func84, Try.ntmps84
  go_wp2_with (first | (go_at_call 99; refine (nan_x _ _).mono ?_; rintro e w1 ⟨rfl, rfl⟩))
  go_ret
  exact ⟨rfl, rfl⟩
 | false =>
  rw [if_neg Bool.false_ne_true]
  cases h2 : Op.bytesLess b.toList a.toList with
  | true =>
   rw [if_pos rfl]
   have h3 : (a.toList == b.toList) = false := bl_ne2 h2
   go_enter Try.func84, Try.ntmps84
   go_wp2_with (first | (go_at_call 99; refine (nan_x _ _).mono ?_; rintro e w1 ⟨rfl, rfl⟩))
   go_ret
   exact ⟨rfl, rfl⟩
  | false =>
   rw [if_neg Bool.false_ne_true]
   have h3 : (a.toList == b.toList) = true := bl_eq h1 h2
   go_enter Try.func84, Try.ntmps84
   go_wp2_with (first | (go_at_call 99; refine (nan_x _ _).mono ?_; rintro e w1 ⟨rfl, rfl⟩))
   go_ret
   exact ⟨rfl, rfl⟩
set_option maxHeartbeats 4000000 in
theorem lit83 (x y : S66) (W : World) : Calls Try.prog 83 #[.agg #[.string x.f0, .string x.f1], .agg #[.string y.f0, .string y.f1]] W fun e w' => e = .returned (.int .i64 (scmp x.f0 y.f0)) ∧ w' = (W.alloc (.cells #[.string x.f0, .string x.f1] 66)).alloc (.cells #[.string y.f0, .string y.f1] 66) := by
 have hu66 := Try.underlying66
 generalize hr : scmp x.f0 y.f0 = r
 have hcon : ∀ W', Calls Try.prog 84 #[.string x.f0, .string y.f0] W' fun e w' => e = .returned (.int .i64 r) ∧ w' = W' := fun W' => by rw [← hr]; exact cmp84 _ _ W'
 go_enter Try.func83, Try.ntmps83
 go_wp2_with (first | (go_at_call 84; refine (hcon _).mono ?_; rintro e w1 ⟨rfl, rfl⟩))
 go_ret
 exact ⟨rfl, rfl⟩
/-! ### a row of the call's own, sorted -/
instance : Inhabited S66 := ⟨z66⟩
def enc66 (x : S66) : List Value := [.string x.f0, .string x.f1]
theorem flat66_get (O : List S66) (t : Nat) (h : t < O.length * 2) : (Go.Sort.flatK enc66 2 O.toArray)[t]! = (enc66 (O.getD (t / 2) z66)).getD (t % 2) default := by
 rw [Go.Sort.get_flatK _ _ _ _ (by simpa using h)]
 have h3 : t / 2 < O.length := by omega
 rw [getElem!_pos O.toArray (t / 2) (by simpa using h3), List.getElem_toArray, List.getD_eq_getElem?_getD (l := O), List.getElem?_eq_getElem h3, Option.getD_some]
 rw [List.getD_eq_getElem?_getD]
 exact List.getElem!_eq_getElem?_getD ..
theorem reps66 {w : World} {base : Nat} {ok : Nat → Prop} {O : List S66} {inner : List Value} (h : Reps (k66.M w base ok) 2 O inner) : inner = (Go.Sort.flatK enc66 2 O.toArray).toList := by
 obtain ⟨h1, h2⟩ := h
 refine List.ext_getElem (by simp [h1]) (fun t ht1 ht2 => ?_)
 have ht : t < O.length * 2 := by omega
 have h3 : t / 2 < O.length := by omega
 have h4 := k66_openM (h2 (t / 2) (O[t / 2]) (List.getElem?_eq_getElem h3))
 have h5 : inner[t] = ((inner.drop (t / 2 * 2)).take 2).getD (t % 2) default := by
  rw [List.getD_eq_getElem?_getD, List.getElem?_take_of_lt (by omega), List.getElem?_drop, show t / 2 * 2 + t % 2 = t by omega, List.getElem?_eq_getElem ht1]; rfl
 have h6 := flat66_get O t ht
 rw [getElem!_pos _ t (by simpa using ht)] at h6
 rw [← Array.getElem_toList] at h6
 rw [h6, h5, h4, List.getD_eq_getElem?_getD (l := O), List.getElem?_eq_getElem h3]
 rfl
theorem reps66_mk (w : World) (base : Nat) (ok : Nat → Prop) (O : List S66) : Reps (k66.M w base ok) 2 O (Go.Sort.flatK enc66 2 O.toArray).toList := by
 refine ⟨by simp, fun j p hp => ?_⟩
 obtain ⟨hj, rfl⟩ := List.getElem?_eq_some_iff.1 hp
 have e : (((Go.Sort.flatK enc66 2 O.toArray).toList.drop (j * 2)).take 2) = enc66 O[j] := by
  refine List.ext_getElem (by simp [enc66]; omega) (fun t ht1 ht2 => ?_)
  have ht : t < 2 := by simpa [enc66] using ht2
  rw [List.getElem_take, List.getElem_drop, Array.getElem_toList]
  have h6 := flat66_get O (j * 2 + t) (by omega)
  rw [getElem!_pos _ _ (by simp; omega)] at h6
  rw [h6, show (j * 2 + t) / 2 = j by omega, show (j * 2 + t) % 2 = t by omega, List.getD_eq_getElem?_getD, List.getD_eq_getElem?_getD, List.getElem?_eq_getElem hj, Option.getD_some, List.getElem?_eq_getElem ht2]
  rfl
 rw [e]
 exact k66_mkM w base ok O[j]
theorem sort66_holds {w : World} {base : Nat} {ok : Nat → Prop} {O : List S66} {g cap n : Nat} (h : Kd.R k66 66 w base ok (.slice (some ⟨g, 0, none⟩) n cap) O) : Go.Sort.HoldsK enc66 2 w g 0 O.toArray := by
 obtain ⟨h0, inner, ho, hr⟩ := h
 have e := reps66 hr
 obtain ⟨hl, hx⟩ := ho
 rcases hx with ⟨hx, _⟩ | ⟨g', cap', cur, hv, hb, hh, hc1, hc2, hs, ht⟩
 · cases hx
 injection hv with hv1 hv2 hv3
 injection hv1 with hv4
 injection hv4 with hv5
 subst hv5
 have hs3 : k66.sz = 2 := rfl
 rw [hs3] at ht hs hl
 intro t htl
 have ht3 : t < O.length * 2 := by simpa using htl
 refine ⟨?_, blk_frozen hh _⟩
 rw [Nat.zero_add, blk_cell hh t]
 have h1 : cur.toList[t]? = inner[t]? := by rw [← ht, List.getElem?_take_of_lt ht3]
 rw [← Array.getElem?_toList, h1, e, Array.getElem?_toList, getElem!_pos _ t (by simpa using ht3), Array.getElem?_eq_getElem (by simpa using ht3)]
 rfl
theorem sort66_own {w : World} {base : Nat} {ok : Nat → Prop} {O O' : List S66} {g cap n m : Nat} {os : Array Obj} (h : Kd.R k66 66 w base ok (.slice (some ⟨g, 0, none⟩) n cap) O) (hl : O'.length = O.length) :
 Kd.R k66 66 (Go.Proofs.sortWorldK enc66 2 w g 0 m O'.toArray os) base ok (.slice (some ⟨g, 0, none⟩) n cap) O' ∧ ∀ B, B ≤ g → Below B w (Go.Proofs.sortWorldK enc66 2 w g 0 m O'.toArray os) := by
 have hlt := Kd.R_lt h g (by simp [Value.ownBlock])
 obtain ⟨h0, inner, ho, hr⟩ := h
 have e := reps66 hr
 obtain ⟨hl2, hx⟩ := ho
 rcases hx with ⟨hx, _⟩ | ⟨g', cap', cur, hv, hb, hh, hc1, hc2, hs, ht⟩
 · cases hx
 injection hv with hv1 hv2 hv3
 injection hv1 with hv4
 injection hv4 with hv5
 subst hv5 hv2 hv3
 have hs3 : k66.sz = 2 := rfl
 have heap : ∀ k, k < w.heap.size → (Go.Proofs.sortWorldK enc66 2 w g 0 m O'.toArray os).heap[k]? = if k = g then some (.cells (Go.Sort.putCells id 0 (Go.Sort.flatK enc66 2 O'.toArray) cur) 66 (0, 0)) else w.heap[k]? := by
  intro k hk
  have h1 : (Go.Proofs.sortWorldK enc66 2 w g 0 m O'.toArray os).heap = w.heap.modify g (Go.Sort.onCells (Go.Sort.putCells id 0 (Go.Sort.flatK enc66 2 O'.toArray))) ++ os := rfl
  rw [h1, Array.getElem?_append_left (by simpa using hk), Array.getElem?_modify]
  by_cases c : k = g
  ·
   subst c
   rw [if_pos rfl, if_pos rfl, hh]; rfl
  · rw [if_neg (fun e => c e.symm), if_neg c]
 refine ⟨⟨fun k hk => h0 k hk, (Go.Sort.flatK enc66 2 O'.toArray).toList, ⟨by simp [hs3], Or.inr ⟨g, cap, _, by rw [hl], hb, by rw [heap g hlt, if_pos rfl], by rw [hl]; exact hc1, hc2, by simp [Go.Sort.putCells, hs], ?_⟩⟩, reps66_mk _ _ _ _⟩, fun B hB => ⟨rfl, rfl, rfl, ?_, fun k hk => by rw [heap k (by omega), if_neg (by omega)]⟩⟩
 ·
  rw [hs3]
  have hsz : cur.size = cap * 2 := by rw [hs, hs3]
  refine List.ext_getElem (by simp [Go.Sort.putCells, hsz]; omega) (fun t ht1 ht2 => ?_)
  have ht3 : t < O'.length * 2 := by simpa using ht2
  rw [List.getElem_take, Array.getElem_toList, Array.getElem_toList]
  unfold Go.Sort.putCells
  rw [Array.getElem_mapIdx, if_pos ⟨Nat.zero_le _, by simpa using ht3⟩, Nat.sub_zero, getElem!_pos _ t (by simpa using ht3)]
  rfl
 ·
  show w.heap.size ≤ (w.heap.modify g _ ++ os).size
  simp
/-! ### what fold.Fold comes to -/
def plt (x y : S66) : Bool := Op.bytesLess x.f0.toList y.f0.toList
def Fold_put (k v : ByteArray) : List S66 → List S66
 | [] => [⟨k, v⟩]
 | y :: t => if Op.bytesLess k.toList y.f0.toList = true then ⟨k, v⟩ :: y :: t else if Op.bytesLess y.f0.toList k.toList = true then y :: Fold_put k v t else ⟨k, v⟩ :: t
def Fold_del (k : ByteArray) (l : List S66) : List S66 := l.filter fun y => y.f0.toList != k.toList
def Fold_step (M : List S66) (o : S72) : List S66 := if o.f0 = 1 then Fold_put o.f1 o.f2 M else if o.f0 = 2 then Fold_del o.f1 M else M
def Fold_ops (M : List S66) (l : List S72) : List S66 := l.foldl Fold_step M
def Fold_all (h : List S70) (n : Int) : List S66 := (h.take n.toNat).foldl (fun M b => Fold_ops M b.f1) []
def Fold_ok (h : List S70) : Bool := decide (h.length ≤ 1000) && h.all fun b => decide (b.f1.length ≤ 1000) && b.f1.all fun o => decide (o.f1.size ≤ 1000000) && decide (o.f2.size ≤ 1000000)
def fold_Fold.f (_k : Nat) (h : List S70) (n : Int) : Option (List S66) := if Fold_ok h = true then some (Fold_all h n) else none
theorem fold_Fold.mono : ∀ a0 a1 k, LeO (fold_Fold.f k a0 a1) (fold_Fold.f (k + 1) a0 a1) := fun _ _ _ => LeO.refl _
theorem fl_trans : ∀ a b c : List UInt8, Op.bytesLess a b = true → Op.bytesLess b c = true → Op.bytesLess a c = true
 | [], [], _, h, _ => by simp [Op.bytesLess] at h
 | [], _ :: _, [], _, h => by simp [Op.bytesLess] at h
 | [], _ :: _, _ :: _, _, _ => by simp [Op.bytesLess]
 | _ :: _, [], _, h, _ => by simp [Op.bytesLess] at h
 | _ :: _, _ :: _, [], _, h => by simp [Op.bytesLess] at h
 | x :: a, y :: b, z :: c, h, k => by
  simp only [Op.bytesLess, Bool.or_eq_true, Bool.and_eq_true, decide_eq_true_eq, beq_iff_eq] at h k ⊢
  rcases h with h | ⟨h, h2⟩
  ·
   rcases k with k | ⟨k, _⟩
   · exact Or.inl (UInt8.lt_trans h k)
   · subst k; exact Or.inl h
  ·
   subst h
   rcases k with k | ⟨k, k2⟩
   · exact Or.inl k
   · exact Or.inr ⟨k, fl_trans a b c h2 k2⟩
theorem fl_eq {a b : List UInt8} (h : Op.bytesLess a b = false) (k : Op.bytesLess b a = false) : a = b := beq_iff_eq.1 (bl_eq h k)
theorem plt_trans (x y z : S66) (h1 : plt x y = true) (h2 : plt y z = true) : plt x z = true := fl_trans _ _ _ h1 h2
theorem plt_irrefl (x : S66) : plt x x = false := bl_irrefl _
theorem plt_ntrans (x y z : S66) (h1 : plt x y = false) (h2 : plt y z = false) : plt x z = false := by
 cases h : plt x z with
 | false => rfl
 | true =>
  cases h3 : plt z y with
  | true => rw [plt_trans _ _ _ h h3] at h1; cases h1
  | false =>
   unfold plt at *
   rw [fl_eq h2 h3, h] at h1
   cases h1
theorem ltOf_plt (x y : S66) : Go.Proofs.ltOf (fun x y : S66 => scmp x.f0 y.f0) x y = plt x y := by
 show decide (scmp x.f0 y.f0 < 0) = plt x y
 unfold plt scmp
 cases h1 : Op.bytesLess x.f0.toList y.f0.toList with
 | true => rw [if_pos rfl]; rfl
 | false =>
  rw [if_neg Bool.false_ne_true]
  cases h2 : Op.bytesLess y.f0.toList x.f0.toList with
  | true => rw [if_pos rfl]; rfl
  | false => rw [if_neg Bool.false_ne_true]; rfl
theorem plt_swo : Go.Sort.SWO (Go.Proofs.ltOf fun x y : S66 => scmp x.f0 y.f0) where
 irrefl x := by rw [ltOf_plt]; exact plt_irrefl _
 trans x y z h1 h2 := by rw [ltOf_plt] at *; exact plt_trans _ _ _ h1 h2
 ntrans x y z h1 h2 := by rw [ltOf_plt] at *; exact plt_ntrans x y z h1 h2
abbrev SP (l : List S66) : Prop := l.Pairwise (fun x y => plt x y = true)
/-- Two rising lists with the same members are one. -/
theorem sp_one : ∀ l1 l2 : List S66, SP l1 → SP l2 → (∀ z, z ∈ l1 ↔ z ∈ l2) → l1 = l2
 | [], [], _, _, _ => rfl
 | [], y :: u, _, _, h => absurd ((h y).2 (List.mem_cons_self ..)) (by simp)
 | x :: t, [], _, _, h => absurd ((h x).1 (List.mem_cons_self ..)) (by simp)
 | x :: t, y :: u, h1, h2, h => by
  have a1 := List.pairwise_cons.1 h1
  have a2 := List.pairwise_cons.1 h2
  have e : x = y := by
   rcases List.mem_cons.1 ((h x).1 (List.mem_cons_self ..)) with e | e
   · exact e
   ·
    rcases List.mem_cons.1 ((h y).2 (List.mem_cons_self ..)) with e2 | e2
    · exact e2.symm
    ·
     have := plt_trans _ _ _ (a1.1 y e2) (a2.1 x e)
     rw [plt_irrefl] at this; cases this
  subst e
  congr 1
  refine sp_one t u a1.2 a2.2 fun z => ⟨fun hz => ?_, fun hz => ?_⟩
  ·
   rcases List.mem_cons.1 ((h z).1 (List.mem_cons_of_mem _ hz)) with e | e
   ·
    subst e
    have := a1.1 z hz
    rw [plt_irrefl] at this; cases this
   · exact e
  ·
   rcases List.mem_cons.1 ((h z).2 (List.mem_cons_of_mem _ hz)) with e | e
   ·
    subst e
    have := a2.1 z hz
    rw [plt_irrefl] at this; cases this
   · exact e
/-- The value at a key. -/
def Fold_at (M : List S66) (s : ByteArray) : Option S66 := M.find? fun y => y.f0.toList == s.toList
theorem put_mem (k v : ByteArray) : ∀ (M : List S66) (z : S66), z ∈ Fold_put k v M → z = ⟨k, v⟩ ∨ z ∈ M
 | [], z, h => Or.inl (List.mem_singleton.1 h)
 | y :: t, z, h => by
  rw [Fold_put] at h
  by_cases c : Op.bytesLess k.toList y.f0.toList = true
  ·
   rw [if_pos c] at h
   exact List.mem_cons.1 h
  ·
   rw [if_neg c] at h
   by_cases d : Op.bytesLess y.f0.toList k.toList = true
   ·
    rw [if_pos d] at h
    rcases List.mem_cons.1 h with e | e
    · exact Or.inr (e ▸ List.mem_cons_self ..)
    · exact (put_mem k v t z e).imp_right (List.mem_cons_of_mem _)
   ·
    rw [if_neg d] at h
    rcases List.mem_cons.1 h with e | e
    · exact Or.inl e
    · exact Or.inr (List.mem_cons_of_mem _ e)
theorem put_sp (k v : ByteArray) : ∀ M : List S66, SP M → SP (Fold_put k v M)
 | [], _ => List.pairwise_singleton _ _
 | y :: t, h => by
  have a := List.pairwise_cons.1 h
  rw [Fold_put]
  by_cases c : Op.bytesLess k.toList y.f0.toList = true
  ·
   rw [if_pos c]
   refine List.pairwise_cons.2 ⟨fun z hz => ?_, h⟩
   rcases List.mem_cons.1 hz with e | e
   · subst e; exact c
   · exact fl_trans _ _ _ c (a.1 z e)
  ·
   rw [if_neg c]
   by_cases d : Op.bytesLess y.f0.toList k.toList = true
   ·
    rw [if_pos d]
    refine List.pairwise_cons.2 ⟨fun z hz => ?_, put_sp k v t a.2⟩
    rcases put_mem k v t z hz with e | e
    · subst e; exact d
    · exact a.1 z e
   ·
    rw [if_neg d]
    have e := fl_eq (Bool.eq_false_iff.2 c) (Bool.eq_false_iff.2 d)
    refine List.pairwise_cons.2 ⟨fun z hz => ?_, a.2⟩
    have := a.1 z hz
    unfold plt at this ⊢
    show Op.bytesLess k.toList z.f0.toList = true
    rw [e]; exact this
theorem del_sp (k : ByteArray) (M : List S66) (h : SP M) : SP (Fold_del k M) := h.filter _
theorem step_sp (M : List S66) (o : S72) (h : SP M) : SP (Fold_step M o) := by
 unfold Fold_step
 by_cases c : o.f0 = 1
 · rw [if_pos c]; exact put_sp _ _ _ h
 ·
  rw [if_neg c]
  by_cases d : o.f0 = 2
  · rw [if_pos d]; exact del_sp _ _ h
  · rw [if_neg d]; exact h
theorem at_head {y : S66} {t : List S66} {s : ByteArray} : Fold_at (y :: t) s = if (y.f0.toList == s.toList) = true then some y else Fold_at t s := by
 unfold Fold_at
 rw [List.find?_cons]
 split
 · rename_i h; rw [if_pos h]
 · rename_i h; rw [if_neg (by rw [h]; exact Bool.false_ne_true)]
theorem at_put (k v s : ByteArray) : ∀ M : List S66, SP M → Fold_at (Fold_put k v M) s = if (k.toList == s.toList) = true then some ⟨k, v⟩ else Fold_at M s
 | [], _ => at_head
 | y :: t, h => by
  have a := List.pairwise_cons.1 h
  rw [Fold_put]
  by_cases c : Op.bytesLess k.toList y.f0.toList = true
  · rw [if_pos c]; exact at_head
  ·
   rw [if_neg c]
   by_cases d : Op.bytesLess y.f0.toList k.toList = true
   ·
    rw [if_pos d, at_head, at_head, at_put k v s t a.2]
    by_cases e : (y.f0.toList == s.toList) = true
    ·
     rw [if_pos e, if_pos e, if_neg]
     intro e2
     rw [beq_iff_eq] at e e2
     rw [e2, e, bl_irrefl] at d; cases d
    · rw [if_neg e, if_neg e]
   ·
    rw [if_neg d, at_head, at_head]
    have e := fl_eq (Bool.eq_false_iff.2 c) (Bool.eq_false_iff.2 d)
    by_cases g : (k.toList == s.toList) = true
    · rw [if_pos g, if_pos g]
    · rw [if_neg g, if_neg g, if_neg (by rw [← e]; exact g)]
theorem at_del (k s : ByteArray) : ∀ M : List S66, Fold_at (Fold_del k M) s = if (k.toList == s.toList) = true then none else Fold_at M s
 | [] => by simp [Fold_del, Fold_at]
 | y :: t => by
  have ih := at_del k s t
  unfold Fold_del at ih ⊢
  rw [List.filter_cons, at_head]
  by_cases c : (y.f0.toList != k.toList) = true
  ·
   rw [if_pos c, at_head, ih]
   by_cases e : (y.f0.toList == s.toList) = true
   ·
    rw [if_pos e, if_pos e, if_neg]
    intro g
    rw [beq_iff_eq] at e g
    rw [g, e] at c; simp at c
   · rw [if_neg e, if_neg e]
  ·
   rw [if_neg c, ih]
   have c2 : y.f0.toList = k.toList := by simpa using c
   rw [c2]
   by_cases e : (k.toList == s.toList) = true
   · rw [if_pos e, if_pos e]
   · rw [if_neg e, if_neg e, if_neg e]
theorem at_mem {M : List S66} {s : ByteArray} {z : S66} (h : Fold_at M s = some z) : z ∈ M ∧ z.f0.toList = s.toList :=
 ⟨List.mem_of_find?_eq_some h, by have h2 := List.find?_some (p := fun y : S66 => y.f0.toList == s.toList) h; exact beq_iff_eq.1 h2⟩
theorem mem_at : ∀ {M : List S66} {z : S66}, SP M → z ∈ M → Fold_at M z.f0 = some z
 | y :: t, z, h, hz => by
  have a := List.pairwise_cons.1 h
  rw [at_head]
  rcases List.mem_cons.1 hz with e | e
  · rw [e, if_pos (beq_self_eq_true _)]
  ·
   rw [if_neg]
   · exact mem_at a.2 e
   ·
    intro g
    have := a.1 z e
    unfold plt at this
    rw [beq_iff_eq.1 g, bl_irrefl] at this; cases this
/-! ### slices.SortFunc at pairs, by the kit's contract -/
def foldSort_ren : Go.Shelf.Ren := ⟨fun | 6 => 82 | 15 => 98 | 14 => 97 | 28 => 111 | 29 => 112 | 20 => 103 | 21 => 104 | 22 => 105 | 23 => 106 | 24 => 107 | 25 => 108 | 26 => 109 | 27 => 110 | 46 => 114 | 47 => 115 | 48 => 116 | 49 => 117 | 50 => 118 | 57 => 120 | n => n, fun | 22 => 63 | 24 => 66 | 25 => 113 | 3 => 3 | 39 => 124 | 0 => 0 | 53 => 39 | 55 => 142 | 4 => 4 | 46 => 134 | 45 => 133 | 50 => 138 | 5 => 5 | 9 => 9 | 66 => 143 | 70 => 85 | 76 => 148 | 77 => 149 | n => n, fun | n => n⟩
theorem foldSort : Go.Proofs.SlLaysF0.n6 Try.prog foldSort_ren where
 mixed := by kernel_rfl
 f6 := ⟨"slices.SortFunc[[]icebox/api.Pair,icebox/api.Pair]", by decide, Try.func82.trans (congrArg some (by kernel_rfl))⟩
 f14 := ⟨"slices.pdqsortCmpFunc[icebox/api.Pair]", by decide, Try.func97.trans (congrArg some (by kernel_rfl))⟩
 f15 := Try.func98.trans (congrArg some (by kernel_rfl))
 f20 := ⟨"slices.insertionSortCmpFunc[icebox/api.Pair]", by decide, Try.func103.trans (congrArg some (by kernel_rfl))⟩
 f21 := ⟨"slices.heapSortCmpFunc[icebox/api.Pair]", by decide, Try.func104.trans (congrArg some (by kernel_rfl))⟩
 f22 := ⟨"slices.breakPatternsCmpFunc[icebox/api.Pair]", by decide, Try.func105.trans (congrArg some (by kernel_rfl))⟩
 f23 := ⟨"slices.choosePivotCmpFunc[icebox/api.Pair]", by decide, Try.func106.trans (congrArg some (by kernel_rfl))⟩
 f24 := ⟨"slices.reverseRangeCmpFunc[icebox/api.Pair]", by decide, Try.func107.trans (congrArg some (by kernel_rfl))⟩
 f25 := ⟨"slices.partialInsertionSortCmpFunc[icebox/api.Pair]", by decide, Try.func108.trans (congrArg some (by kernel_rfl))⟩
 f26 := ⟨"slices.partitionEqualCmpFunc[icebox/api.Pair]", by decide, Try.func109.trans (congrArg some (by kernel_rfl))⟩
 f27 := ⟨"slices.partitionCmpFunc[icebox/api.Pair]", by decide, Try.func110.trans (congrArg some (by kernel_rfl))⟩
 f28 := Try.func111.trans (congrArg some (by kernel_rfl))
 f29 := Try.func112.trans (congrArg some (by kernel_rfl))
 f46 := ⟨"slices.siftDownCmpFunc[icebox/api.Pair]", by decide, Try.func114.trans (congrArg some (by kernel_rfl))⟩
 f47 := Try.func115.trans (congrArg some (by kernel_rfl))
 f48 := Try.func116.trans (congrArg some (by kernel_rfl))
 f49 := ⟨"slices.medianAdjacentCmpFunc[icebox/api.Pair]", by decide, Try.func117.trans (congrArg some (by kernel_rfl))⟩
 f50 := ⟨"slices.medianCmpFunc[icebox/api.Pair]", by decide, Try.func118.trans (congrArg some (by kernel_rfl))⟩
 f57 := ⟨"slices.order2CmpFunc[icebox/api.Pair]", by decide, Try.func120.trans (congrArg some (by kernel_rfl))⟩
 t0 := Try.underlying0
 a0 := Try.isAgg0
 z0 := Try.sizeOf0
 v0 := Try.zeroValue0
 t3 := Try.underlying3
 a3 := Try.isAgg3
 z3 := Try.sizeOf3
 v3 := Try.zeroValue3
 t4 := Try.underlying4
 a4 := Try.isAgg4
 z4 := Try.sizeOf4
 v4 := Try.zeroValue4
 t5 := Try.underlying5
 a5 := Try.isAgg5
 z5 := Try.sizeOf5
 v5 := Try.zeroValue5
 t9 := Try.underlying9
 a9 := Try.isAgg9
 z9 := Try.sizeOf9
 v9 := Try.zeroValue9
 t22 := Try.underlying63
 a22 := Try.isAgg63
 z22 := Try.sizeOf63
 v22 := Try.zeroValue63
 t25 := Try.underlying113
 a25 := Try.isAgg113
 z25 := Try.sizeOf113
 v25 := Try.zeroValue113
 t39 := Try.underlying124
 a39 := Try.isAgg124
 z39 := Try.sizeOf124
 v39 := Try.zeroValue124
 t45 := Try.underlying133
 a45 := Try.isAgg133
 z45 := Try.sizeOf133
 v45 := Try.zeroValue133
 t46 := Try.underlying134
 a46 := Try.isAgg134
 z46 := Try.sizeOf134
 v46 := Try.zeroValue134
 t50 := Try.underlying138
 a50 := Try.isAgg138
 z50 := Try.sizeOf138
 v50 := Try.zeroValue138
 t53 := Try.underlying39
 a53 := Try.isAgg39
 z53 := Try.sizeOf39
 v53 := Try.zeroValue39
 t55 := Try.underlying142
 a55 := Try.isAgg142
 z55 := Try.sizeOf142
 v55 := Try.zeroValue142
 t66 := Try.underlying143
 a66 := Try.isAgg143
 z66 := Try.sizeOf143
 v66 := Try.zeroValue143
 t70 := Try.underlying85
 a70 := Try.isAgg85
 z70 := Try.sizeOf85
 v70 := Try.zeroValue85
 t76 := Try.underlying148
 a76 := Try.isAgg148
 z76 := Try.sizeOf148
 v76 := Try.zeroValue148
 t77 := Try.underlying149
 a77 := Try.isAgg149
 z77 := Try.sizeOf149
 v77 := Try.zeroValue149
theorem closure83 (x y : S66) (W : World) : Calls Try.prog 83 #[.agg (enc66 x).toArray, .agg (enc66 y).toArray] W fun e w' => e = .returned (.int .i64 (scmp x.f0 y.f0)) ∧ ∃ q os', w' = Go.Sort.grow (W.drewN q) os' :=
 (lit83 x y W).mono fun _ _ ⟨he, hw⟩ => ⟨he, 0, #[.cells #[.string x.f0, .string x.f1] 66] ++ #[.cells #[.string y.f0, .string y.f1] 66], by rw [hw, Go.Sort.alloc_eq_grow, Go.Sort.alloc_eq_grow, Go.Sort.grow_grow]; rfl⟩
theorem sort82 (v : Value) (O M : List S66) (w : World) (base : Nat) (hbase : base ≤ w.heap.size) (h : Kd.R k66 66 w base (fun _ => True) v O) (hl : O.length ≤ 1000000) (hd : O.Pairwise (fun x y => x.f0.toList ≠ y.f0.toList)) (hM : SP M) (hOM : ∀ z, z ∈ O ↔ z ∈ M) :
 Calls Try.prog 82 #[v, .func (.func 83) #[] #[]] w fun e w' => e = .returned (.tuple #[]) ∧ Kd.R k66 66 w' base (fun _ => True) v M ∧ Below base w w' := by
 rcases Nat.eq_zero_or_pos O.length with hz | hz
 ·
  obtain rfl : O = [] := List.length_eq_zero_iff.1 hz
  obtain rfl : M = [] := List.eq_nil_iff_forall_not_mem.2 fun z hz => by have := (hOM z).2 hz; cases this
  obtain ⟨A, c, rfl⟩ := Kd.R_slice h
  have hcon := Go.Proofs.AnyF.slices_SortFunc_none foldSort A c (.func (.func 83) #[] #[]) w
  change Calls Try.prog 82 _ _ _ at hcon
  refine hcon.mono ?_
  rintro e w' ⟨rfl, rfl⟩
  exact ⟨rfl, h, Below.refl _ _⟩
 ·
  obtain ⟨g, cap, rfl, hb, hlt, cells, hc⟩ := Kd.R_form h hz
  have eg : ∀ args w, (callFunc 83 args).run Try.prog w = .ok (.enter 83 args) w := enters_of Try.func83 (by kernel_rfl) rfl
  have hcon := Go.Proofs.AnyQ.slices_SortFunc foldSort 2 Try.isAgg66 Try.sizeOf66 enc66 (fun _ => rfl) (fun x v hv => by simp [enc66] at hv; rcases hv with rfl | rfl <;> rfl) (fun x y : S66 => scmp x.f0 y.f0) plt_swo 83 #[] g 0 cap O.toArray w eg (fun _ _ _ _ x y => closure83 x y _) (sort66_holds h) hlt (by simp; omega)
  change Calls Try.prog 82 _ _ _ at hcon
  refine hcon.mono ?_
  rintro e w' ⟨rfl, d', n, os, hp, hs, rfl⟩
  obtain ⟨L, rfl⟩ : ∃ L : List S66, d' = L.toArray := ⟨d'.toList, by simp⟩
  obtain ⟨hp1, _, hp2⟩ := hp
  have hlen : L.length = O.length := by simpa using hp1
  have hperm : L.Perm O := by
   have e1 : (L.toArray.extract 0 O.toArray.size).toList = L := by simp [← hlen]
   have e2 : (O.toArray.extract 0 O.toArray.size).toList = O := by simp
   rw [e1, e2] at hp2; exact hp2
  have hd2 : L.Pairwise (fun x y => x.f0.toList ≠ y.f0.toList) := hperm.symm.pairwise hd (fun h e => h e.symm)
  have hup : SP L := by
   rw [SP, List.pairwise_iff_getElem]
   intro i j hi hj hij
   have h1 := hs i j (Nat.zero_le _) hij (by simpa [← hlen] using hj)
   rw [ltOf_plt, getElem!_pos L.toArray j (by simpa using hj), getElem!_pos L.toArray i (by simpa using hi)] at h1
   have h2 := List.pairwise_iff_getElem.1 hd2 i j hi hj hij
   cases h3 : plt L[i] L[j] with
   | true => rfl
   | false => exact absurd (fl_eq h3 h1) h2
  have e := sp_one L M hup hM (fun z => (hperm.mem_iff).trans (hOM z))
  subst e
  obtain ⟨r1, r2⟩ := sort66_own (m := n) (os := os) h hlen
  exact ⟨rfl, r1, r2 base hb⟩
/-! ### the map -/
open Go.Maps in
def FMD (D : DataW Unit) (M : List S66) : Prop := IsMap D ∧ ∀ (s : ByteArray) (z : DataW Unit), s.size ≤ maxLen → D.atKey (.string s.data.toList) z = (Fold_at M s).elim z fun p => .lit (.string p.f1.data.toList)
theorem fmd_nil : FMD (.map []) [] := ⟨Go.Maps.isMap_empty, fun s z _ => rfl⟩
theorem fmd_put {D : DataW Unit} {M : List S66} (h : FMD D M) (hM : SP M) (k v : ByteArray) : FMD (D.put (.string k.data.toList) (.lit (.string v.data.toList))) (Fold_put k v M) := by
 refine ⟨h.1.put _ _, fun s z hs => ?_⟩
 rw [at_put k v s M hM]
 by_cases c : (k.toList == s.toList) = true
 ·
  rw [if_pos c]
  have e2 := beq_iff_eq.1 c
  rw [Go.ByteArray.toList_eq, Go.ByteArray.toList_eq] at e2
  rw [← e2, Go.Maps.atKey_put_same h.1 (by simp [Go.WideAt.IsKeyLit])]
  rfl
 ·
  rw [if_neg c]
  have e2 : ¬ k.toList = s.toList := fun e => c (beq_iff_eq.2 e)
  rw [Go.ByteArray.toList_eq, Go.ByteArray.toList_eq] at e2
  rw [Go.Maps.atKey_put_other (fun h => e2 (by injection h with h; exact h.symm)), h.2 s z hs]
theorem fmd_del {D : DataW Unit} {M : List S66} (h : FMD D M) (k : ByteArray) : FMD (D.del (.string k.data.toList)) (Fold_del k M) := by
 refine ⟨h.1.del _, fun s z hs => ?_⟩
 rw [at_del k s M]
 by_cases c : (k.toList == s.toList) = true
 ·
  rw [if_pos c]
  have e2 := beq_iff_eq.1 c
  rw [Go.ByteArray.toList_eq, Go.ByteArray.toList_eq] at e2
  rw [← e2, Go.Maps.atKey_del_same]
  rfl
 ·
  rw [if_neg c]
  have e2 : ¬ k.toList = s.toList := fun e => c (beq_iff_eq.2 e)
  rw [Go.ByteArray.toList_eq, Go.ByteArray.toList_eq] at e2
  rw [Go.Maps.atKey_del_other (fun h => e2 (by injection h with h; exact h.symm)), h.2 s z hs]
/-- Block B is the map of M, laid by at most m stores. -/
def FMap (w : World) (B m : Nat) (M : List S66) : Prop := ∃ D : DataW Unit, w.ownsMap Try.prog 9 (plainElem Try.prog 9) B m D ∧ FMD D M ∧ SP M ∧ ∀ z ∈ M, z.f0.size ≤ 1000000
theorem fmap_made (w : World) : FMap (w.alloc (.map #[] 0)) w.heap.size 0 [] := ⟨.map [], World.ownsMap_made w _ _ _, fmd_nil, List.Pairwise.nil, fun _ h => by cases h⟩
theorem FMap.mono {w : World} {B m m' : Nat} {M : List S66} (h : FMap w B m M) (hm : m ≤ m') : FMap w B m' M := by
 obtain ⟨D, h1, h2⟩ := h
 exact ⟨D, h1.mono hm, h2⟩
theorem FMap.kept {w w' : World} {B m : Nat} {M : List S66} {row : Option Nat} (h : FMap w B m M) (hg : w.grownBy w' row) (hne : some B ≠ row) : FMap w' B m M := by
 obtain ⟨D, h1, h2⟩ := h
 exact ⟨D, h1.kept hg hne, h2⟩
theorem FMap.alloc {w : World} {B m : Nat} {M : List S66} (h : FMap w B m M) (o : Obj) : FMap (w.alloc o) B m M := by
 obtain ⟨D, h1, h2⟩ := h
 exact ⟨D, h1.alloc o, h2⟩
theorem FMap.putI {w : World} {B m : Nat} {D : DataW Unit} {M : List S66} {k v : ByteArray} (h1 : w.ownsMap Try.prog 9 (plainElem Try.prog 9) B (m + 1) (D.put (.string k.data.toList) (.lit (.string v.data.toList)))) (h2 : FMD D M) (h3 : SP M) (h4 : ∀ z ∈ M, z.f0.size ≤ 1000000) (hk : k.size ≤ 1000000) : FMap w B (m + 1) (Fold_put k v M) :=
 ⟨_, h1, fmd_put h2 h3 k v, put_sp k v M h3, fun z hz => by
  rcases put_mem k v M z hz with e | e
  · rw [e]; exact hk
  · exact h4 z e⟩
theorem FMap.delI {w : World} {B m : Nat} {D : DataW Unit} {M : List S66} {k : ByteArray} (h1 : w.ownsMap Try.prog 9 (plainElem Try.prog 9) B m (D.del (.string k.data.toList))) (h2 : FMD D M) (h3 : SP M) (h4 : ∀ z ∈ M, z.f0.size ≤ 1000000) : FMap w B (m + 1) (Fold_del k M) :=
 ⟨_, h1.mono (Nat.le_succ _), fmd_del h2 k, del_sp k M h3, fun z hz => h4 z (List.mem_filter.1 hz).1⟩
theorem keyOf_str_inv {P : Program} {k : TypeId} (hk : P.underlying k = some .string) {key : Value} {kl : Lit} (h : keyOf P k key = some kl) : ∃ x : ByteArray, key = .string x ∧ kl = .string x.data.toList ∧ x.size ≤ maxLen := by
 cases key <;> simp [keyOf, hk, mapKey] at h
 exact ⟨_, rfl, h.2.symm, by simpa [Lit.wf] using h.1⟩
theorem plE_str_inv {H : Type} {P : Program} {e : TypeId} (he : P.underlying e = some .string) {v : Value} {z : DataW H × List MemPlace} (h : plainElem P e v = some z) : ∃ s : ByteArray, v = .string s ∧ z = (.lit (.string s.data.toList), []) ∧ s.size ≤ maxLen := by
 unfold plainElem at h
 rw [he] at h
 cases v <;> simp at h
 exact ⟨_, rfl, h.2.symm, h.1⟩
/-- The range's step: keys and elements that are strings. -/
theorem next_ss {H : Type} {P : Program} (w : World) {ops : Array Oper} {rest : List Oper} {o : Oper} {a : Act} {Q : Exit → Act → World → Prop}
 (hg : o.guard = none) (it : Operand) (hop : o.op = Op.next it false) (k e : TypeId) (K : Go.Maps.Keyed P k) (hk : P.underlying k = some .string) (he : P.underlying e = some .string)
 (b r n : Nat) (D : DataW H) (left : Lit → Bool) (cnt : Nat) (hit : a.eval it = .pointer (some ⟨r, 0, none⟩)) (h : w.ranges P k (plainElem P e) b r n D left cnt)
 (hDone : cnt = 0 → (∀ kl, left kl = false) → wpList P ops Q rest (a.put o.dst (.tuple #[.bool false])) w)
 (hMore : ∀ (x c : ByteArray) (w' : World) (cnt' : Nat), x.size ≤ maxLen → c.size ≤ maxLen → left (.string x.data.toList) = true → (∀ zd, D.atKey (.string x.data.toList) zd = .lit (.string c.data.toList)) → w'.ranges P k (plainElem P e) b r n D (fun z => left z && !z.sameKey (.string x.data.toList)) cnt' → cnt' < cnt →
  w.grownBy w' (some r) → w'.heap.size = w.heap.size → (Instr.entry (.pointer (some ⟨r, 0, none⟩))).run P w' = .ok (.tuple #[.string x, .string c]) w' → wpList P ops Q rest (a.put o.dst (.tuple #[.bool true, .string x, .string c])) w') :
 wpList P ops Q (o :: rest) a w :=
 wpList_next_ranges w hg it hop k K (plainElem P e) Value.string Value.string (fun key kl hkey => by obtain ⟨x, rfl, _⟩ := keyOf_str_inv hk hkey; exact ⟨x, rfl⟩) (fun v y hv => by obtain ⟨c, rfl, _⟩ := plE_str_inv he hv; exact ⟨c, rfl⟩)
  b r n D left cnt hit h hDone (fun x c kl y w' cnt' hkey hlk hv hat hrg hlt hgr hsz hen => by
   obtain ⟨x', ex, rfl, hwx⟩ := keyOf_str_inv hk hkey
   cases ex
   obtain ⟨c', ec, rfl, hwc⟩ := plE_str_inv he hv
   cases ec
   exact hMore x c w' cnt' hwx hwc hlk hat hrg hlt hgr hsz hen)
/-- What a range over the map has gathered. -/
structure Got (D : DataW Unit) (M O : List S66) (left : Lit → Bool) : Prop where
 mem : ∀ z ∈ O, z ∈ M ∧ left (.string z.f0.data.toList) = false
 apart : O.Pairwise (fun x y => x.f0.toList ≠ y.f0.toList)
 rest : ∀ z ∈ M, left (.string z.f0.data.toList) = true ∨ z ∈ O
theorem got_start {D : DataW Unit} {M : List S66} (h : FMD D M) (hM : SP M) (h4 : ∀ z ∈ M, z.f0.size ≤ 1000000) : Got D M [] (Go.Maps.has D) :=
 ⟨fun _ h => (by cases h), List.Pairwise.nil, fun z hz => Or.inl (Go.Maps.has_true_of_atKey (y := .lit (.string z.f1.data.toList)) fun d => by
  rw [h.2 _ _ (by have := h4 z hz; unfold maxLen; omega), mem_at hM hz]; rfl)⟩
theorem got_step {D : DataW Unit} {M O : List S66} {left : Lit → Bool} (h : FMD D M) (hM : SP M) (hO : Got D M O left) {x c : ByteArray} (hx : x.size ≤ maxLen) (hl : left (.string x.data.toList) = true) (hat : ∀ zd, D.atKey (.string x.data.toList) zd = .lit (.string c.data.toList)) :
 Got D M (O ++ [⟨x, c⟩]) (fun z => left z && !z.sameKey (.string x.data.toList)) := by
 have hp : ∃ p, Fold_at M x = some p ∧ p.f1.data.toList = c.data.toList := by
  have h1 := h.2 x .nil hx
  rw [hat] at h1
  cases e : Fold_at M x with
  | none => rw [e] at h1; cases h1
  | some p =>
   rw [e] at h1
   refine ⟨p, rfl, ?_⟩
   have h1 : (DataW.lit (.string c.data.toList) : DataW Unit) = .lit (.string p.f1.data.toList) := h1
   injection h1 with h1
   injection h1 with h1
   exact h1.symm
 obtain ⟨p, hp1, hp2⟩ := hp
 obtain ⟨hpm, hpk⟩ := at_mem hp1
 have e0 : p.f0 = x := by
  rw [Go.ByteArray.toList_eq, Go.ByteArray.toList_eq] at hpk
  exact ByteArray.ext (Array.ext' hpk)
 have e1 : p.f1 = c := ByteArray.ext (Array.ext' hp2)
 have ep : p = ⟨x, c⟩ := by rw [← e0, ← e1]
 have hself : (Lit.string x.data.toList).sameKey (.string x.data.toList) = true := Go.WideAt.sameKey_self (by simp [Go.WideAt.IsKeyLit])
 refine ⟨fun z hz => ?_, ?_, fun z hz => ?_⟩
 ·
  rcases List.mem_append.1 hz with e | e
  ·
   obtain ⟨a, b⟩ := hO.mem z e
   exact ⟨a, by rw [b]; rfl⟩
  ·
   rw [List.mem_singleton.1 e]
   exact ⟨ep ▸ hpm, by show (left _ && !_) = false; rw [hself, Bool.not_true, Bool.and_false]⟩
 ·
  refine List.pairwise_append.2 ⟨hO.apart, List.pairwise_singleton _ _, fun z hz y hy => ?_⟩
  rw [List.mem_singleton.1 hy]
  intro e
  have b := (hO.mem z hz).2
  have e : z.f0.toList = x.toList := e
  rw [Go.ByteArray.toList_eq, Go.ByteArray.toList_eq] at e
  rw [e, hl] at b; cases b
 ·
  rcases hO.rest z hz with e | e
  ·
   by_cases g : z.f0.data.toList = x.data.toList
   ·
    right
    have e3 : z.f0 = x := ByteArray.ext (Array.ext' g)
    have e4 := mem_at hM hz
    rw [e3, hp1] at e4
    injection e4 with e4
    rw [← e4, ep]
    exact List.mem_append_right _ (List.mem_singleton_self _)
   ·
    left
    show (left _ && !_) = true
    rw [e, Go.Maps.sameKey_ne (fun q => g (by injection q))]
    rfl
  · exact Or.inr (List.mem_append_left _ e)
theorem got_end {D : DataW Unit} {M O : List S66} {left : Lit → Bool} (hO : Got D M O left) (hl : ∀ kl, left kl = false) : ∀ z, z ∈ O ↔ z ∈ M :=
 fun z => ⟨fun h => (hO.mem z h).1, fun h => (hO.rest z h).resolve_left (by rw [hl]; exact Bool.false_ne_true)⟩
theorem Below.lower0 {B B' : Nat} {a w : World} (h : Below B a w) (hb : B' ≤ B) : Below B' a w := ⟨h.os, h.tape, h.output, h.size, fun k hk => h.block k (Nat.lt_of_lt_of_le hk hb)⟩
theorem infoP66 : (Try.prog.info? 66).map (fun i => (i.zero, i.size, i.bytes)) = some (some (.agg #[(.string ⟨#[]⟩), (.string ⟨#[]⟩)]), 2, 32) := by kernel_rfl
def Fold_upto (h : List S70) (i : Nat) : List S66 := (h.take i).foldl (fun M b => Fold_ops M b.f1) []
theorem upto_succ (h : List S70) (i : Nat) (hi : i < h.length) : Fold_upto h (i + 1) = Fold_ops (Fold_upto h i) (rd_T70 h (i : Int)).f1 := by
 unfold Fold_upto
 rw [List.take_succ_eq_append_getElem hi, List.foldl_append]
 unfold rd_T70
 rw [Int.toNat_natCast, List.getD_eq_getElem?_getD, List.getElem?_eq_getElem hi]
 rfl
theorem ops_succ (M : List S66) (l : List S72) (j : Nat) (hj : j < l.length) : Fold_ops M (l.take (j + 1)) = Fold_step (Fold_ops M (l.take j)) (rd_T72 l (j : Int)) := by
 unfold Fold_ops
 rw [List.take_succ_eq_append_getElem hj, List.foldl_append]
 unfold rd_T72
 rw [Int.toNat_natCast, List.getD_eq_getElem?_getD, List.getElem?_eq_getElem hj]
 rfl
set_option maxHeartbeats 4000000 in
set_option maxRecDepth 100000 in
theorem fold_walk (A0 : Option Addr) (c0 : Nat) (l0 : List S70) (a1 : Int) (w : World) (hr0 : Kd.C k70 w A0 l0.length l0) (hc0 : l0.length ≤ c0) (hok : Fold_ok l0 = true) :
 Calls Try.prog 40 #[.slice A0 l0.length c0, .int .i64 a1] w fun e w' => ∃ v0_ : Value, e = .returned v0_ ∧ Kd.R k66 66 w' w.heap.size (fun _ => True) v0_ (Fold_all l0 a1) ∧ Below w.heap.size w w' := by
 have hmm := @run_makeMap Try.prog
 have hu70 := Try.underlying70
 have hu72 := Try.underlying72
 have HC := Aside0.mk hr0
 have HC0 := Aside0.mk hc0
 have HL := Aside0.mk (show l0.length ≤ 1000 by unfold Fold_ok at hok; simp at hok; exact hok.1)
 have HK := Aside0.mk (show ∀ i : Nat, i < l0.length → (rd_T70 l0 (i : Int)).f1.length ≤ 1000 ∧ ∀ j : Nat, j < (rd_T70 l0 (i : Int)).f1.length → (rd_T72 (rd_T70 l0 (i : Int)).f1 (j : Int)).f1.size ≤ 1000000 ∧ (rd_T72 (rd_T70 l0 (i : Int)).f1 (j : Int)).f2.size ≤ 1000000 by
  intro i hi
  unfold Fold_ok at hok
  simp only [Bool.and_eq_true, List.all_eq_true, decide_eq_true_eq] at hok
  have e : rd_T70 l0 (i : Int) = l0[i] := by
   unfold rd_T70
   rw [Int.toNat_natCast, List.getD_eq_getElem?_getD, List.getElem?_eq_getElem hi]; rfl
  rw [e]
  obtain ⟨a, b⟩ := hok.2 (l0[i]) (List.getElem_mem hi)
  refine ⟨a, fun j hj => ?_⟩
  have e2 : rd_T72 l0[i].f1 (j : Int) = l0[i].f1[j] := by
   unfold rd_T72
   rw [Int.toNat_natCast, List.getD_eq_getElem?_getD, List.getElem?_eq_getElem hj]; rfl
  rw [e2]
  exact b _ (List.getElem_mem hj))
 clear hr0 hc0 hok
 have hM0 := Aside0.mk (fmap_made w)
 have hB0 := Aside0.mk (below_alloc (Below.refl w.heap.size w) (.map #[] 0))
 go_enter Try.func40, Try.ntmps40
 go_wp2_with (first
  | (with_reducible refine wp_label ?_) | (with_reducible refine wp_scope_straight ?_) | (simp only [Exit.noGoto_ret, Exit.noGoto_normal, Exit.noGoto_exit]))
 rename_i Q' K hK
 have HKK := Aside0.mk hK
 clear hK
 go_loopw [16] (fun v16 wr => ∃ i : Nat, i ≤ l0.length ∧ i ≤ a1.toNat ∧ v16 = .int .i64 (i : Int) ∧ Aside0 (FMap wr w.heap.size (i * 1000) (Fold_upto l0 i)) ∧ Aside0 (Below w.heap.size w wr) ∧ Aside0 (w.heap.size + 1 ≤ wr.heap.size)) (fun v16 _ => (l0.length - (intOf v16)).toNat)
 case atStart => exact ⟨0, Nat.zero_le _, Nat.zero_le _, rfl, hM0, hB0, ⟨by rw [show (w.alloc (.map #[] 0)).heap.size = w.heap.size + 1 from Array.size_push ..]; exact Nat.le_refl _⟩⟩
 case round =>
  obtain ⟨i, hi, hia, e16, HM, HB, HZ⟩ := hrel
  subst e16
  by_cases cc : i < l0.length ∧ (i : Int) < a1
  ·
   obtain ⟨c, ca⟩ := cc
   obtain ⟨ad, A1, c1, ead, x0, x1, hl1, hc1⟩ := at_T70 HC.out (i : Int) (Int.natCast_nonneg _) (by omega)
   subst ead
   replace x0 := (HB.out.cell (World.block_lt_of_cell? w _ x0)).trans x0
   replace x1 := (HB.out.cell (World.block_lt_of_cell? w _ x1)).trans x1
   rw [Int.toNat_natCast] at x0 x1
   have EUP := Aside0.mk (upto_succ l0 i c)
   obtain ⟨hb1, hb2⟩ := HK.out i c
   generalize rd_T70 l0 (i : Int) = b at *
   have HB1 := Aside0.mk hb1
   have HB2 := Aside0.mk hb2
   have HC1 := Aside0.mk hc1
   have HL1 := Aside0.mk hl1
   clear hb1 hb2 hc1 hl1
   have p0 : (0 : Int) ≤ (i : Int) := Int.natCast_nonneg _
   have p1 : (i : Int) < (l0.length : Int) := by omega
   have q0 : decide ((i : Int) < (l0.length : Int)) = true := decide_eq_true p1
   have q1 : decide (a1 ≤ (i : Int)) = false := decide_eq_false (by omega)
   have CA := Aside0.mk ca
   have CC := Aside0.mk c
   clear ca c
   go_wp2_with (first
    | (with_reducible refine wp_label ?_) | (with_reducible refine wp_scope_straight ?_) | (simp only [Exit.noGoto_ret, Exit.noGoto_normal, Exit.noGoto_exit]))
   have HM1 := Aside0.mk (HM.out.alloc (Obj.cells #[Value.int IntKind.i64 b.f0, Value.slice A1 b.f1.length c1] 70))
   have HB1' := Aside0.mk (below_alloc HB.out (Obj.cells #[Value.int IntKind.i64 b.f0, Value.slice A1 b.f1.length c1] 70))
   have HZ1 := Aside0.mk (Nat.le_trans HZ.out (World.grownBy_alloc wr (Obj.cells #[Value.int IntKind.i64 b.f0, Value.slice A1 b.f1.length c1] 70) none).size)
   clear x0 x1
   generalize hw1 : wr.alloc (Obj.cells #[Value.int IntKind.i64 b.f0, Value.slice A1 b.f1.length c1] 70) = wr1 at *
   clear hw1 HM HB HZ
   go_loopw [27] (fun v27 w2 => ∃ j : Nat, j ≤ b.f1.length ∧ v27 = .int .i64 (j : Int) ∧ Aside0 (FMap w2 w.heap.size (i * 1000 + j) (Fold_ops (Fold_upto l0 i) (b.f1.take j))) ∧ Aside0 (Below w.heap.size w w2) ∧ Aside0 (w.heap.size + 1 ≤ w2.heap.size)) (fun v27 _ => (b.f1.length - (intOf v27)).toNat)
   case atStart => exact ⟨0, Nat.zero_le _, rfl, ⟨by rw [List.take_zero]; exact HM1.out⟩, HB1', HZ1⟩
   case round =>
    clear HM1 HB1' HZ1
    obtain ⟨j, hj, e27, HM, HB, HZ⟩ := hrel
    subst e27
    rcases Nat.lt_or_ge j b.f1.length with cj | cj
    ·
     obtain ⟨ad2, ead2, y0, y1, y2⟩ := at_T72 (Kd.C_below HC1.out HB.out) (j : Int) (Int.natCast_nonneg _) (by omega)
     subst ead2
     rw [Int.toNat_natCast] at y0 y1 y2
     have EOP := Aside0.mk (ops_succ (Fold_upto l0 i) b.f1 j cj)
     obtain ⟨hs1, hs2⟩ := HB2.out j cj
     generalize rd_T72 b.f1 (j : Int) = o at *
     generalize Fold_ops (Fold_upto l0 i) (b.f1.take j) = M at *
     have HS1 := Aside0.mk hs1
     have HS2 := Aside0.mk hs2
     clear hs1 hs2
     have r0 : (0 : Int) ≤ (j : Int) := Int.natCast_nonneg _
     have r1 : (j : Int) < (b.f1.length : Int) := by omega
     have r2 : decide ((j : Int) < (b.f1.length : Int)) = true := decide_eq_true r1
     have CJ := Aside0.mk cj
     obtain ⟨D, hD1, hD2, hD3, hD4⟩ := HM.out
     have HD1 := Aside0.mk hD1
     have HD2 := Aside0.mk hD2
     have HD3 := Aside0.mk hD3
     have HD4 := Aside0.mk hD4
     clear hD1 hD2 hD3 hD4 cj
     have JW : wrap64 ((j : Int) + 1) = ((j + 1 : Nat) : Int) := by unfold wrap64; have := HB1.out; have := CJ.out; omega
     by_cases k1 : o.f0 = 1
     ·
      have k1' : (o.f0 == 1) = true := beq_iff_eq.2 k1
      have ES := Aside0.mk (show Fold_ops (Fold_upto l0 i) (b.f1.take (j + 1)) = Fold_put o.f1 o.f2 M by rw [EOP.out, Fold_step, if_pos k1])
      clear k1
      go_wp2_with (first
       | (with_reducible refine wp_label ?_) | (with_reducible refine wp_scope_straight ?_) | (simp only [Exit.noGoto_ret, Exit.noGoto_normal, Exit.noGoto_exit])
       | (at_mapUpdate; refine wpList_mapUpdate_own _ rfl _ _ _ 110 rfl 9 9 (Go.Maps.string_keyed Try.underlying9) Try.underlying110 (plainElem Try.prog 9) w.heap.size (i * 1000 + j) D rfl (HD1.out.alloc _) (by have := HL.out; have := HB1.out; have := CJ.out; have := CC.out; unfold maxLen; omega) _ _ _ rfl rfl (Go.WideMaps.keyOf_string_mk Try.underlying9 (by have := HS1.out; unfold maxLen; omega)) _ [] (plainElem_string Try.underlying9 (by have := HS2.out; unfold maxLen; omega)) ?_; intro w3 hown hg; have M3 := Aside0.mk (FMap.putI hown HD2.out HD3.out HD4.out HS1.out); have B3 := Aside0.mk ((below_alloc HB.out _).grown hg (below_alloc HB.out _).size (fun j hj => by cases hj; exact Nat.le_refl _)); have Z3 := Aside0.mk (Nat.le_trans HZ.out (Nat.le_trans (World.grownBy_alloc _ _ none).size hg.size)); clear hown hg y0 y1 y2))
      rw [JW]
      refine ⟨⟨j + 1, CJ.out, rfl, ⟨by rw [ES.out]; exact M3.out⟩, B3, Z3⟩, ?_⟩
      have := CJ.out
      simp only [intOf]
      omega
     ·
      have k1' : (o.f0 == 1) = false := beq_eq_false_iff_ne.2 k1
      by_cases k2 : o.f0 = 2
      ·
       have k2' : (o.f0 == 2) = true := beq_iff_eq.2 k2
       have ES := Aside0.mk (show Fold_ops (Fold_upto l0 i) (b.f1.take (j + 1)) = Fold_del o.f1 M by rw [EOP.out, Fold_step, if_neg k1, if_pos k2])
       clear k1 k2
       go_wp2_with (first
        | (with_reducible refine wp_label ?_) | (with_reducible refine wp_scope_straight ?_) | (simp only [Exit.noGoto_ret, Exit.noGoto_normal, Exit.noGoto_exit])
        | (at_delete; refine wpList_delete_own _ rfl _ _ 110 9 rfl 9 (Go.Maps.string_keyed Try.underlying9) Try.underlying110 (plainElem Try.prog 9) w.heap.size (i * 1000 + j) D rfl (HD1.out.alloc _) _ _ rfl (Go.WideMaps.keyOf_string_mk Try.underlying9 (by have := HS1.out; unfold maxLen; omega)) ?_; intro w3 hown ht; have hg := ht.grown; have M3 := Aside0.mk (FMap.delI hown HD2.out HD3.out HD4.out); have B3 := Aside0.mk ((below_alloc HB.out _).grown hg (below_alloc HB.out _).size (fun j hj => by cases hj; exact Nat.le_refl _)); have Z3 := Aside0.mk (Nat.le_trans HZ.out (Nat.le_trans (World.grownBy_alloc _ _ none).size hg.size)); clear hown hg ht y0 y1 y2))
       rw [JW]
       refine ⟨⟨j + 1, CJ.out, rfl, ⟨by rw [ES.out]; exact M3.out⟩, B3, Z3⟩, ?_⟩
       have := CJ.out
       simp only [intOf]
       omega
      ·
       have k2' : (o.f0 == 2) = false := beq_eq_false_iff_ne.2 k2
       have ES := Aside0.mk (show Fold_ops (Fold_upto l0 i) (b.f1.take (j + 1)) = M by rw [EOP.out, Fold_step, if_neg k1, if_neg k2])
       clear k1 k2
       go_wp2_with (first
        | (with_reducible refine wp_label ?_) | (with_reducible refine wp_scope_straight ?_) | (simp only [Exit.noGoto_ret, Exit.noGoto_normal, Exit.noGoto_exit]))
       rw [JW]
       refine ⟨⟨j + 1, CJ.out, rfl, ⟨by rw [ES.out]; exact (HM.out.alloc _).mono (Nat.le_succ _)⟩, ⟨below_alloc HB.out _⟩, ⟨Nat.le_trans HZ.out (World.grownBy_alloc _ _ none).size⟩⟩, ?_⟩
       have := CJ.out
       simp only [intOf]
       omega
    ·
     obtain rfl : j = b.f1.length := Nat.le_antisymm hj cj
     have r2 : decide ((b.f1.length : Int) < (b.f1.length : Int)) = false := decide_eq_false (by omega)
     rw [List.take_length] at HM
     have IW : wrap64 ((i : Int) + 1) = ((i + 1 : Nat) : Int) := by unfold wrap64; have := HL.out; have := CC.out; omega
     clear cj hj
     go_wp2_with (first
      | (with_reducible refine wp_label ?_) | (with_reducible refine wp_scope_straight ?_) | (simp only [Exit.noGoto_ret, Exit.noGoto_normal, Exit.noGoto_exit]))
     rw [IW]
     refine ⟨⟨i + 1, CC.out, by have := CA.out; omega, rfl, ⟨by rw [EUP.out]; exact HM.out.mono (by have := HB1.out; omega)⟩, HB, HZ⟩, ?_⟩
     have := CC.out
     simp only [intOf]
     omega
  ·
   -- the batches are through
   have FIN : Fold_upto l0 i = Fold_all l0 a1 := by
    unfold Fold_upto Fold_all
    have e : l0.take i = l0.take a1.toNat := by
     rcases Nat.lt_or_ge i l0.length with c | c
     ·
      have : ¬ ((i : Int) < a1) := fun h => cc ⟨c, h⟩
      rw [show i = a1.toNat by omega]
     · rw [List.take_of_length_le c, List.take_of_length_le (by omega)]
    rw [e]
   rw [FIN] at HM
   obtain ⟨D, hD1, hD2, hD3, hD4⟩ := HM.out
   have HD1 := Aside0.mk (hD1.mono (show i * 1000 ≤ 1000000 by have := HL.out; omega))
   have HD2 := Aside0.mk hD2
   have HD3 := Aside0.mk hD3
   have HD4 := Aside0.mk hD4
   have GS := Aside0.mk (got_start hD2 hD3 hD4)
   have SZ := Aside0.mk (HD1.out.size_le)
   clear hD1 hD2 hD3 hD4 HM FIN
   obtain ⟨M, em⟩ : ∃ M, M = Fold_all l0 a1 := ⟨_, rfl⟩
   rw [← em] at HD2 HD3 HD4 GS
   have EM := Aside0.mk em
   clear em
   have q01 : (decide ((i : Int) < (l0.length : Int)) = true ∧ decide (a1 ≤ (i : Int)) = true ∧ (0 : Int) ≤ (i : Int) ∧ (i : Int) < (l0.length : Int)) ∨ i = l0.length := by
    rcases Nat.lt_or_ge i l0.length with c | c
    ·
     have : ¬ ((i : Int) < a1) := fun h => cc ⟨c, h⟩
     exact Or.inl ⟨decide_eq_true (by omega), decide_eq_true (by omega), Int.natCast_nonneg _, by omega⟩
    · exact Or.inr (by omega)
   clear cc
   rcases q01 with ⟨q0, q1, p0, p1⟩ | q0
   case' inl =>
    obtain ⟨ad, A1, c1, ead, x0, x1, _, _⟩ := at_T70 HC.out (i : Int) p0 p1
    subst ead
    replace x0 := (HB.out.cell (World.block_lt_of_cell? w _ x0)).trans x0
    replace x1 := (HB.out.cell (World.block_lt_of_cell? w _ x1)).trans x1
    rw [Int.toNat_natCast] at x0 x1
    generalize rd_T70 l0 (i : Int) = b at *
    go_wp2_with (first
     | (with_reducible refine wp_label ?_) | (with_reducible refine wp_scope_straight ?_) | (simp only [Exit.noGoto_ret, Exit.noGoto_normal, Exit.noGoto_exit]))
    refine HKK.out _ _ ?_
    have HT1 := Aside0.mk (HD1.out.alloc (Obj.cells #[Value.int IntKind.i64 b.f0, Value.slice A1 b.f1.length c1] 70))
    have HT2 := Aside0.mk (below_alloc HB.out (Obj.cells #[Value.int IntKind.i64 b.f0, Value.slice A1 b.f1.length c1] 70))
    have HT3 := Aside0.mk (Nat.le_trans HZ.out (World.grownBy_alloc wr (Obj.cells #[Value.int IntKind.i64 b.f0, Value.slice A1 b.f1.length c1] 70) none).size)
    clear x0 x1
    generalize wr.alloc (Obj.cells #[Value.int IntKind.i64 b.f0, Value.slice A1 b.f1.length c1] 70) = wT at *
   case' inr =>
    subst q0
    have q0 : decide ((l0.length : Int) < (l0.length : Int)) = false := decide_eq_false (by omega)
    go_wp2_with (first
     | (with_reducible refine wp_label ?_) | (with_reducible refine wp_scope_straight ?_) | (simp only [Exit.noGoto_ret, Exit.noGoto_normal, Exit.noGoto_exit]))
    refine HKK.out _ _ ?_
    have HT1 := HD1
    have HT2 := HB
    have HT3 := HZ
    generalize wr = wT at *
   all_goals
    clear HD1 HB HZ HKK
    go_wp2_with (first
     | (with_reducible refine wp_label ?_) | (with_reducible refine wp_scope_straight ?_) | (simp only [Exit.noGoto_ret, Exit.noGoto_normal, Exit.noGoto_exit])
     | (at_range; refine wpList_range_own _ rfl _ 110 rfl 9 9 (Go.Maps.string_keyed Try.underlying9) Try.underlying110 (plainElem Try.prog 9) w.heap.size 1000000 D rfl HT1.out ?_; intro w0 hrg0 hg0 hs0; have RG0 := Aside0.mk hrg0; have BG0 := Aside0.mk (HT2.out.grown hg0 HT2.out.size (fun j hj => by cases hj)); have ZG0 := Aside0.mk (show wT.heap.size + 1 ≤ w0.heap.size by rw [hs0]; exact Nat.le_refl _); clear hrg0 hg0 hs0))
    go_frame
    have RB := HT3
    generalize er : wT.heap.size = r at *
    clear er HT1 HT2 HT3
    go_loopw [10] (fun v10 w2 => ∃ (left : Lit → Bool) (cnt : Nat) (O : List S66), Aside0 (w2.ranges Try.prog 9 (plainElem Try.prog 9) w.heap.size r 1000000 D left cnt) ∧ Aside0 (Kd.R k66 66 w2 (r + 1) (fun _ => True) v10 O) ∧ Aside0 (O.length + cnt ≤ 1000000) ∧ Aside0 (Got D M O left) ∧ Aside0 (Below w.heap.size w w2) ∧ Aside0 (r + 1 ≤ w2.heap.size)) (fun _ w2 => w2.rangeLeft w.heap.size r)
    case atStart => exact ⟨_, _, [], RG0, ⟨Kd.R_nil _ _ _ _ _⟩, ⟨by rw [List.length_nil, Nat.zero_add]; exact SZ.out⟩, GS, BG0, ZG0⟩
    case round =>
     clear RG0 BG0 ZG0
     obtain ⟨left, cnt, O, HRG, HR, HN, HG, HB, HZ⟩ := hrel
     go_wp2_with (first
      | (with_reducible refine wp_label ?_) | (with_reducible refine wp_scope_straight ?_) | (simp only [Exit.noGoto_ret, Exit.noGoto_normal, Exit.noGoto_exit])
      | (at_next; refine next_ss _ rfl _ rfl 9 9 (Go.Maps.string_keyed Try.underlying9) Try.underlying9 Try.underlying9 w.heap.size r 1000000 D left cnt rfl HRG.out ?_ ?_))
     ·
      intro hc0 hl0
      have SRT := Aside0.mk (sort82 u10 O M wr (r + 1) HZ.out HR.out (by have := HN.out; omega) HG.out.apart HD3.out (got_end HG.out hl0))
      clear hc0 hl0
      go_wp2_with (first
       | (with_reducible refine wp_label ?_) | (with_reducible refine wp_scope_straight ?_) | (simp only [Exit.noGoto_ret, Exit.noGoto_normal, Exit.noGoto_exit])
       | (go_at_call 82; refine SRT.out.mono ?_; rintro e w1 ⟨rfl, hr, hb⟩; have R1 := Aside0.mk hr; have B1 := Aside0.mk (HB.out.trans (Below.lower0 hb (by have := RB.out; omega))); clear hr hb)
       | fail)
      go_ret
      exact ⟨_, rfl, by rw [← EM.out]; exact Kd.R_lower R1.out (by have := RB.out; omega), B1.out⟩
     ·
      intro x c w1 cnt1 hwx hwc hlx hat hrg1 hlt hg1 hs1 hen
      have G1 := Aside0.mk (got_step HD2.out HD3.out HG.out hwx hlx hat)
      have RG1 := Aside0.mk hrg1
      have LT1 := Aside0.mk hlt
      have RL0 := Aside0.mk HRG.out.left_eq
      have B1 := Aside0.mk (HB.out.grown hg1 HB.out.size (fun j hj => by cases hj; have := RB.out; omega))
      have Z1 := Aside0.mk (show r + 1 ≤ w1.heap.size by rw [hs1]; exact HZ.out)
      have R1 := Aside0.mk (Kd.R_mono (Kd.R_grown (Kd.R_bound HR.out) hg1 (fun k hk e => by have := hk.2.1; injection e with e; omega)) (fun _ _ => trivial) : Kd.R k66 66 w1 (r + 1) (fun _ => True) u10 O)
      clear hlx hat hrg1 hlt hg1 hs1 hwx hwc
      go_wp2_with (first
       | (with_reducible refine wp_label ?_) | (with_reducible refine wp_scope_straight ?_) | (simp only [Exit.noGoto_ret, Exit.noGoto_normal, Exit.noGoto_exit])
       | ((with_reducible refine gate_builtin (b := .append) (xs := #[.tmp 54, .tmp 58]) rfl ?_); at_builtin; (refine Kd.R_append k66 (w0 := w1) (r + 1) rfl (.tmp 54) (.tmp 58) 63 66 (.agg #[(.string ⟨#[]⟩), (.string ⟨#[]⟩)]) 32 rfl Try.underlying63 infoP66 rfl (by decide) (by decide) _ O (⟨x, c⟩ : S66) [.string x, .string c] (fun _ => True) (fun _ => False) rfl rfl (k66_mkM _ _ _ ⟨x, c⟩) (fun _ hk => hk.elim) (fun _ _ => trivial) R1.out (Below.refl _ _) Z1.out (by have := HN.out; omega) ?_; intro v1 wz ho hb hg hat; have BZ := Aside0.mk (B1.out.trans (Below.lower0 hb (by have := RB.out; omega))); have RZ := Aside0.mk ho; have RGZ := Aside0.mk (RG1.out.kept hg (fun e => by have := Kd.R_base R1.out w.heap.size e.symm; have := RB.out; omega) (fun e => by have := Kd.R_base R1.out r e.symm; omega)); have ZZ := Aside0.mk (Nat.le_trans Z1.out hg.size); clear ho hb hg hat hen))
       | fail)
      refine ⟨⟨_, cnt1, O ++ [⟨x, c⟩], RGZ, RZ, ⟨?_⟩, G1, BZ, ZZ⟩, ?_⟩
      ·
       have := LT1.out
       have := HN.out
       rw [List.length_append, List.length_singleton]
       omega
      ·
       rw [RGZ.out.left_eq, RL0.out]
       exact LT1.out
theorem fold_Fold.calls (k : Nat) (A0 : Option Addr) (c0 : Nat) (l0 : List S70) (a1 : Int) (r : List S66) (w : World) (hr0 : Kd.C k70 w A0 l0.length l0) (hc0 : l0.length ≤ c0) (h : fold_Fold.f k l0 a1 = some r) :
 Calls Try.prog 40 #[.slice A0 l0.length c0, .int .i64 a1] w fun e w' => ∃ v0_ : Value, e = .returned (v0_) ∧ Kd.R k66 66 w' w.heap.size (fun _ => True) v0_ r ∧ Below w.heap.size w w' := by
 unfold fold_Fold.f at h
 by_cases c : Fold_ok l0 = true
 ·
  rw [if_pos c] at h
  obtain rfl := Option.some.inj h
  exact fold_walk A0 c0 l0 a1 w hr0 hc0 c
 · rw [if_neg c] at h; cases h

end Go.Proofs.Ytffnimaaolmbdaa.PFoldAll
