/- The functions that a law reaches, as Lean functions, each with the contract that its Go code comes to just these answers. Written by a program of this claim's author (wip/mkprint.py). No conditions. -/
import Derived.Test.YtgannkfpfhdhjaaPReplayJoinsx0
namespace Go.Proofs.Ytgannkfpfhdhjaa.PReplayJoins
open Go.RowKit Go.Proofs.YtgannkfpfhdhjaaW.PrintWords Go.Proofs.YtgannkfpfhdhjaaW.PrintLast Go.Proofs.YtgannkfpfhdhjaaW.PrintMore
attribute [local go_sem] max2_int min2_int max_two min_two max_three min_three max_four min_four   -- for this text's walks alone
set_option linter.unusedVariables false
set_option linter.unusedSimpArgs false

-- NOT PRINTED: function 82 (slices_xorshift_Next)

-- NOT PRINTED: function 71 (api_Op_71)

-- NOT PRINTED: function 85 (api_Op_85)

-- NOT PRINTED: function 84 (api_Op_84)

-- NOT PRINTED: function 83 (api_Op_83)

-- NOT PRINTED: function 72 (api_Op_72)

-- NOT PRINTED: function 76 (api_Op_76)

-- NOT PRINTED: function 57 (api_Op_57)

-- NOT PRINTED: function 37 (api_Op_37)

/-! ### batch_Norm and what it leans on -/
def scmp (a b : ByteArray) : Int := if Op.bytesLess a.toList b.toList = true then -1 else if Op.bytesLess b.toList a.toList = true then 1 else 0
theorem nan_x (a : ByteArray) (w : World) : Calls Try.prog 59 #[.string a] w fun e w' => e = .returned (.bool false) ∧ w' = w := by
 go_enter Try.func59, Try.ntmps59
 go_wp2
 go_ret
 exact ⟨rfl, rfl⟩
set_option maxHeartbeats 4000000 in
theorem cmp39 (a b : ByteArray) (w : World) : Calls Try.prog 39 #[.string a, .string b] w fun e w' => e = .returned (.int .i64 (scmp a b)) ∧ w' = w := by
 unfold scmp
 cases h1 : Op.bytesLess a.toList b.toList with
 | true =>
  rw [if_pos rfl]
  go_enter Try.func39, Try.ntmps39
  go_wp2_with (first | (go_at_call 59; refine (nan_x _ _).mono ?_; rintro e w1 ⟨rfl, rfl⟩))
  go_ret
  exact ⟨rfl, rfl⟩
 | false =>
  rw [if_neg Bool.false_ne_true]
  cases h2 : Op.bytesLess b.toList a.toList with
  | true =>
   rw [if_pos rfl]
   have h3 : (a.toList == b.toList) = false := bl_ne2 h2
   go_enter Try.func39, Try.ntmps39
   go_wp2_with (first | (go_at_call 59; refine (nan_x _ _).mono ?_; rintro e w1 ⟨rfl, rfl⟩))
   go_ret
   exact ⟨rfl, rfl⟩
  | false =>
   rw [if_neg Bool.false_ne_true]
   have h3 : (a.toList == b.toList) = true := bl_eq h1 h2
   go_enter Try.func39, Try.ntmps39
   go_wp2_with (first | (go_at_call 59; refine (nan_x _ _).mono ?_; rintro e w1 ⟨rfl, rfl⟩))
   go_ret
   exact ⟨rfl, rfl⟩
set_option maxHeartbeats 4000000 in
theorem lit38 (x y : S27) (W : World) : Calls Try.prog 38 #[.agg #[.int .i64 x.f0, .string x.f1, .string x.f2], .agg #[.int .i64 y.f0, .string y.f1, .string y.f2]] W fun e w' => e = .returned (.int .i64 (scmp x.f1 y.f1)) ∧ w' = (W.alloc (.cells #[.int .i64 x.f0, .string x.f1, .string x.f2] 27)).alloc (.cells #[.int .i64 y.f0, .string y.f1, .string y.f2] 27) := by
 have hu27 := Try.underlying27
 generalize hr : scmp x.f1 y.f1 = r
 have hcon : ∀ W', Calls Try.prog 39 #[.string x.f1, .string y.f1] W' fun e w' => e = .returned (.int .i64 r) ∧ w' = W' := fun W' => by rw [← hr]; exact cmp39 _ _ W'
 go_enter Try.func38, Try.ntmps38
 go_wp2_with (first | (go_at_call 39; refine (hcon _).mono ?_; rintro e w1 ⟨rfl, rfl⟩))
 go_ret
 exact ⟨rfl, rfl⟩
/-! ### a row of the call's own, sorted -/
instance : Inhabited S27 := ⟨z27⟩
def enc27 (x : S27) : List Value := [.int .i64 x.f0, .string x.f1, .string x.f2]
theorem flat27_get (O : List S27) (t : Nat) (h : t < O.length * 3) : (Go.Sort.flatK enc27 3 O.toArray)[t]! = (enc27 (O.getD (t / 3) z27)).getD (t % 3) default := by
 rw [Go.Sort.get_flatK _ _ _ _ (by simpa using h)]
 have h3 : t / 3 < O.length := by omega
 rw [getElem!_pos O.toArray (t / 3) (by simpa using h3), List.getElem_toArray, List.getD_eq_getElem?_getD (l := O), List.getElem?_eq_getElem h3, Option.getD_some]
 rw [List.getD_eq_getElem?_getD]
 exact List.getElem!_eq_getElem?_getD ..
theorem reps27 {w : World} {base : Nat} {ok : Nat → Prop} {O : List S27} {inner : List Value} (h : Reps (k27.M w base ok) 3 O inner) : inner = (Go.Sort.flatK enc27 3 O.toArray).toList := by
 obtain ⟨h1, h2⟩ := h
 refine List.ext_getElem (by simp [h1]) (fun t ht1 ht2 => ?_)
 have ht : t < O.length * 3 := by omega
 have h3 : t / 3 < O.length := by omega
 have h4 := k27_openM (h2 (t / 3) (O[t / 3]) (List.getElem?_eq_getElem h3))
 have h5 : inner[t] = ((inner.drop (t / 3 * 3)).take 3).getD (t % 3) default := by
  rw [List.getD_eq_getElem?_getD, List.getElem?_take_of_lt (by omega), List.getElem?_drop, show t / 3 * 3 + t % 3 = t by omega, List.getElem?_eq_getElem ht1]; rfl
 have h6 := flat27_get O t ht
 rw [getElem!_pos _ t (by simpa using ht)] at h6
 rw [← Array.getElem_toList] at h6
 rw [h6, h5, h4, List.getD_eq_getElem?_getD (l := O), List.getElem?_eq_getElem h3]
 rfl
theorem reps27_mk (w : World) (base : Nat) (ok : Nat → Prop) (O : List S27) : Reps (k27.M w base ok) 3 O (Go.Sort.flatK enc27 3 O.toArray).toList := by
 refine ⟨by simp, fun j p hp => ?_⟩
 obtain ⟨hj, rfl⟩ := List.getElem?_eq_some_iff.1 hp
 have e : (((Go.Sort.flatK enc27 3 O.toArray).toList.drop (j * 3)).take 3) = enc27 O[j] := by
  refine List.ext_getElem (by simp [enc27]; omega) (fun t ht1 ht2 => ?_)
  have ht : t < 3 := by simpa [enc27] using ht2
  rw [List.getElem_take, List.getElem_drop, Array.getElem_toList]
  have h6 := flat27_get O (j * 3 + t) (by omega)
  rw [getElem!_pos _ _ (by simp; omega)] at h6
  rw [h6, show (j * 3 + t) / 3 = j by omega, show (j * 3 + t) % 3 = t by omega, List.getD_eq_getElem?_getD, List.getD_eq_getElem?_getD, List.getElem?_eq_getElem hj, Option.getD_some, List.getElem?_eq_getElem ht2]
  rfl
 rw [e]
 exact k27_mkM w base ok O[j]
theorem sort27_holds {w : World} {base : Nat} {ok : Nat → Prop} {O : List S27} {g cap n : Nat} (h : Kd.R k27 27 w base ok (.slice (some ⟨g, 0, none⟩) n cap) O) : Go.Sort.HoldsK enc27 3 w g 0 O.toArray := by
 obtain ⟨h0, inner, ho, hr⟩ := h
 have e := reps27 hr
 obtain ⟨hl, hx⟩ := ho
 rcases hx with ⟨hx, _⟩ | ⟨g', cap', cur, hv, hb, hh, hc1, hc2, hs, ht⟩
 · cases hx
 injection hv with hv1 hv2 hv3
 injection hv1 with hv4
 injection hv4 with hv5
 subst hv5
 have hs3 : k27.sz = 3 := rfl
 rw [hs3] at ht hs hl
 intro t htl
 have ht3 : t < O.length * 3 := by simpa using htl
 refine ⟨?_, blk_frozen hh _⟩
 rw [Nat.zero_add, blk_cell hh t]
 have h1 : cur.toList[t]? = inner[t]? := by rw [← ht, List.getElem?_take_of_lt ht3]
 rw [← Array.getElem?_toList, h1, e, Array.getElem?_toList, getElem!_pos _ t (by simpa using ht3), Array.getElem?_eq_getElem (by simpa using ht3)]
 rfl
theorem sort27_own {w : World} {base : Nat} {ok : Nat → Prop} {O O' : List S27} {g cap n m : Nat} {os : Array Obj} (h : Kd.R k27 27 w base ok (.slice (some ⟨g, 0, none⟩) n cap) O) (hl : O'.length = O.length) :
 Kd.R k27 27 (Go.Proofs.sortWorldK enc27 3 w g 0 m O'.toArray os) base ok (.slice (some ⟨g, 0, none⟩) n cap) O' ∧ ∀ B, B ≤ g → Below B w (Go.Proofs.sortWorldK enc27 3 w g 0 m O'.toArray os) := by
 have hlt := Kd.R_lt h g (by simp [Value.ownBlock])
 obtain ⟨h0, inner, ho, hr⟩ := h
 have e := reps27 hr
 obtain ⟨hl2, hx⟩ := ho
 rcases hx with ⟨hx, _⟩ | ⟨g', cap', cur, hv, hb, hh, hc1, hc2, hs, ht⟩
 · cases hx
 injection hv with hv1 hv2 hv3
 injection hv1 with hv4
 injection hv4 with hv5
 subst hv5 hv2 hv3
 have hs3 : k27.sz = 3 := rfl
 have heap : ∀ k, k < w.heap.size → (Go.Proofs.sortWorldK enc27 3 w g 0 m O'.toArray os).heap[k]? = if k = g then some (.cells (Go.Sort.putCells id 0 (Go.Sort.flatK enc27 3 O'.toArray) cur) 27 (0, 0)) else w.heap[k]? := by
  intro k hk
  have h1 : (Go.Proofs.sortWorldK enc27 3 w g 0 m O'.toArray os).heap = w.heap.modify g (Go.Sort.onCells (Go.Sort.putCells id 0 (Go.Sort.flatK enc27 3 O'.toArray))) ++ os := rfl
  rw [h1, Array.getElem?_append_left (by simpa using hk), Array.getElem?_modify]
  by_cases c : k = g
  ·
   subst c
   rw [if_pos rfl, if_pos rfl, hh]; rfl
  · rw [if_neg (fun e => c e.symm), if_neg c]
 refine ⟨⟨fun k hk => h0 k hk, (Go.Sort.flatK enc27 3 O'.toArray).toList, ⟨by simp [hs3], Or.inr ⟨g, cap, _, by rw [hl], hb, by rw [heap g hlt, if_pos rfl], by rw [hl]; exact hc1, hc2, by simp [Go.Sort.putCells, hs], ?_⟩⟩, reps27_mk _ _ _ _⟩, fun B hB => ⟨rfl, rfl, rfl, ?_, fun k hk => by rw [heap k (by omega), if_neg (by omega)]⟩⟩
 ·
  rw [hs3]
  have hsz : cur.size = cap * 3 := by rw [hs, hs3]
  refine List.ext_getElem (by simp [Go.Sort.putCells, hsz]; omega) (fun t ht1 ht2 => ?_)
  have ht3 : t < O'.length * 3 := by simpa using ht2
  rw [List.getElem_take, Array.getElem_toList, Array.getElem_toList]
  unfold Go.Sort.putCells
  rw [Array.getElem_mapIdx, if_pos ⟨Nat.zero_le _, by simpa using ht3⟩, Nat.sub_zero, getElem!_pos _ t (by simpa using ht3)]
  rfl
 ·
  show w.heap.size ≤ (w.heap.modify g _ ++ os).size
  simp
/-! ### what batch.Norm comes to -/
def klt (x y : S27) : Bool := Op.bytesLess x.f1.toList y.f1.toList
def Norm_seen (O : List S27) (s : ByteArray) : Bool := O.any fun y => y.f1.toList == s.toList
def Norm_at (l : List S27) : Nat → List S27
 | 0 => []
 | m + 1 => if Norm_seen (Norm_at l m) (rd_T27 l ((l.length : Int) - 1 - m)).f1 = true then Norm_at l m else Norm_at l m ++ [rd_T27 l ((l.length : Int) - 1 - m)]
def Norm_ins (x : S27) : List S27 → List S27
 | [] => [x]
 | y :: t => if klt x y = true then x :: y :: t else y :: Norm_ins x t
def Norm_sort (l : List S27) : List S27 := l.foldr Norm_ins []
def batch_Norm.f (_k : Nat) (l : List S27) : Option (List S27) := if l.length ≤ 1000 ∧ (l.all fun x => decide (x.f1.size ≤ 1000000)) = true then some (Norm_sort (Norm_at l l.length)) else none
theorem batch_Norm.mono : ∀ a0 k, LeO (batch_Norm.f k a0) (batch_Norm.f (k + 1) a0) := fun _ _ => LeO.refl _
theorem Norm_at_len (l : List S27) : ∀ m, (Norm_at l m).length ≤ m
 | 0 => Nat.le_refl _
 | m + 1 => by
  rw [Norm_at]
  have := Norm_at_len l m
  by_cases c : Norm_seen (Norm_at l m) (rd_T27 l ((l.length : Int) - 1 - m)).f1 = true
  · rw [if_pos c]; omega
  · rw [if_neg c, List.length_append, List.length_singleton]; omega
theorem Norm_at_apart (l : List S27) : ∀ m, (Norm_at l m).Pairwise (fun x y => (x.f1.toList == y.f1.toList) = false)
 | 0 => List.Pairwise.nil
 | m + 1 => by
  rw [Norm_at]
  by_cases c : Norm_seen (Norm_at l m) (rd_T27 l ((l.length : Int) - 1 - m)).f1 = true
  · rw [if_pos c]; exact Norm_at_apart l m
  ·
   rw [if_neg c]
   refine List.pairwise_append.2 ⟨Norm_at_apart l m, List.pairwise_singleton _ _, fun x hx y hy => ?_⟩
   rw [List.mem_singleton] at hy
   subst hy
   cases e : (x.f1.toList == (rd_T27 l ((l.length : Int) - 1 - m)).f1.toList) with
   | false => rfl
   | true => exact absurd (List.any_eq_true.2 ⟨x, hx, e⟩) c
/-! ### the map -/
open Go.Maps in
def NormMap (w : World) (B m : Nat) (O : List S27) : Prop := ∃ D : DataW Unit, w.ownsMap Try.prog 9 (plainElem Try.prog 4) B m D ∧ IsMap D ∧ ∀ s : ByteArray, s.size ≤ maxLen → D.atKey (.string s.data.toList) (.lit (.bool false)) = .lit (.bool (Norm_seen O s))
theorem plainBool {P : Program} {e : TypeId} (he : P.underlying e = some .bool) {v : Value} {b : Bool} {ps : List MemPlace} (h : plainElem (H := Unit) P e v = some (.lit (.bool b), ps)) : v = .bool b := by
 unfold plainElem at h
 rw [he] at h
 cases v <;> simp at h
 rw [h.1]
theorem normMap_made (w : World) : NormMap (w.alloc (.map #[] 0)) w.heap.size 0 [] :=
 ⟨.map [], World.ownsMap_made w _ _ _, Go.Maps.isMap_empty, fun s hs => rfl⟩
theorem NormMap.look {w : World} {B m : Nat} {O : List S27} (h : NormMap w B m O) (s : ByteArray) (hs : s.size ≤ maxLen) : (Instr.lookup 61 (.map (some B)) (.string s) false).run Try.prog w = .ok (.bool (Norm_seen O s)) w := by
 obtain ⟨D, h1, _, h3⟩ := h
 obtain ⟨v, ps, hrun, hv⟩ := h1.lookup (Go.Maps.string_keyed Try.underlying9) Try.underlying61 (z := .bool false) (by kernel_rfl) (plainElem_bool Try.underlying4 false) (Go.WideMaps.keyOf_string_mk Try.underlying9 hs)
 rw [h3 s hs] at hv
 have e : v = .bool (Norm_seen O s) := by
  exact plainBool Try.underlying4 hv
 rw [hrun, e]
theorem Norm_seen_snoc (O : List S27) (x : S27) (s : ByteArray) : Norm_seen (O ++ [x]) s = (Norm_seen O s || (x.f1.toList == s.toList)) := by
 unfold Norm_seen; rw [List.any_append]; simp
theorem ownsMap_norm {w : World} {B m : Nat} {D : DataW Unit} {O : List S27} {x : S27} (h1 : w.ownsMap Try.prog 9 (plainElem Try.prog 4) B (m + 1) (D.put (.string x.f1.data.toList) (.lit (.bool true)))) (h2 : Go.Maps.IsMap D)
 (h3 : ∀ s : ByteArray, s.size ≤ maxLen → D.atKey (.string s.data.toList) (.lit (.bool false)) = .lit (.bool (Norm_seen O s))) : NormMap w B (m + 1) (O ++ [x]) := by
 refine ⟨_, h1, ?_, fun s hs => ?_⟩
 · exact h2.put _ _
 ·
  rw [Norm_seen_snoc]
  cases e : (x.f1.toList == s.toList) with
  | true =>
   have e2 := beq_iff_eq.1 e
   rw [Go.ByteArray.toList_eq, Go.ByteArray.toList_eq] at e2
   rw [← e2, Go.Maps.atKey_put_same h2 (by simp [Go.WideAt.IsKeyLit]), Bool.or_true]
  | false =>
   have e2 := beq_eq_false_iff_ne.1 e
   rw [Go.ByteArray.toList_eq, Go.ByteArray.toList_eq] at e2
   rw [Go.Maps.atKey_put_other (fun h => e2 (by injection h with h; exact h.symm)), h3 s hs, Bool.or_false]
/-! ### slices.SortFunc at operations, by the kit's contract -/
def normSort_ren : Go.Shelf.Ren := ⟨fun | 6 => 37 | 15 => 58 | 14 => 57 | 28 => 77 | 29 => 78 | 20 => 69 | 21 => 70 | 22 => 71 | 23 => 72 | 24 => 73 | 25 => 74 | 26 => 75 | 27 => 76 | 46 => 80 | 47 => 81 | 48 => 82 | 49 => 83 | 50 => 84 | 57 => 85 | n => n, fun | 22 => 22 | 24 => 27 | 25 => 64 | 3 => 3 | 39 => 86 | 0 => 0 | 53 => 35 | 55 => 102 | 4 => 4 | 46 => 95 | 45 => 94 | 50 => 91 | 5 => 5 | 9 => 9 | 66 => 104 | 70 => 108 | 76 => 110 | 77 => 111 | n => n, fun | n => n⟩
theorem normSort : Go.Proofs.SlLaysF0.n6 Try.prog normSort_ren where
 mixed := by kernel_rfl
 f6 := ⟨"slices.SortFunc[[]icebox/api.Op,icebox/api.Op]", by decide, Try.func37.trans (congrArg some (by kernel_rfl))⟩
 f14 := ⟨"slices.pdqsortCmpFunc[icebox/api.Op]", by decide, Try.func57.trans (congrArg some (by kernel_rfl))⟩
 f15 := Try.func58.trans (congrArg some (by kernel_rfl))
 f20 := ⟨"slices.insertionSortCmpFunc[icebox/api.Op]", by decide, Try.func69.trans (congrArg some (by kernel_rfl))⟩
 f21 := ⟨"slices.heapSortCmpFunc[icebox/api.Op]", by decide, Try.func70.trans (congrArg some (by kernel_rfl))⟩
 f22 := ⟨"slices.breakPatternsCmpFunc[icebox/api.Op]", by decide, Try.func71.trans (congrArg some (by kernel_rfl))⟩
 f23 := ⟨"slices.choosePivotCmpFunc[icebox/api.Op]", by decide, Try.func72.trans (congrArg some (by kernel_rfl))⟩
 f24 := ⟨"slices.reverseRangeCmpFunc[icebox/api.Op]", by decide, Try.func73.trans (congrArg some (by kernel_rfl))⟩
 f25 := ⟨"slices.partialInsertionSortCmpFunc[icebox/api.Op]", by decide, Try.func74.trans (congrArg some (by kernel_rfl))⟩
 f26 := ⟨"slices.partitionEqualCmpFunc[icebox/api.Op]", by decide, Try.func75.trans (congrArg some (by kernel_rfl))⟩
 f27 := ⟨"slices.partitionCmpFunc[icebox/api.Op]", by decide, Try.func76.trans (congrArg some (by kernel_rfl))⟩
 f28 := Try.func77.trans (congrArg some (by kernel_rfl))
 f29 := Try.func78.trans (congrArg some (by kernel_rfl))
 f46 := ⟨"slices.siftDownCmpFunc[icebox/api.Op]", by decide, Try.func80.trans (congrArg some (by kernel_rfl))⟩
 f47 := Try.func81.trans (congrArg some (by kernel_rfl))
 f48 := Try.func82.trans (congrArg some (by kernel_rfl))
 f49 := ⟨"slices.medianAdjacentCmpFunc[icebox/api.Op]", by decide, Try.func83.trans (congrArg some (by kernel_rfl))⟩
 f50 := ⟨"slices.medianCmpFunc[icebox/api.Op]", by decide, Try.func84.trans (congrArg some (by kernel_rfl))⟩
 f57 := ⟨"slices.order2CmpFunc[icebox/api.Op]", by decide, Try.func85.trans (congrArg some (by kernel_rfl))⟩
 t0 := Try.underlying0
 a0 := Try.isAgg0
 z0 := Try.sizeOf0
 v0 := Try.zeroValue0
 t3 := Try.underlying3
 a3 := Try.isAgg3
 z3 := Try.sizeOf3
 v3 := Try.zeroValue3
 t4 := Try.underlying4
 a4 := Try.isAgg4
 z4 := Try.sizeOf4
 v4 := Try.zeroValue4
 t5 := Try.underlying5
 a5 := Try.isAgg5
 z5 := Try.sizeOf5
 v5 := Try.zeroValue5
 t9 := Try.underlying9
 a9 := Try.isAgg9
 z9 := Try.sizeOf9
 v9 := Try.zeroValue9
 t22 := Try.underlying22
 a22 := Try.isAgg22
 z22 := Try.sizeOf22
 v22 := Try.zeroValue22
 t25 := Try.underlying64
 a25 := Try.isAgg64
 z25 := Try.sizeOf64
 v25 := Try.zeroValue64
 t39 := Try.underlying86
 a39 := Try.isAgg86
 z39 := Try.sizeOf86
 v39 := Try.zeroValue86
 t45 := Try.underlying94
 a45 := Try.isAgg94
 z45 := Try.sizeOf94
 v45 := Try.zeroValue94
 t46 := Try.underlying95
 a46 := Try.isAgg95
 z46 := Try.sizeOf95
 v46 := Try.zeroValue95
 t50 := Try.underlying91
 a50 := Try.isAgg91
 z50 := Try.sizeOf91
 v50 := Try.zeroValue91
 t53 := Try.underlying35
 a53 := Try.isAgg35
 z53 := Try.sizeOf35
 v53 := Try.zeroValue35
 t55 := Try.underlying102
 a55 := Try.isAgg102
 z55 := Try.sizeOf102
 v55 := Try.zeroValue102
 t66 := Try.underlying104
 a66 := Try.isAgg104
 z66 := Try.sizeOf104
 v66 := Try.zeroValue104
 t70 := Try.underlying108
 a70 := Try.isAgg108
 z70 := Try.sizeOf108
 v70 := Try.zeroValue108
 t76 := Try.underlying110
 a76 := Try.isAgg110
 z76 := Try.sizeOf110
 v76 := Try.zeroValue110
 t77 := Try.underlying111
 a77 := Try.isAgg111
 z77 := Try.sizeOf111
 v77 := Try.zeroValue111
theorem ltOf_klt (x y : S27) : Go.Proofs.ltOf (fun x y : S27 => scmp x.f1 y.f1) x y = klt x y := by
 show decide (scmp x.f1 y.f1 < 0) = klt x y
 unfold klt scmp
 cases h1 : Op.bytesLess x.f1.toList y.f1.toList with
 | true => rw [if_pos rfl]; rfl
 | false =>
  rw [if_neg Bool.false_ne_true]
  cases h2 : Op.bytesLess y.f1.toList x.f1.toList with
  | true => rw [if_pos rfl]; rfl
  | false => rw [if_neg Bool.false_ne_true]; rfl
theorem nm_trans : ∀ a b c : List UInt8, Op.bytesLess a b = true → Op.bytesLess b c = true → Op.bytesLess a c = true
 | [], [], _, h, _ => by simp [Op.bytesLess] at h
 | [], _ :: _, [], _, h => by simp [Op.bytesLess] at h
 | [], _ :: _, _ :: _, _, _ => by simp [Op.bytesLess]
 | _ :: _, [], _, h, _ => by simp [Op.bytesLess] at h
 | _ :: _, _ :: _, [], _, h => by simp [Op.bytesLess] at h
 | x :: a, y :: b, z :: c, h, k => by
  simp only [Op.bytesLess, Bool.or_eq_true, Bool.and_eq_true, decide_eq_true_eq, beq_iff_eq] at h k ⊢
  rcases h with h | ⟨h, h2⟩
  ·
   rcases k with k | ⟨k, _⟩
   · exact Or.inl (UInt8.lt_trans h k)
   · subst k; exact Or.inl h
  ·
   subst h
   rcases k with k | ⟨k, k2⟩
   · exact Or.inl k
   · exact Or.inr ⟨k, nm_trans a b c h2 k2⟩
theorem nm_eq {a b : List UInt8} (h : Op.bytesLess a b = false) (k : Op.bytesLess b a = false) : a = b := beq_iff_eq.1 (bl_eq h k)
theorem klt_ntrans (x y z : S27) (h1 : klt x y = false) (h2 : klt y z = false) : klt x z = false := by
 unfold klt at *
 cases h : Op.bytesLess x.f1.toList z.f1.toList with
 | false => rfl
 | true =>
  cases h3 : Op.bytesLess z.f1.toList y.f1.toList with
  | true => rw [nm_trans _ _ _ h h3] at h1; cases h1
  | false =>
   have e := nm_eq h2 h3
   rw [e] at h1
   rw [h1] at h; cases h
theorem klt_swo : Go.Sort.SWO (Go.Proofs.ltOf fun x y : S27 => scmp x.f1 y.f1) where
 irrefl x := by rw [ltOf_klt]; exact bl_irrefl _
 trans x y z h1 h2 := by rw [ltOf_klt] at *; exact nm_trans _ _ _ h1 h2
 ntrans x y z h1 h2 := by rw [ltOf_klt] at *; exact klt_ntrans x y z h1 h2
theorem Norm_ins_perm (x : S27) : ∀ l, (Norm_ins x l).Perm (x :: l)
 | [] => List.Perm.refl _
 | y :: t => by
  rw [Norm_ins]
  by_cases c : klt x y = true
  · rw [if_pos c]
  · rw [if_neg c]; exact ((Norm_ins_perm x t).cons y).trans (List.Perm.swap x y t)
theorem Norm_sort_perm : ∀ l, (Norm_sort l).Perm l
 | [] => List.Perm.refl _
 | x :: l => (Norm_ins_perm x _).trans ((Norm_sort_perm l).cons x)
theorem Norm_ins_up (x : S27) : ∀ l : List S27, l.Pairwise (fun a b => klt b a = false) → (Norm_ins x l).Pairwise (fun a b => klt b a = false)
 | [], _ => List.pairwise_singleton _ _
 | y :: t, h => by
  rw [Norm_ins]
  by_cases c : klt x y = true
  ·
   rw [if_pos c]
   have hyx : klt y x = false := by
    cases e : klt y x with
    | false => rfl
    | true =>
     have := nm_trans _ _ _ c e
     rw [bl_irrefl] at this; cases this
   refine List.pairwise_cons.2 ⟨fun b hb => ?_, h⟩
   rcases List.mem_cons.1 hb with rfl | hb
   · exact hyx
   · exact klt_ntrans _ _ _ ((List.pairwise_cons.1 h).1 b hb) hyx
  ·
   rw [if_neg c]
   have h2 := List.pairwise_cons.1 h
   refine List.pairwise_cons.2 ⟨fun b hb => ?_, Norm_ins_up x t h2.2⟩
   rcases List.mem_cons.1 ((Norm_ins_perm x t).mem_iff.1 hb) with rfl | hb
   · exact Bool.eq_false_iff.2 c
   · exact h2.1 b hb
theorem Norm_sort_up : ∀ l, (Norm_sort l).Pairwise (fun a b => klt b a = false)
 | [] => List.Pairwise.nil
 | x :: l => Norm_ins_up x _ (Norm_sort_up l)
theorem keys_one : ∀ (L : List S27) (a b : S27), L.Pairwise (fun x y => (x.f1.toList == y.f1.toList) = false) → a ∈ L → b ∈ L → a.f1.toList = b.f1.toList → a = b
 | x :: t, a, b, h, ha, hb, e => by
  have h2 := List.pairwise_cons.1 h
  rcases List.mem_cons.1 ha with ea | ha'
  ·
   rcases List.mem_cons.1 hb with eb | hb'
   · rw [ea, eb]
   · exact absurd (ea ▸ e) (beq_eq_false_iff_ne.1 (h2.1 b hb'))
  ·
   rcases List.mem_cons.1 hb with eb | hb'
   · exact absurd (eb ▸ e.symm) (beq_eq_false_iff_ne.1 (h2.1 a ha'))
   · exact keys_one t a b h2.2 ha' hb' e
theorem Norm_sort_eq (O L : List S27) (hd : O.Pairwise (fun x y => (x.f1.toList == y.f1.toList) = false)) (hp : L.Perm O) (hu : L.Pairwise (fun a b => klt b a = false)) : L = Norm_sort O := by
 have hp2 : L.Perm (Norm_sort O) := hp.trans (Norm_sort_perm O).symm
 have hd2 : L.Pairwise (fun x y => (x.f1.toList == y.f1.toList) = false) := hp.symm.pairwise hd (fun h => by rw [beq_eq_false_iff_ne] at h ⊢; exact fun e => h e.symm)
 have key : ∀ a b : S27, a ∈ L → b ∈ L → klt b a = false → klt a b = false → a = b := by
  intro a b ha hb h1 h2
  exact keys_one L a b hd2 ha hb (nm_eq h2 h1)
 exact hp2.eq_of_pairwise (fun a b ha hb h1 h2 => key a b ha (hp2.mem_iff.2 hb) h1 h2) hu (Norm_sort_up O)
theorem closure38 (x y : S27) (W : World) : Calls Try.prog 38 #[.agg (enc27 x).toArray, .agg (enc27 y).toArray] W fun e w' => e = .returned (.int .i64 (scmp x.f1 y.f1)) ∧ ∃ q os', w' = Go.Sort.grow (W.drewN q) os' :=
 (lit38 x y W).mono fun _ _ ⟨he, hw⟩ => ⟨he, 0, #[.cells #[.int .i64 x.f0, .string x.f1, .string x.f2] 27] ++ #[.cells #[.int .i64 y.f0, .string y.f1, .string y.f2] 27], by rw [hw, Go.Sort.alloc_eq_grow, Go.Sort.alloc_eq_grow, Go.Sort.grow_grow]; rfl⟩
theorem sort37 (v : Value) (O : List S27) (w : World) (base : Nat) (hbase : base ≤ w.heap.size) (h : Kd.R k27 27 w base (fun _ => True) v O) (hl : O.length ≤ 1000) (hd : O.Pairwise (fun x y => (x.f1.toList == y.f1.toList) = false)) :
 Calls Try.prog 37 #[v, .func (.func 38) #[] #[]] w fun e w' => e = .returned (.tuple #[]) ∧ Kd.R k27 27 w' base (fun _ => True) v (Norm_sort O) ∧ Below base w w' := by
 rcases Nat.eq_zero_or_pos O.length with hz | hz
 ·
  obtain rfl : O = [] := List.length_eq_zero_iff.1 hz
  obtain ⟨A, c, rfl⟩ := Kd.R_slice h
  have hcon := Go.Proofs.AnyF.slices_SortFunc_none normSort A c (.func (.func 38) #[] #[]) w
  change Calls Try.prog 37 _ _ _ at hcon
  refine hcon.mono ?_
  rintro e w' ⟨rfl, rfl⟩
  exact ⟨rfl, h, Below.refl _ _⟩
 ·
  obtain ⟨g, cap, rfl, hb, hlt, cells, hc⟩ := Kd.R_form h hz
  have eg : ∀ args w, (callFunc 38 args).run Try.prog w = .ok (.enter 38 args) w := enters_of Try.func38 (by kernel_rfl) rfl
  have hcon := Go.Proofs.AnyQ.slices_SortFunc normSort 3 Try.isAgg27 Try.sizeOf27 enc27 (fun _ => rfl) (fun x v hv => by simp [enc27] at hv; rcases hv with rfl | rfl | rfl <;> rfl) (fun x y : S27 => scmp x.f1 y.f1) klt_swo 38 #[] g 0 cap O.toArray w eg (fun _ _ _ _ x y => closure38 x y _) (sort27_holds h) hlt (by simp; omega)
  change Calls Try.prog 37 _ _ _ at hcon
  refine hcon.mono ?_
  rintro e w' ⟨rfl, d', n, os, hp, hs, rfl⟩
  obtain ⟨L, rfl⟩ : ∃ L : List S27, d' = L.toArray := ⟨d'.toList, by simp⟩
  obtain ⟨hp1, _, hp2⟩ := hp
  have hlen : L.length = O.length := by simpa using hp1
  have hperm : L.Perm O := by
   have e1 : (L.toArray.extract 0 O.toArray.size).toList = L := by simp [← hlen]
   have e2 : (O.toArray.extract 0 O.toArray.size).toList = O := by simp
   rw [e1, e2] at hp2; exact hp2
  have hup : L.Pairwise (fun a b => klt b a = false) := by
   rw [List.pairwise_iff_getElem]
   intro i j hi hj hij
   have := hs i j (Nat.zero_le _) hij (by simpa [← hlen] using hj)
   rw [ltOf_klt, getElem!_pos L.toArray j (by simpa using hj), getElem!_pos L.toArray i (by simpa using hi)] at this
   exact this
  have e := Norm_sort_eq O L hd hperm hup
  subst e
  obtain ⟨r1, r2⟩ := sort27_own (m := n) (os := os) h hlen
  exact ⟨rfl, r1, r2 base hb⟩
theorem NormMap.mono {w : World} {B m : Nat} {O : List S27} (h : NormMap w B m O) : NormMap w B (m + 1) O := by
 obtain ⟨D, h1, h2, h3⟩ := h
 exact ⟨D, h1.mono (Nat.le_succ _), h2, h3⟩
theorem NormMap.kept {w w' : World} {B m : Nat} {O : List S27} {row : Option Nat} (h : NormMap w B m O) (hg : w.grownBy w' row) (hne : some B ≠ row) : NormMap w' B m O := by
 obtain ⟨D, h1, h2, h3⟩ := h
 exact ⟨D, h1.kept hg hne, h2, h3⟩
theorem Below.lower {B B' : Nat} {a w : World} (h : Below B a w) (hb : B' ≤ B) : Below B' a w := ⟨h.os, h.tape, h.output, h.size, fun k hk => h.block k (Nat.lt_of_lt_of_le hk hb)⟩
set_option maxHeartbeats 4000000 in
set_option maxRecDepth 100000 in
theorem norm_walk (A0 : Option Addr) (c0 : Nat) (l0 : List S27) (w : World) (hr0 : Kd.C k27 w A0 l0.length l0) (hc0 : l0.length ≤ c0) (hl : l0.length ≤ 1000) (hk : (l0.all fun x => decide (x.f1.size ≤ 1000000)) = true) :
 Calls Try.prog 14 #[.slice A0 l0.length c0] w fun e w' => ∃ v0_ : Value, e = .returned v0_ ∧ Kd.R k27 27 w' w.heap.size (fun _ => True) v0_ (Norm_sort (Norm_at l0 l0.length)) ∧ Below w.heap.size w w' := by
 have hmm := @run_makeMap Try.prog
 have hu27 := Try.underlying27
 have HC := Aside0.mk hr0
 have HC0 := Aside0.mk hc0
 have HK := Aside0.mk (show ∀ i : Nat, i < l0.length → (rd_T27 l0 (i : Int)).f1.size ≤ 1000000 by
  intro i hi
  have := List.all_eq_true.1 hk (l0[i]) (List.getElem_mem hi)
  have e : rd_T27 l0 (i : Int) = l0[i] := by
   unfold rd_T27
   rw [Int.toNat_natCast, List.getD_eq_getElem?_getD, List.getElem?_eq_getElem hi]; rfl
  rw [e]; simpa using this)
 clear hr0 hc0 hk
 have HL := Aside0.mk hl
 have hM0 := Aside0.mk (normMap_made w)
 have hB0 := Aside0.mk (below_alloc (Below.refl w.heap.size w) (.map #[] 0))
 go_enter Try.func14, Try.ntmps14
 go_wp2_with (first
  | (with_reducible refine wp_label ?_) | (with_reducible refine wp_scope_straight ?_) | (simp only [Exit.noGoto_ret, Exit.noGoto_normal, Exit.noGoto_exit]))
 go_loopw [3, 5] (fun v3 v5 wr => ∃ m : Nat, m ≤ l0.length ∧ v5 = .int .i64 ((l0.length : Int) - 1 - m) ∧ Aside0 (Kd.R k27 27 wr (w.heap.size + 1) (fun _ => True) v3 (Norm_at l0 m)) ∧ Aside0 (NormMap wr w.heap.size m (Norm_at l0 m)) ∧ Aside0 (Below w.heap.size w wr) ∧ Aside0 (w.heap.size + 1 ≤ wr.heap.size)) (fun v3 v5 _ => (intOf v5 + 1).toNat)
 case atStart => exact ⟨0, Nat.zero_le _, by simp, ⟨Kd.R_nil _ _ _ _ _⟩, hM0, hB0, ⟨by rw [show (w.alloc (.map #[] 0)).heap.size = w.heap.size + 1 from Array.size_push ..]; exact Nat.le_refl _⟩⟩
 case round =>
  obtain ⟨m, hm, e5, HR, HM, HB, HZ⟩ := hrel
  subst e5
  rcases Nat.lt_or_ge m l0.length with c | c
  ·
   obtain ⟨j, ej⟩ : ∃ j : Nat, (l0.length : Int) - 1 - m = (j : Int) := ⟨l0.length - 1 - m, by omega⟩
   have hj : j < l0.length := by omega
   have ENX := Aside0.mk (show Norm_at l0 (m + 1) = if Norm_seen (Norm_at l0 m) (rd_T27 l0 (j : Int)).f1 = true then Norm_at l0 m else Norm_at l0 m ++ [rd_T27 l0 (j : Int)] by rw [Norm_at, ej])
   have EJ := Aside0.mk ej
   rw [ej]
   have HCr := Kd.C_below HC.out HB.out
   obtain ⟨ad, ead, x0, x1, x2⟩ := at_T27 HCr (j : Int) (Int.natCast_nonneg _) (by omega)
   subst ead
   rw [Int.toNat_natCast] at x0 x1 x2
   have hsz := HK.out j hj
   generalize ex : rd_T27 l0 (j : Int) = x at ENX x0 x1 x2 hsz
   have EX := Aside0.mk ex
   have hlook := HM.out.look x.f1 (by unfold maxLen; omega)
   have SZ := Aside0.mk hsz
   have p0 : (0 : Int) ≤ (j : Int) := Int.natCast_nonneg _
   have p1 : (j : Int) < (l0.length : Int) := by omega
   have q0 : decide ((0 : Int) ≤ (j : Int)) = true := decide_eq_true p0
   clear ex ej HCr hsz
   have MC := Aside0.mk c
   obtain ⟨O, eO⟩ : ∃ O, O = Norm_at l0 m := ⟨_, rfl⟩
   rw [← eO] at hlook ENX HR HM
   have OL := Aside0.mk (show O.length ≤ 1000 by rw [eO]; have := Norm_at_len l0 m; omega)
   clear eO c
   cases hse : Norm_seen O x.f1 with
   | true =>
    rw [hse] at hlook
    go_wp2_with (first
     | (with_reducible refine wp_label ?_) | (with_reducible refine wp_scope_straight ?_) | (simp only [Exit.noGoto_ret, Exit.noGoto_normal, Exit.noGoto_exit]))
    have EN := Aside0.mk (show Norm_at l0 (m + 1) = O by rw [ENX.out, if_pos hse])
    refine ⟨⟨m + 1, MC.out, ?_, ⟨by rw [EN.out]; exact HR.out⟩, ⟨by rw [EN.out]; exact HM.out.mono⟩, HB, HZ⟩, ?_⟩
    ·
     have := EJ.out
     congr 1
     omega
    · simp [intOf]
   | false =>
    rw [hse] at hlook
    have EN := Aside0.mk (show Norm_at l0 (m + 1) = O ++ [x] by rw [ENX.out, if_neg (by rw [hse]; exact Bool.false_ne_true)])
    obtain ⟨D, hD1, hD2, hD3⟩ := HM.out
    have HD1 := Aside0.mk hD1
    have HD2 := Aside0.mk hD2
    have HD3 := Aside0.mk hD3
    clear hD1 hD2 hD3
    go_wp2_with (first
     | (with_reducible refine wp_label ?_) | (with_reducible refine wp_scope_straight ?_) | (simp only [Exit.noGoto_ret, Exit.noGoto_normal, Exit.noGoto_exit])
     | (at_mapUpdate; refine wpList_mapUpdate_own _ rfl _ _ _ 61 rfl 9 4 (Go.Maps.string_keyed Try.underlying9) Try.underlying61 (plainElem Try.prog 4) w.heap.size m D rfl HD1.out (by have := MC.out; have := HL.out; unfold maxLen; omega) _ _ _ rfl rfl (Go.WideMaps.keyOf_string_mk Try.underlying9 (by have := SZ.out; unfold maxLen; omega)) _ [] (plainElem_bool Try.underlying4 true) ?_; intro w1 hown hg; have M1 := Aside0.mk (ownsMap_norm hown HD2.out HD3.out); have B1 := Aside0.mk (HB.out.grown hg HB.out.size (fun j hj => by cases hj; exact Nat.le_refl _)); have Z1 := Aside0.mk (Nat.le_trans HZ.out hg.size); have R1 := Aside0.mk (Kd.R_mono (Kd.R_grown (Kd.R_bound HR.out) hg (fun k hk e => by have := hk.2.1; injection e with e; omega)) (fun _ _ => trivial) : Kd.R k27 27 w1 (w.heap.size + 1) (fun _ => True) u3 O); obtain ⟨ad2, ead2, y0, y1, y2⟩ := at_T27 (Kd.C_below HC.out B1.out) (j : Int) (Int.natCast_nonneg _) (by omega); cases ead2; rw [Int.toNat_natCast, EX.out] at y0 y1 y2; clear hown hg x0 x1 x2 hlook)
     | ((with_reducible refine gate_builtin (b := .append) (xs := #[.tmp 27, .tmp 32]) rfl ?_); at_builtin; (refine Kd.R_append k27 (w0 := w1) (w.heap.size + 1) rfl (.tmp 27) (.tmp 32) 22 27 (.agg #[(.int .i64 0), (.string ⟨#[]⟩), (.string ⟨#[]⟩)]) 40 rfl Try.underlying22 info27 rfl (by decide) (by decide) _ O x [.int .i64 x.f0, .string x.f1, .string x.f2] (fun _ => True) (fun _ => False) rfl rfl (k27_mkM _ _ _ x) (fun _ hk => hk.elim) (fun _ _ => trivial) R1.out (Below.refl _ _) Z1.out (by have := OL.out; omega) ?_; intro v1 wz ho hb hg hat; have BZ := Aside0.mk (B1.out.trans (Below.lower hb (Nat.le_succ _))); have RZ := Aside0.mk ho; have MZ := Aside0.mk (M1.out.kept hg (fun e => by have := Kd.R_base R1.out w.heap.size e.symm; omega)); have ZZ := Aside0.mk (Nat.le_trans Z1.out hg.size); clear ho hb hg hat))
     | fail)
    refine ⟨⟨m + 1, MC.out, ?_, ⟨by rw [EN.out]; exact RZ.out⟩, ⟨by rw [EN.out]; exact MZ.out⟩, BZ, ZZ⟩, ?_⟩
    ·
     have := EJ.out
     congr 1
     omega
    · simp [intOf]
  ·
   obtain rfl : m = l0.length := Nat.le_antisymm hm c
   have e1 : (l0.length : Int) - 1 - (l0.length : Int) = -1 := by omega
   rw [e1]
   have SR := sort37 u3 (Norm_at l0 l0.length) wr (w.heap.size + 1) HZ.out HR.out (Nat.le_trans (Norm_at_len _ _) HL.out) (Norm_at_apart _ _)
   have SRT := Aside0.mk SR
   clear SR
   go_wp2_with (first
    | (with_reducible refine wp_label ?_) | (with_reducible refine wp_scope_straight ?_) | (simp only [Exit.noGoto_ret, Exit.noGoto_normal, Exit.noGoto_exit])
    | (go_at_call 37; refine SRT.out.mono ?_; rintro e w1 ⟨rfl, hr, hb⟩; have R1 := Aside0.mk hr; have B1 := Aside0.mk (HB.out.trans (Below.lower hb (Nat.le_succ _))); clear hr hb)
    | fail)
   go_ret
   exact ⟨_, rfl, Kd.R_lower R1.out (Nat.le_succ _), B1.out⟩
theorem batch_Norm.calls (k : Nat) (A0 : Option Addr) (c0 : Nat) (l0 : List S27) (r : List S27) (w : World) (hr0 : Kd.C k27 w A0 l0.length l0) (hc0 : l0.length ≤ c0) (h : batch_Norm.f k l0 = some r) :
 Calls Try.prog 14 #[.slice A0 l0.length c0] w fun e w' => ∃ v0_ : Value, e = .returned (v0_) ∧ Kd.R k27 27 w' w.heap.size (fun _ => True) v0_ r ∧ Below w.heap.size w w' := by
 unfold batch_Norm.f at h
 by_cases c : l0.length ≤ 1000 ∧ (l0.all fun x => decide (x.f1.size ≤ 1000000)) = true
 ·
  rw [if_pos c] at h
  obtain rfl := Option.some.inj h
  exact norm_walk A0 c0 l0 w hr0 hc0 c.1 c.2
 · rw [if_neg c] at h; cases h

/-! ### batch_may: function 40 -/
mutual
def batch_may.j0 : Nat → Bool → Int → ByteArray → ByteArray → Option (Int)
 | 0, _, _, _, _ => none
 | k + 1, x3, x225000, x225001, x225002 => if x3 = true then (some 1) else (if (x225001.size : Int) > 64 then (batch_may.j1 k true x225000 x225001 x225002) else (batch_may.j1 k (decide ((x225002.size : Int) > 512)) x225000 x225001 x225002))
def batch_may.j1 : Nat → Bool → Int → ByteArray → ByteArray → Option (Int)
 | 0, _, _, _, _ => none
 | k + 1, x12, x225000, x225001, x225002 => if x12 = true then (some 4) else (if x225000 = 2 then (if x225002.toList = ([] : List UInt8) then (some 0) else (some 1)) else (some 0))
end
def batch_may.f (k : Nat) (a0_0 : Int) (a0_1 : ByteArray) (a0_2 : ByteArray) : Option (Int) := if a0_0 = 1 then (batch_may.j0 k false a0_0 a0_1 a0_2) else (batch_may.j0 k (a0_0 != 2) a0_0 a0_1 a0_2)
theorem batch_may.mono_l : ∀ k, (∀ y0 y1 y2 y3, LeO (batch_may.j0 k y0 y1 y2 y3) (batch_may.j0 (k + 1) y0 y1 y2 y3)) ∧ (∀ y0 y1 y2 y3, LeO (batch_may.j1 k y0 y1 y2 y3) (batch_may.j1 (k + 1) y0 y1 y2 y3))
 | 0 => ⟨fun _ _ _ _ r h => by simp [batch_may.j0] at h, fun _ _ _ _ r h => by simp [batch_may.j1] at h⟩
 | k + 1 => by
  obtain ⟨ih0, ih1⟩ := batch_may.mono_l k
  refine ⟨?_, ?_⟩
  ·
   intro y0 y1 y2 y3
   unfold batch_may.j0
   repeat' first
   | (with_reducible exact ih0 _ _ _ _)
   | (with_reducible exact ih1 _ _ _ _)
   | (with_reducible exact LeO.refl _)
   | (with_reducible exact LeO.none _)
   | (with_reducible refine LeO.ite ?_ ?_)
   | (with_reducible refine LeO.bind ?_ (fun _ => ?_))
   | exact ih0 _ _ _ _
   | exact ih1 _ _ _ _
   | exact LeO.none _
   | refine LeO.ite ?_ ?_
   | refine LeO.bind ?_ (fun _ => ?_)
  ·
   intro y0 y1 y2 y3
   unfold batch_may.j1
   repeat' first
   | (with_reducible exact ih0 _ _ _ _)
   | (with_reducible exact ih1 _ _ _ _)
   | (with_reducible exact LeO.refl _)
   | (with_reducible exact LeO.none _)
   | (with_reducible refine LeO.ite ?_ ?_)
   | (with_reducible refine LeO.bind ?_ (fun _ => ?_))
   | exact ih0 _ _ _ _
   | exact ih1 _ _ _ _
   | exact LeO.none _
   | refine LeO.ite ?_ ?_
   | refine LeO.bind ?_ (fun _ => ?_)
theorem batch_may.mono : ∀ a0 a1 a2 k, LeO (batch_may.f k a0 a1 a2) (batch_may.f (k + 1) a0 a1 a2) := by
 intro a0 a1 a2 k
 obtain ⟨ih0, ih1⟩ := batch_may.mono_l k
 unfold batch_may.f
 repeat' first
  | (with_reducible exact ih0 _ _ _ _)
  | (with_reducible exact ih1 _ _ _ _)
  | (with_reducible exact LeO.refl _)
  | (with_reducible exact LeO.none _)
  | (with_reducible refine LeO.ite ?_ ?_)
  | (with_reducible refine LeO.bind ?_ (fun _ => ?_))
  | exact ih0 _ _ _ _
  | exact ih1 _ _ _ _
  | exact LeO.none _
  | refine LeO.ite ?_ ?_
  | refine LeO.bind ?_ (fun _ => ?_)
set_option maxHeartbeats 80000000 in
set_option maxRecDepth 100000 in
theorem batch_may.calls (k : Nat) (a0_0 : Int) (a0_1 : ByteArray) (a0_2 : ByteArray) (r : Int) (w : World) (h : batch_may.f k a0_0 a0_1 a0_2 = some r) :
 Calls Try.prog 40 #[.agg #[.int .i64 a0_0, .string a0_1, .string a0_2]] w fun e w' => e = .returned (.int .i64 r) ∧ Below w.heap.size w w' := by
 have hu27 := Try.underlying27
 have HB := Aside0.mk (Below.refl w.heap.size w)
 have H : (if a0_0 = 1 then (batch_may.j0 k false a0_0 a0_1 a0_2) else (batch_may.j0 k (a0_0 != 2) a0_0 a0_1 a0_2)) = some r := h
 clear h
 have HC2 := Aside0.mk H
 clear H
 go_enter Try.func40, Try.ntmps40
 go_upto_region 1 with (first | ((with_reducible refine gate_dst (N := 1) rfl ?_); (try (refine gate_guard (by rfl) ?_; dsimp only)); refine box_event ?hg (N := 1) ?hd (cs := #[.int .i64 a0_0, .string a0_1, .string a0_2]) (t := 27) ?hr ?_; (case hd => rfl); (case hg => rfl); (case hr => first | (go_simp; done) | (go_simp; rfl)); intro gb224 hg w3 hbox hb; have n0_ := Aside0.mk (below_step (by repeat (first | (with_reducible first | exact HB.out | apply below_alloc | apply pw_below_drewN | apply below_drew1) | exact HB.out | exact Below.refl _ _)) hb); have n1_ := Aside0.mk (hbox); have n2_ := Aside0.mk ((by rw [hg]; exact (below_size (by repeat (first | (with_reducible first | exact HB.out | apply below_alloc | apply pw_below_drewN | apply below_drew1) | exact HB.out | exact Below.refl _ _))) : w.heap.size ≤ gb224)); have n3_ := Aside0.mk ((by rw [hg]; exact (below_size (by repeat (first | (with_reducible first | exact HB.out | apply below_alloc | apply pw_below_drewN | apply below_drew1) | exact HB.out | exact Below.refl _ _))) : w.heap.size ≤ gb224)); clear HB; have HB := n0_; have BK224 := n1_; have GW224 := n2_; have GE224 := n3_; clear n0_ n1_ n2_ n3_; clear hb hbox hg))
 (try simp only [Act.put, List.setIfInBounds_toArray, List.set_cons_zero, List.set_cons_succ])
 go_cut [3] (fun v3 wc => ∃ (kq : Nat) (x3_1 : Bool), v3 = .bool x3_1 ∧ Aside0 (batch_may.j0 kq x3_1 a0_0 a0_1 a0_2 = some r) ∧ Aside0 (kq ≤ k) ∧ Aside0 (wc.heap[gb224]? = some (.cells #[.int .i64 a0_0, .string a0_1, .string a0_2] 27 (0, 0))) ∧ Aside0 (Below w.heap.size w wc))
 case first =>
  have H := HC2.out
  clear HC2
  by_cases c4 : a0_0 = 1
  ·
   rw [if_pos c4] at H
   have c4b0 : (a0_0 == 1) = true := beq_iff_eq.mpr c4
   have c4b1 : (a0_0 != 1) = false := bne_eq_false_iff_eq.mpr c4
   clear c4
   (first | rw [c4b0] | (simp only [i64_w, i32_w]; rw [c4b0]) | skip)
   have H' := Aside0.mk H
   clear H
   have hcz5_0 : w3.cell? ⟨gb224, 0, none⟩ = some (.int .i64 a0_0) := (blk_cell BK224.out 0).trans rfl
   have hcz5_1 : w3.cell? ⟨gb224, 1, none⟩ = some (.string a0_1) := (blk_cell BK224.out 1).trans rfl
   have hcz5_2 : w3.cell? ⟨gb224, 2, none⟩ = some (.string a0_2) := (blk_cell BK224.out 2).trans rfl
   have hfz5_0 := blk_frozen BK224.out 0
   have hfz5_1 := blk_frozen BK224.out 1
   have hfz5_2 := blk_frozen BK224.out 2
   go_wp2
   go_meet
   case rel => exact ⟨_, (false), (by first | rfl | (simp; done) | (simp [*]; done)), H', ⟨by first | omega | exact Nat.le_refl _⟩, ⟨by (with_reducible repeat (first | refine blk_drewN ?_ _ | refine blk_drew ?_ | refine blk_alloc ?_ _)); exact BK224.out⟩, ⟨by repeat (first | (with_reducible first | exact HB.out | apply below_alloc | apply pw_below_drewN | apply below_drew1 | refine below_set ?_ GE224.out) | exact HB.out | exact Below.refl _ _)⟩⟩
  ·
   rw [if_neg c4] at H
   have c4b0 : (a0_0 == 1) = false := beq_eq_false_iff_ne.mpr c4
   have c4b1 : (a0_0 != 1) = true := bne_iff_ne.mpr c4
   (first | rw [c4b0] | (simp only [i64_w, i32_w]; rw [c4b0]) | skip)
   have H' := Aside0.mk H
   clear H
   have hcz6_0 : w3.cell? ⟨gb224, 0, none⟩ = some (.int .i64 a0_0) := (blk_cell BK224.out 0).trans rfl
   have hcz6_1 : w3.cell? ⟨gb224, 1, none⟩ = some (.string a0_1) := (blk_cell BK224.out 1).trans rfl
   have hcz6_2 : w3.cell? ⟨gb224, 2, none⟩ = some (.string a0_2) := (blk_cell BK224.out 2).trans rfl
   have hfz6_0 := blk_frozen BK224.out 0
   have hfz6_1 := blk_frozen BK224.out 1
   have hfz6_2 := blk_frozen BK224.out 2
   go_wp2
   go_meet
   case rel => exact ⟨_, ((a0_0 != 2)), (by first | rfl | (simp; done) | (simp [*]; done)), H', ⟨by first | omega | exact Nat.le_refl _⟩, ⟨by (with_reducible repeat (first | refine blk_drewN ?_ _ | refine blk_drew ?_ | refine blk_alloc ?_ _)); exact BK224.out⟩, ⟨by repeat (first | (with_reducible first | exact HB.out | apply below_alloc | apply pw_below_drewN | apply below_drew1 | refine below_set ?_ GE224.out) | exact HB.out | exact Below.refl _ _)⟩⟩
 case rest =>
  as_aux_lemma =>
   clear HC2
   obtain ⟨kq, x3_1, rfl, HA, HJ1, BK224, HB⟩ := hcut
   cases kq with
   | zero => exact absurd HA.out (by simp [batch_may.j0])
   | succ kj1 =>
    have H := HA.out
    clear HA
    simp only [batch_may.j0] at H
    by_cases c7 : x3_1 = true
    ·
     subst c7
     have H1 : (some 1) = some r := by rw [if_pos rfl] at H; exact H
     clear H
     have H := H1
     clear H1
     obtain rfl := Option.some.inj H
     go_wp2
     go_ret
     exact ⟨by first | rfl | (simp [errW_none, errW_some] <;> rfl) | (simp [*, errW_none, errW_some] <;> rfl), by repeat (first | (with_reducible first | exact HB.out | apply below_alloc | apply pw_below_drewN | apply below_drew1 | refine below_set ?_ GE224.out) | exact HB.out | exact Below.refl _ _)⟩
    ·
     replace c7 := Bool.eq_false_iff.mpr c7
     subst c7
     have H1 : (if (a0_1.size : Int) > 64 then (batch_may.j1 kj1 true a0_0 a0_1 a0_2) else (batch_may.j1 kj1 (decide ((a0_2.size : Int) > 512)) a0_0 a0_1 a0_2)) = some r := by rw [if_neg (show ¬ (false = true) by decide)] at H; exact H
     clear H
     have H := H1
     clear H1
     have HC8 := Aside0.mk H
     clear H
     go_upto_region 3 with (fail)
     go_cut [12] (fun v12 wc => ∃ (kq : Nat) (x12_7 : Bool), v12 = .bool x12_7 ∧ Aside0 (batch_may.j1 kq x12_7 a0_0 a0_1 a0_2 = some r) ∧ Aside0 (kq ≤ kj1) ∧ Aside0 (wc.heap[gb224]? = some (.cells #[.int .i64 a0_0, .string a0_1, .string a0_2] 27 (0, 0))) ∧ Aside0 (Below w.heap.size w wc))
     case first =>
      have H := HC8.out
      clear HC8
      by_cases c9 : (a0_1.size : Int) > 64
      ·
       rw [if_pos c9] at H
       have c9b0 : decide (64 < (a0_1.size : Int)) = true := decide_eq_true c9
       have c9b1 : decide (64 < a0_1.size) = true := decide_eq_true (by omega)
       clear c9
       (first | rw [c9b0] | (simp only [i64_w, i32_w]; rw [c9b0]) | skip)
       have H' := Aside0.mk H
       clear H
       have hcz10_0 : wc.cell? ⟨gb224, 0, none⟩ = some (.int .i64 a0_0) := (blk_cell BK224.out 0).trans rfl
       have hcz10_1 : wc.cell? ⟨gb224, 1, none⟩ = some (.string a0_1) := (blk_cell BK224.out 1).trans rfl
       have hcz10_2 : wc.cell? ⟨gb224, 2, none⟩ = some (.string a0_2) := (blk_cell BK224.out 2).trans rfl
       have hfz10_0 := blk_frozen BK224.out 0
       have hfz10_1 := blk_frozen BK224.out 1
       have hfz10_2 := blk_frozen BK224.out 2
       go_wp2
       go_meet
       case rel => exact ⟨_, (true), (by first | rfl | (simp; done) | (simp [*]; done)), H', ⟨by have := HJ1.out; first | omega | exact Nat.le_refl _⟩, ⟨by (with_reducible repeat (first | refine blk_drewN ?_ _ | refine blk_drew ?_ | refine blk_alloc ?_ _)); exact BK224.out⟩, ⟨by repeat (first | (with_reducible first | exact HB.out | apply below_alloc | apply pw_below_drewN | apply below_drew1 | refine below_set ?_ GE224.out) | exact HB.out | exact Below.refl _ _)⟩⟩
      ·
       rw [if_neg c9] at H
       have c9b0 : decide (64 < (a0_1.size : Int)) = false := decide_eq_false c9
       have c9b1 : decide (64 < a0_1.size) = false := decide_eq_false (by omega)
       clear c9
       (first | rw [c9b0] | (simp only [i64_w, i32_w]; rw [c9b0]) | skip)
       have H' := Aside0.mk H
       clear H
       have hcz11_0 : wc.cell? ⟨gb224, 0, none⟩ = some (.int .i64 a0_0) := (blk_cell BK224.out 0).trans rfl
       have hcz11_1 : wc.cell? ⟨gb224, 1, none⟩ = some (.string a0_1) := (blk_cell BK224.out 1).trans rfl
       have hcz11_2 : wc.cell? ⟨gb224, 2, none⟩ = some (.string a0_2) := (blk_cell BK224.out 2).trans rfl
       have hfz11_0 := blk_frozen BK224.out 0
       have hfz11_1 := blk_frozen BK224.out 1
       have hfz11_2 := blk_frozen BK224.out 2
       go_wp2
       go_meet
       case rel => exact ⟨_, (decide ((a0_2.size : Int) > 512)), (by first | rfl | (simp; done) | (simp [*]; done)), H', ⟨by have := HJ1.out; first | omega | exact Nat.le_refl _⟩, ⟨by (with_reducible repeat (first | refine blk_drewN ?_ _ | refine blk_drew ?_ | refine blk_alloc ?_ _)); exact BK224.out⟩, ⟨by repeat (first | (with_reducible first | exact HB.out | apply below_alloc | apply pw_below_drewN | apply below_drew1 | refine below_set ?_ GE224.out) | exact HB.out | exact Below.refl _ _)⟩⟩
     case rest =>
      as_aux_lemma =>
       clear HC8
       obtain ⟨kq, x12_7, rfl, HA, HJ7, BK224, HB⟩ := hcut
       cases kq with
       | zero => exact absurd HA.out (by simp [batch_may.j1])
       | succ kj7 =>
        have H := HA.out
        clear HA
        simp only [batch_may.j1] at H
        by_cases c12 : x12_7 = true
        ·
         subst c12
         have H1 : (some 4) = some r := by rw [if_pos rfl] at H; exact H
         clear H
         have H := H1
         clear H1
         obtain rfl := Option.some.inj H
         go_wp2
         go_ret
         exact ⟨by first | rfl | (simp [errW_none, errW_some] <;> rfl) | (simp [*, errW_none, errW_some] <;> rfl), by repeat (first | (with_reducible first | exact HB.out | apply below_alloc | apply pw_below_drewN | apply below_drew1 | refine below_set ?_ GE224.out) | exact HB.out | exact Below.refl _ _)⟩
        ·
         replace c12 := Bool.eq_false_iff.mpr c12
         subst c12
         have H1 : (if a0_0 = 2 then (if a0_2.toList = ([] : List UInt8) then (some 0) else (some 1)) else (some 0)) = some r := by rw [if_neg (show ¬ (false = true) by decide)] at H; exact H
         clear H
         have H := H1
         clear H1
         by_cases c13 : a0_0 = 2
         ·
          rw [if_pos c13] at H
          have c13b0 : (a0_0 == 2) = true := beq_iff_eq.mpr c13
          have c13b1 : (a0_0 != 2) = false := bne_eq_false_iff_eq.mpr c13
          clear c13
          by_cases c14 : a0_2.toList = ([] : List UInt8)
          ·
           rw [if_pos c14] at H
           have c14b0 : (a0_2.toList == ([] : List UInt8)) = true := beq_iff_eq.mpr c14
           have c14b1 : (a0_2.toList != ([] : List UInt8)) = false := bne_eq_false_iff_eq.mpr c14
           clear c14
           obtain rfl := Option.some.inj H
           have hcz15_0 : wc.cell? ⟨gb224, 0, none⟩ = some (.int .i64 a0_0) := (blk_cell BK224.out 0).trans rfl
           have hcz15_1 : wc.cell? ⟨gb224, 1, none⟩ = some (.string a0_1) := (blk_cell BK224.out 1).trans rfl
           have hcz15_2 : wc.cell? ⟨gb224, 2, none⟩ = some (.string a0_2) := (blk_cell BK224.out 2).trans rfl
           have hfz15_0 := blk_frozen BK224.out 0
           have hfz15_1 := blk_frozen BK224.out 1
           have hfz15_2 := blk_frozen BK224.out 2
           go_wp2
           go_ret
           exact ⟨by first | rfl | (simp [errW_none, errW_some] <;> rfl) | (simp [*, errW_none, errW_some] <;> rfl), by repeat (first | (with_reducible first | exact HB.out | apply below_alloc | apply pw_below_drewN | apply below_drew1 | refine below_set ?_ GE224.out) | exact HB.out | exact Below.refl _ _)⟩
          ·
           rw [if_neg c14] at H
           have c14b0 : (a0_2.toList == ([] : List UInt8)) = false := beq_eq_false_iff_ne.mpr c14
           have c14b1 : (a0_2.toList != ([] : List UInt8)) = true := bne_iff_ne.mpr c14
           obtain rfl := Option.some.inj H
           have hcz16_0 : wc.cell? ⟨gb224, 0, none⟩ = some (.int .i64 a0_0) := (blk_cell BK224.out 0).trans rfl
           have hcz16_1 : wc.cell? ⟨gb224, 1, none⟩ = some (.string a0_1) := (blk_cell BK224.out 1).trans rfl
           have hcz16_2 : wc.cell? ⟨gb224, 2, none⟩ = some (.string a0_2) := (blk_cell BK224.out 2).trans rfl
           have hfz16_0 := blk_frozen BK224.out 0
           have hfz16_1 := blk_frozen BK224.out 1
           have hfz16_2 := blk_frozen BK224.out 2
           go_wp2
           go_ret
           exact ⟨by first | rfl | (simp [errW_none, errW_some] <;> rfl) | (simp [*, errW_none, errW_some] <;> rfl), by repeat (first | (with_reducible first | exact HB.out | apply below_alloc | apply pw_below_drewN | apply below_drew1 | refine below_set ?_ GE224.out) | exact HB.out | exact Below.refl _ _)⟩
         ·
          rw [if_neg c13] at H
          have c13b0 : (a0_0 == 2) = false := beq_eq_false_iff_ne.mpr c13
          have c13b1 : (a0_0 != 2) = true := bne_iff_ne.mpr c13
          obtain rfl := Option.some.inj H
          have hcz17_0 : wc.cell? ⟨gb224, 0, none⟩ = some (.int .i64 a0_0) := (blk_cell BK224.out 0).trans rfl
          have hcz17_1 : wc.cell? ⟨gb224, 1, none⟩ = some (.string a0_1) := (blk_cell BK224.out 1).trans rfl
          have hcz17_2 : wc.cell? ⟨gb224, 2, none⟩ = some (.string a0_2) := (blk_cell BK224.out 2).trans rfl
          have hfz17_0 := blk_frozen BK224.out 0
          have hfz17_1 := blk_frozen BK224.out 1
          have hfz17_2 := blk_frozen BK224.out 2
          go_wp2
          go_ret
          exact ⟨by first | rfl | (simp [errW_none, errW_some] <;> rfl) | (simp [*, errW_none, errW_some] <;> rfl), by repeat (first | (with_reducible first | exact HB.out | apply below_alloc | apply pw_below_drewN | apply below_drew1 | refine below_set ?_ GE224.out) | exact HB.out | exact Below.refl _ _)⟩

end Go.Proofs.Ytgannkfpfhdhjaa.PReplayJoins
