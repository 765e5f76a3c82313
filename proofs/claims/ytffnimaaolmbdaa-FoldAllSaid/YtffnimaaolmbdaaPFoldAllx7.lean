/- The functions that a law reaches, as Lean functions, each with the contract that its Go code comes to just these answers. Written by a program of this claim's author (wip/mkprint.py). No conditions. -/
import Derived.Test.YtffnimaaolmbdaaPFoldAllx0
import Derived.Test.YtffnimaaolmbdaaPFoldAllx2
import Derived.Test.YtffnimaaolmbdaaPFoldAllx3
import Derived.Test.YtffnimaaolmbdaaPFoldAllx4
import Derived.Test.YtffnimaaolmbdaaPFoldAllx5
import Derived.Test.YtffnimaaolmbdaaPFoldAllx6
namespace Go.Proofs.Ytffnimaaolmbdaa.PFoldAll
open Go.RowKit Go.Proofs.YtffnimaaolmbdaaW.PrintWords Go.Proofs.YtffnimaaolmbdaaW.PrintLast Go.Proofs.YtffnimaaolmbdaaW.PrintMore
attribute [local go_sem] max2_int min2_int max_two min_two max_three min_three max_four min_four   -- for this text's walks alone
set_option linter.unusedVariables false
set_option linter.unusedSimpArgs false

/-! ### iceboxlaw24_FoldAll: function 12 -/
mutual
def iceboxlaw24_FoldAll.j0 : Nat → List (S70) → Int → ByteArray → ByteArray → ByteArray → Bool → Int → List (S66) → Bool → Option (Bool)
 | 0, _, _, _, _, _, _, _, _, _ => none
 | k + 1, x0, x1, x2, x3, x4, x5, x6, x7, x45 => if x45 = true then ((iceboxlaw24_awake.f k).bind fun t323 => (some t323)) else (iceboxlaw24_FoldAll.l0 k x0 x1 x2 x3 x4 x5 x6 x7 0)
def iceboxlaw24_FoldAll.l0 : Nat → List (S70) → Int → ByteArray → ByteArray → ByteArray → Bool → Int → List (S66) → Int → Option (Bool)
 | 0, _, _, _, _, _, _, _, _, _ => none
 | k + 1, x0, x1, x2, x3, x4, x5, x6, x7, x17 => if x17 < (x0.length : Int) then (if 0 ≤ x17 then ((iceboxlaw8_Great.f k ((rd_T70 x0 x17).f1)).bind fun t325 => (if t325 = true then ((iceboxlaw24_awake.f k).bind fun t326 => (some t326)) else (if (((rd_T70 x0 x17).f1).length : Int) > 20 then ((iceboxlaw24_awake.f k).bind fun t328 => (some t328)) else (iceboxlaw24_FoldAll.l0 k x0 x1 x2 x3 x4 x5 x6 x7 (wrap64 (x17 + 1)))))) else (none)) else ((fold_Fold.f k x0 x1).bind fun t329 => ((fold_Get.f k x7 x2).bind fun bt332 => ((iceboxref17_GetPair.f k x7 x2).bind fun bt334 => ((iceboxref17_Fold.f k x0 x1).bind fun t336 => ((iceboxref1_Pairs.f k t329 t336).bind fun t339 => (if t339 = true then (if bt332.1.toList = bt334.1.toList then (if (bt332.2 == bt334.2) = true then ((fold_Scan.f k x7 x3 x4 x5 x6).bind fun t340 => ((iceboxref17_Scan.f k x7 x3 x4 x5 x6).bind fun t343 => ((iceboxref1_Pairs.f k t340 t343).bind fun t346 => (if t346 = true then ((fold_Scan.f k t329 x3 x4 x5 x6).bind fun t347 => ((iceboxref17_Fold.f k x0 x1).bind fun t350 => ((iceboxref17_Scan.f k t350 x3 x4 x5 x6).bind fun t353 => ((iceboxref1_Pairs.f k t347 t353).bind fun t356 => (if t356 = true then ((iceboxlaw24_awake.f k).bind fun t357 => (some t357)) else (some false)))))) else (some false))))) else (some false)) else (some false)) else (some false)))))))
end
def iceboxlaw24_FoldAll.f (k : Nat) (l0 : List (S70)) (a1 : Int) (a2 : ByteArray) (a3 : ByteArray) (a4 : ByteArray) (a5 : Bool) (a6 : Int) (l7 : List (S66)) : Option (Bool) := if (l0.length : Int) > 20 then (iceboxlaw24_FoldAll.j0 k l0 a1 a2 a3 a4 a5 a6 l7 true) else (if (a2.size : Int) > 300 then (iceboxlaw24_FoldAll.j0 k l0 a1 a2 a3 a4 a5 a6 l7 true) else (if (a3.size : Int) > 300 then (iceboxlaw24_FoldAll.j0 k l0 a1 a2 a3 a4 a5 a6 l7 true) else (if (a4.size : Int) > 300 then (iceboxlaw24_FoldAll.j0 k l0 a1 a2 a3 a4 a5 a6 l7 true) else (iceboxlaw24_FoldAll.j0 k l0 a1 a2 a3 a4 a5 a6 l7 (decide ((l7.length : Int) > 60))))))
theorem iceboxlaw24_FoldAll.mono_l : ∀ k, (∀ y0 y1 y2 y3 y4 y5 y6 y7 y8, LeO (iceboxlaw24_FoldAll.j0 k y0 y1 y2 y3 y4 y5 y6 y7 y8) (iceboxlaw24_FoldAll.j0 (k + 1) y0 y1 y2 y3 y4 y5 y6 y7 y8)) ∧ (∀ y0 y1 y2 y3 y4 y5 y6 y7 y8, LeO (iceboxlaw24_FoldAll.l0 k y0 y1 y2 y3 y4 y5 y6 y7 y8) (iceboxlaw24_FoldAll.l0 (k + 1) y0 y1 y2 y3 y4 y5 y6 y7 y8))
 | 0 => ⟨fun _ _ _ _ _ _ _ _ _ r h => by simp [iceboxlaw24_FoldAll.j0] at h, fun _ _ _ _ _ _ _ _ _ r h => by simp [iceboxlaw24_FoldAll.l0] at h⟩
 | k + 1 => by
  obtain ⟨ih0, ih1⟩ := iceboxlaw24_FoldAll.mono_l k
  refine ⟨?_, ?_⟩
  ·
   intro y0 y1 y2 y3 y4 y5 y6 y7 y8
   unfold iceboxlaw24_FoldAll.j0
   repeat' first
   | (with_reducible exact ih0 _ _ _ _ _ _ _ _ _)
   | (with_reducible exact ih1 _ _ _ _ _ _ _ _ _)
   | (with_reducible exact fold_Fold.mono _ _ _)
   | (with_reducible exact fold_Get.mono _ _ _)
   | (with_reducible exact fold_Scan.mono _ _ _ _ _ _)
   | (with_reducible exact iceboxlaw24_awake.mono _)
   | (with_reducible exact iceboxlaw8_Great.mono _ _)
   | (with_reducible exact iceboxref17_Fold.mono _ _ _)
   | (with_reducible exact iceboxref17_GetPair.mono _ _ _)
   | (with_reducible exact iceboxref17_Scan.mono _ _ _ _ _ _)
   | (with_reducible exact iceboxref1_Pairs.mono _ _ _)
   | (with_reducible exact LeO.refl _)
   | (with_reducible exact LeO.none _)
   | (with_reducible refine LeO.ite ?_ ?_)
   | (with_reducible refine LeO.bind ?_ (fun _ => ?_))
   | exact ih0 _ _ _ _ _ _ _ _ _
   | exact ih1 _ _ _ _ _ _ _ _ _
   | exact fold_Fold.mono _ _ _
   | exact fold_Get.mono _ _ _
   | exact fold_Scan.mono _ _ _ _ _ _
   | exact iceboxlaw24_awake.mono _
   | exact iceboxlaw8_Great.mono _ _
   | exact iceboxref17_Fold.mono _ _ _
   | exact iceboxref17_GetPair.mono _ _ _
   | exact iceboxref17_Scan.mono _ _ _ _ _ _
   | exact iceboxref1_Pairs.mono _ _ _
   | exact LeO.none _
   | refine LeO.ite ?_ ?_
   | refine LeO.bind ?_ (fun _ => ?_)
  ·
   intro y0 y1 y2 y3 y4 y5 y6 y7 y8
   unfold iceboxlaw24_FoldAll.l0
   repeat' first
   | (with_reducible exact ih0 _ _ _ _ _ _ _ _ _)
   | (with_reducible exact ih1 _ _ _ _ _ _ _ _ _)
   | (with_reducible exact fold_Fold.mono _ _ _)
   | (with_reducible exact fold_Get.mono _ _ _)
   | (with_reducible exact fold_Scan.mono _ _ _ _ _ _)
   | (with_reducible exact iceboxlaw24_awake.mono _)
   | (with_reducible exact iceboxlaw8_Great.mono _ _)
   | (with_reducible exact iceboxref17_Fold.mono _ _ _)
   | (with_reducible exact iceboxref17_GetPair.mono _ _ _)
   | (with_reducible exact iceboxref17_Scan.mono _ _ _ _ _ _)
   | (with_reducible exact iceboxref1_Pairs.mono _ _ _)
   | (with_reducible exact LeO.refl _)
   | (with_reducible exact LeO.none _)
   | (with_reducible refine LeO.ite ?_ ?_)
   | (with_reducible refine LeO.bind ?_ (fun _ => ?_))
   | exact ih0 _ _ _ _ _ _ _ _ _
   | exact ih1 _ _ _ _ _ _ _ _ _
   | exact fold_Fold.mono _ _ _
   | exact fold_Get.mono _ _ _
   | exact fold_Scan.mono _ _ _ _ _ _
   | exact iceboxlaw24_awake.mono _
   | exact iceboxlaw8_Great.mono _ _
   | exact iceboxref17_Fold.mono _ _ _
   | exact iceboxref17_GetPair.mono _ _ _
   | exact iceboxref17_Scan.mono _ _ _ _ _ _
   | exact iceboxref1_Pairs.mono _ _ _
   | exact LeO.none _
   | refine LeO.ite ?_ ?_
   | refine LeO.bind ?_ (fun _ => ?_)
theorem iceboxlaw24_FoldAll.mono : ∀ a0 a1 a2 a3 a4 a5 a6 a7 k, LeO (iceboxlaw24_FoldAll.f k a0 a1 a2 a3 a4 a5 a6 a7) (iceboxlaw24_FoldAll.f (k + 1) a0 a1 a2 a3 a4 a5 a6 a7) := by
 intro a0 a1 a2 a3 a4 a5 a6 a7 k
 obtain ⟨ih0, ih1⟩ := iceboxlaw24_FoldAll.mono_l k
 unfold iceboxlaw24_FoldAll.f
 repeat' first
  | (with_reducible exact ih0 _ _ _ _ _ _ _ _ _)
  | (with_reducible exact ih1 _ _ _ _ _ _ _ _ _)
  | (with_reducible exact fold_Fold.mono _ _ _)
  | (with_reducible exact fold_Get.mono _ _ _)
  | (with_reducible exact fold_Scan.mono _ _ _ _ _ _)
  | (with_reducible exact iceboxlaw24_awake.mono _)
  | (with_reducible exact iceboxlaw8_Great.mono _ _)
  | (with_reducible exact iceboxref17_Fold.mono _ _ _)
  | (with_reducible exact iceboxref17_GetPair.mono _ _ _)
  | (with_reducible exact iceboxref17_Scan.mono _ _ _ _ _ _)
  | (with_reducible exact iceboxref1_Pairs.mono _ _ _)
  | (with_reducible exact LeO.refl _)
  | (with_reducible exact LeO.none _)
  | (with_reducible refine LeO.ite ?_ ?_)
  | (with_reducible refine LeO.bind ?_ (fun _ => ?_))
  | exact ih0 _ _ _ _ _ _ _ _ _
  | exact ih1 _ _ _ _ _ _ _ _ _
  | exact fold_Fold.mono _ _ _
  | exact fold_Get.mono _ _ _
  | exact fold_Scan.mono _ _ _ _ _ _
  | exact iceboxlaw24_awake.mono _
  | exact iceboxlaw8_Great.mono _ _
  | exact iceboxref17_Fold.mono _ _ _
  | exact iceboxref17_GetPair.mono _ _ _
  | exact iceboxref17_Scan.mono _ _ _ _ _ _
  | exact iceboxref1_Pairs.mono _ _ _
  | exact LeO.none _
  | refine LeO.ite ?_ ?_
  | refine LeO.bind ?_ (fun _ => ?_)
set_option maxHeartbeats 80000000 in
set_option maxRecDepth 100000 in
theorem iceboxlaw24_FoldAll.calls (k : Nat) (A0 : Option Addr) (c0 : Nat) (l0 : List (S70)) (a1 : Int) (a2 : ByteArray) (a3 : ByteArray) (a4 : ByteArray) (a5 : Bool) (a6 : Int) (A7 : Option Addr) (c7 : Nat) (l7 : List (S66)) (r : Bool) (w : World) (hR_ : Aside0 (r = true)) (hr0 : Kd.C k70 w A0 l0.length l0) (hc0 : l0.length ≤ c0) (hr7 : Kd.C k66 w A7 l7.length l7) (hc7 : l7.length ≤ c7) (h : iceboxlaw24_FoldAll.f k l0 a1 a2 a3 a4 a5 a6 l7 = some r) :
 Calls Try.prog 12 #[.slice A0 l0.length c0, .int .i64 a1, .string a2, .string a3, .string a4, .bool a5, .int .i64 a6, .slice A7 l7.length c7] w fun e w' => e = .returned (.bool r) ∧ Below w.heap.size w w' := by
 have HR0 := Aside0.mk hr0
 have HC0 := Aside0.mk hc0
 clear hr0 hc0
 have HR7 := Aside0.mk hr7
 have HC7 := Aside0.mk hc7
 clear hr7 hc7
 have HB := Aside0.mk (Below.refl w.heap.size w)
 have H : (if (l0.length : Int) > 20 then (iceboxlaw24_FoldAll.j0 k l0 a1 a2 a3 a4 a5 a6 l7 true) else (if (a2.size : Int) > 300 then (iceboxlaw24_FoldAll.j0 k l0 a1 a2 a3 a4 a5 a6 l7 true) else (if (a3.size : Int) > 300 then (iceboxlaw24_FoldAll.j0 k l0 a1 a2 a3 a4 a5 a6 l7 true) else (if (a4.size : Int) > 300 then (iceboxlaw24_FoldAll.j0 k l0 a1 a2 a3 a4 a5 a6 l7 true) else (iceboxlaw24_FoldAll.j0 k l0 a1 a2 a3 a4 a5 a6 l7 (decide ((l7.length : Int) > 60))))))) = some r := h
 clear h
 have HC9 := Aside0.mk H
 clear H
 go_enter Try.func12, Try.ntmps12
 go_upto_region 1 with (fail)
 go_cut [45] (fun v45 wc => ∃ (kq : Nat) (x45_8 : Bool), v45 = .bool x45_8 ∧ Aside0 (iceboxlaw24_FoldAll.j0 kq l0 a1 a2 a3 a4 a5 a6 l7 x45_8 = some r) ∧ Aside0 (kq ≤ k) ∧ Aside0 (Below w.heap.size w wc))
 case first =>
  have H := HC9.out
  clear HC9
  by_cases c10 : (l0.length : Int) > 20
  ·
   rw [if_pos c10] at H
   have c10b0 : decide (20 < (l0.length : Int)) = true := decide_eq_true c10
   have c10b1 : decide (20 < l0.length) = true := decide_eq_true (by omega)
   clear c10
   (first | rw [c10b0] | (simp only [i64_w, i32_w]; rw [c10b0]) | skip)
   have H' := Aside0.mk H
   clear H
   go_wp2
   go_meet
   case rel => exact ⟨_, (true), (by first | rfl | (simp; done) | (simp [*]; done)), H', ⟨by first | omega | exact Nat.le_refl _⟩, ⟨by repeat (first | (with_reducible first | exact HB.out | apply below_alloc | apply pw_below_drewN | apply below_drew1) | exact HB.out | exact Below.refl _ _)⟩⟩
  ·
   rw [if_neg c10] at H
   have c10b0 : decide (20 < (l0.length : Int)) = false := decide_eq_false c10
   have c10b1 : decide (20 < l0.length) = false := decide_eq_false (by omega)
   clear c10
   (first | rw [c10b0] | (simp only [i64_w, i32_w]; rw [c10b0]) | skip)
   by_cases c11 : (a2.size : Int) > 300
   ·
    rw [if_pos c11] at H
    have c11b0 : decide (300 < (a2.size : Int)) = true := decide_eq_true c11
    have c11b1 : decide (300 < a2.size) = true := decide_eq_true (by omega)
    clear c11
    have H' := Aside0.mk H
    clear H
    go_wp2
    go_meet
    case rel => exact ⟨_, (true), (by first | rfl | (simp; done) | (simp [*]; done)), H', ⟨by first | omega | exact Nat.le_refl _⟩, ⟨by repeat (first | (with_reducible first | exact HB.out | apply below_alloc | apply pw_below_drewN | apply below_drew1) | exact HB.out | exact Below.refl _ _)⟩⟩
   ·
    rw [if_neg c11] at H
    have c11b0 : decide (300 < (a2.size : Int)) = false := decide_eq_false c11
    have c11b1 : decide (300 < a2.size) = false := decide_eq_false (by omega)
    clear c11
    by_cases c12 : (a3.size : Int) > 300
    ·
     rw [if_pos c12] at H
     have c12b0 : decide (300 < (a3.size : Int)) = true := decide_eq_true c12
     have c12b1 : decide (300 < a3.size) = true := decide_eq_true (by omega)
     clear c12
     have H' := Aside0.mk H
     clear H
     go_wp2
     go_meet
     case rel => exact ⟨_, (true), (by first | rfl | (simp; done) | (simp [*]; done)), H', ⟨by first | omega | exact Nat.le_refl _⟩, ⟨by repeat (first | (with_reducible first | exact HB.out | apply below_alloc | apply pw_below_drewN | apply below_drew1) | exact HB.out | exact Below.refl _ _)⟩⟩
    ·
     rw [if_neg c12] at H
     have c12b0 : decide (300 < (a3.size : Int)) = false := decide_eq_false c12
     have c12b1 : decide (300 < a3.size) = false := decide_eq_false (by omega)
     clear c12
     by_cases c13 : (a4.size : Int) > 300
     ·
      rw [if_pos c13] at H
      have c13b0 : decide (300 < (a4.size : Int)) = true := decide_eq_true c13
      have c13b1 : decide (300 < a4.size) = true := decide_eq_true (by omega)
      clear c13
      have H' := Aside0.mk H
      clear H
      go_wp2
      go_meet
      case rel => exact ⟨_, (true), (by first | rfl | (simp; done) | (simp [*]; done)), H', ⟨by first | omega | exact Nat.le_refl _⟩, ⟨by repeat (first | (with_reducible first | exact HB.out | apply below_alloc | apply pw_below_drewN | apply below_drew1) | exact HB.out | exact Below.refl _ _)⟩⟩
     ·
      rw [if_neg c13] at H
      have c13b0 : decide (300 < (a4.size : Int)) = false := decide_eq_false c13
      have c13b1 : decide (300 < a4.size) = false := decide_eq_false (by omega)
      clear c13
      have H' := Aside0.mk H
      clear H
      go_wp2
      go_meet
      case rel => exact ⟨_, (decide ((l7.length : Int) > 60)), (by first | rfl | (simp; done) | (simp [*]; done)), H', ⟨by first | omega | exact Nat.le_refl _⟩, ⟨by repeat (first | (with_reducible first | exact HB.out | apply below_alloc | apply pw_below_drewN | apply below_drew1) | exact HB.out | exact Below.refl _ _)⟩⟩
 case rest =>
  as_aux_lemma =>
   clear HC9
   try clear c7
   obtain ⟨kq, x45_8, rfl, HA, HJ8, HB⟩ := hcut
   cases kq with
   | zero => exact absurd HA.out (by simp [iceboxlaw24_FoldAll.j0])
   | succ kj8 =>
    have H := HA.out
    clear HA
    simp only [iceboxlaw24_FoldAll.j0] at H
    by_cases c14 : x45_8 = true
    ·
     subst c14
     have H1 : ((iceboxlaw24_awake.f kj8).bind fun t323 => (some t323)) = some r := by rw [if_pos rfl] at H; exact H
     clear H
     have H := H1
     clear H1
     replace H := Option.bind_eq_some_iff.mp H
     obtain ⟨t323, A150, H⟩ := H
     replace H : (some t323) = some r := H
     have A15 := Aside0.mk A150
     clear A150
     obtain rfl := Option.some.inj H
     go_wp2_with (first | ((with_reducible refine gate_callee (f := 38) rfl ?_); refine goesL_ (some 46) rfl rfl Try.func38 (by kernel_rfl) rfl #[] rfl (by (try simp only [List.map_toArray, List.map_cons, List.map_nil]); first | done | rfl | (simp only [List.length_drop, List.length_take]; rfl)) ?_; (with_reducible refine (iceboxlaw24_awake.calls kj8  t323 _ A15.out).mono ?_); rintro e w16 ⟨rfl, hb⟩; refine ⟨_, rfl, ?_⟩; have n0_ := Aside0.mk (below_step (by repeat (first | (with_reducible first | exact HB.out | apply below_alloc | apply pw_below_drewN | apply below_drew1) | exact HB.out | exact Below.refl _ _)) hb); clear HB; have HB := n0_; clear n0_; (try clear hb); (try clear hb2); (try clear hk); (try clear hi)))
     go_ret
     exact ⟨by first | rfl | (simp [errW_none, errW_some] <;> rfl) | (simp [*, errW_none, errW_some] <;> rfl), by repeat (first | (with_reducible first | exact HB.out | apply below_alloc | apply pw_below_drewN | apply below_drew1) | exact HB.out | exact Below.refl _ _)⟩
    ·
     replace c14 := Bool.eq_false_iff.mpr c14
     subst c14
     have H1 : (iceboxlaw24_FoldAll.l0 kj8 l0 a1 a2 a3 a4 a5 a6 l7 0) = some r := by rw [if_neg (show ¬ (false = true) by decide)] at H; exact H
     clear H
     have H := H1
     clear H1
     have H' := Aside0.mk H
     clear H
     go_wp2
     go_loopg [17] kj8 (fun kq v17 w' => ∃ (x17_2 : Int), v17 = .int .i64 x17_2 ∧ Aside0 (iceboxlaw24_FoldAll.l0 kq l0 a1 a2 a3 a4 a5 a6 l7 x17_2 = some r) ∧ Aside0 (kq ≤ kj8) ∧ Aside0 (Below w.heap.size w w'))
     case atStart => exact ⟨(0), (by first | rfl | (simp; done) | (simp [*]; done)), H', ⟨Nat.le_refl _⟩, ⟨by repeat (first | (with_reducible first | exact HB.out | apply below_alloc | apply pw_below_drewN | apply below_drew1) | exact HB.out | exact Below.refl _ _)⟩⟩
     case round =>
      clear H'
      try clear c7
      obtain ⟨x17_2, rfl, HA, HK2, HB⟩ := hrel
      cases gk with
      | zero => exact absurd HA.out (by simp [iceboxlaw24_FoldAll.l0])
      | succ k2 =>
       have H := HA.out
       clear HA
       simp only [iceboxlaw24_FoldAll.l0] at H
       by_cases c17 : x17_2 < (l0.length : Int)
       ·
        rw [if_pos c17] at H
        have c17b0 : decide (x17_2 < (l0.length : Int)) = true := decide_eq_true c17
        clear c17
        by_cases c18 : 0 ≤ x17_2
        ·
         rw [if_pos c18] at H
         have c18b0 : decide (0 ≤ x17_2) = true := decide_eq_true c18
         clear c18
         replace H := Option.bind_eq_some_iff.mp H
         obtain ⟨t325, A190, H⟩ := H
         replace H : (if t325 = true then ((iceboxlaw24_awake.f k2).bind fun t326 => (some t326)) else (if (((rd_T70 l0 x17_2).f1).length : Int) > 20 then ((iceboxlaw24_awake.f k2).bind fun t328 => (some t328)) else (iceboxlaw24_FoldAll.l0 k2 l0 a1 a2 a3 a4 a5 a6 l7 (wrap64 (x17_2 + 1))))) = some r := H
         have A19 := Aside0.mk A190
         clear A190
         by_cases c20 : t325 = true
         ·
          subst c20
          have H1 : ((iceboxlaw24_awake.f k2).bind fun t326 => (some t326)) = some r := by rw [if_pos rfl] at H; exact H
          clear H
          have H := H1
          clear H1
          replace H := Option.bind_eq_some_iff.mp H
          obtain ⟨t326, A210, H⟩ := H
          replace H : (some t326) = some r := H
          have A21 := Aside0.mk A210
          clear A210
          obtain rfl := Option.some.inj H
          have p324 : 0 ≤ (x17_2 : Int) := of_decide_eq_true (by first | (with_reducible assumption) | assumption)
          have q324 : x17_2 < (l0.length : Int) := of_decide_eq_true (by first | (with_reducible assumption) | assumption)
          obtain ⟨ad324, A324_1, c324_1, e324, hx324_0, hx324_1, hl324_1, hi324_1⟩ := at_T70 HR0.out x17_2 p324 q324
          cases e324
          replace hx324_0 := (HB.out.cell (World.block_lt_of_cell? w _ hx324_0)).trans hx324_0
          replace hx324_1 := (HB.out.cell (World.block_lt_of_cell? w _ hx324_1)).trans hx324_1
          have HR324_1 := Aside0.mk hi324_1
          have HC324_1 := Aside0.mk hl324_1
          clear hi324_1 hl324_1
          replace p324 := eq_true p324
          replace q324 := eq_true q324
          go_wp2_with (first | ((with_reducible refine gate_callee (f := 45) rfl ?_); refine goesL_ (some 58) rfl rfl Try.func45 (by kernel_rfl) rfl #[.slice A324_1 ((rd_T70 l0 x17_2).f1).length c324_1] rfl (by (try simp only [List.map_toArray, List.map_cons, List.map_nil]); first | done | rfl | (simp only [List.length_drop, List.length_take]; rfl)) ?_; (with_reducible refine (iceboxlaw8_Great.calls k2 _ _ ((rd_T70 l0 x17_2).f1) true _ ?side1 ?side2 A19.out).mono ?_); (case side1 => repeat (first | exact (Kd.C_below HR324_1.out HB.out) | (with_reducible refine Kd.C_alloc ?_ _) | (with_reducible refine Kd.C_drewN ?_ _) | (with_reducible refine Kd.C_drew ?_))); (case side2 => exact HC324_1.out); rintro e w' ⟨rfl, ⟨nd, rfl⟩⟩; refine ⟨_, rfl, ?_⟩) | ((with_reducible refine gate_callee (f := 38) rfl ?_); refine goesL_ (some 68) rfl rfl Try.func38 (by kernel_rfl) rfl #[] rfl (by (try simp only [List.map_toArray, List.map_cons, List.map_nil]); first | done | rfl | (simp only [List.length_drop, List.length_take]; rfl)) ?_; (with_reducible refine (iceboxlaw24_awake.calls k2  t326 _ A21.out).mono ?_); rintro e w22 ⟨rfl, hb⟩; refine ⟨_, rfl, ?_⟩; have n0_ := Aside0.mk (below_step (by repeat (first | (with_reducible first | exact HB.out | apply below_alloc | apply pw_below_drewN | apply below_drew1) | exact HB.out | exact Below.refl _ _)) hb); clear HB; have HB := n0_; clear n0_; (try clear hb); (try clear hb2); (try clear hk); (try clear hi)))
          go_ret
          exact ⟨by first | rfl | (simp [errW_none, errW_some] <;> rfl) | (simp [*, errW_none, errW_some] <;> rfl), by repeat (first | (with_reducible first | exact HB.out | apply below_alloc | apply pw_below_drewN | apply below_drew1) | exact HB.out | exact Below.refl _ _)⟩
         ·
          replace c20 := Bool.eq_false_iff.mpr c20
          subst c20
          have H1 : (if (((rd_T70 l0 x17_2).f1).length : Int) > 20 then ((iceboxlaw24_awake.f k2).bind fun t328 => (some t328)) else (iceboxlaw24_FoldAll.l0 k2 l0 a1 a2 a3 a4 a5 a6 l7 (wrap64 (x17_2 + 1)))) = some r := by rw [if_neg (show ¬ (false = true) by decide)] at H; exact H
          clear H
          have H := H1
          clear H1
          by_cases c23 : (((rd_T70 l0 x17_2).f1).length : Int) > 20
          ·
           rw [if_pos c23] at H
           have c23b0 : decide (20 < (((rd_T70 l0 x17_2).f1).length : Int)) = true := decide_eq_true c23
           have c23b1 : decide (20 < ((rd_T70 l0 x17_2).f1).length) = true := decide_eq_true (by omega)
           clear c23
           replace H := Option.bind_eq_some_iff.mp H
           obtain ⟨t328, A240, H⟩ := H
           replace H : (some t328) = some r := H
           have A24 := Aside0.mk A240
           clear A240
           obtain rfl := Option.some.inj H
           have p324 : 0 ≤ (x17_2 : Int) := of_decide_eq_true (by first | (with_reducible assumption) | assumption)
           have q324 : x17_2 < (l0.length : Int) := of_decide_eq_true (by first | (with_reducible assumption) | assumption)
           obtain ⟨ad324, A324_1, c324_1, e324, hx324_0, hx324_1, hl324_1, hi324_1⟩ := at_T70 HR0.out x17_2 p324 q324
           cases e324
           replace hx324_0 := (HB.out.cell (World.block_lt_of_cell? w _ hx324_0)).trans hx324_0
           replace hx324_1 := (HB.out.cell (World.block_lt_of_cell? w _ hx324_1)).trans hx324_1
           have HR324_1 := Aside0.mk hi324_1
           have HC324_1 := Aside0.mk hl324_1
           clear hi324_1 hl324_1
           replace p324 := eq_true p324
           replace q324 := eq_true q324
           go_wp2_with (first | ((with_reducible refine gate_callee (f := 45) rfl ?_); refine goesL_ (some 58) rfl rfl Try.func45 (by kernel_rfl) rfl #[.slice A324_1 ((rd_T70 l0 x17_2).f1).length c324_1] rfl (by (try simp only [List.map_toArray, List.map_cons, List.map_nil]); first | done | rfl | (simp only [List.length_drop, List.length_take]; rfl)) ?_; (with_reducible refine (iceboxlaw8_Great.calls k2 _ _ ((rd_T70 l0 x17_2).f1) false _ ?side1 ?side2 A19.out).mono ?_); (case side1 => repeat (first | exact (Kd.C_below HR324_1.out HB.out) | (with_reducible refine Kd.C_alloc ?_ _) | (with_reducible refine Kd.C_drewN ?_ _) | (with_reducible refine Kd.C_drew ?_))); (case side2 => exact HC324_1.out); rintro e w' ⟨rfl, ⟨nd, rfl⟩⟩; refine ⟨_, rfl, ?_⟩; have p327 : 0 ≤ (x17_2 : Int) := of_decide_eq_true (by first | (with_reducible assumption) | assumption); have q327 : x17_2 < (l0.length : Int) := of_decide_eq_true (by first | (with_reducible assumption) | assumption); obtain ⟨ad327, A327_1, c327_1, e327, hx327_0, hx327_1, hl327_1, hi327_1⟩ := at_T70 HR0.out x17_2 p327 q327; obtain rfl : ad324 = ad327 := (by injection e327); replace hx327_0 := (HB.out.cell (World.block_lt_of_cell? w _ hx327_0)).trans hx327_0; replace hx327_1 := (HB.out.cell (World.block_lt_of_cell? w _ hx327_1)).trans hx327_1; have HR327_1 := Aside0.mk hi327_1; have HC327_1 := Aside0.mk hl327_1; clear hi327_1 hl327_1; replace p327 := eq_true p327; replace q327 := eq_true q327; have ea_ := Option.some.inj (hx324_1.symm.trans hx327_1); injection ea_ with ea_ en_ ec_; subst ea_; subst ec_; clear en_) | ((with_reducible refine gate_callee (f := 38) rfl ?_); refine goesL_ (some 68) rfl rfl Try.func38 (by kernel_rfl) rfl #[] rfl (by (try simp only [List.map_toArray, List.map_cons, List.map_nil]); first | done | rfl | (simp only [List.length_drop, List.length_take]; rfl)) ?_; (with_reducible refine (iceboxlaw24_awake.calls k2  t328 _ A24.out).mono ?_); rintro e w25 ⟨rfl, hb⟩; refine ⟨_, rfl, ?_⟩; have n0_ := Aside0.mk (below_step (by repeat (first | (with_reducible first | exact HB.out | apply below_alloc | apply pw_below_drewN | apply below_drew1) | exact HB.out | exact Below.refl _ _)) hb); clear HB; have HB := n0_; clear n0_; (try clear hb); (try clear hb2); (try clear hk); (try clear hi)))
           go_ret
           exact ⟨by first | rfl | (simp [errW_none, errW_some] <;> rfl) | (simp [*, errW_none, errW_some] <;> rfl), by repeat (first | (with_reducible first | exact HB.out | apply below_alloc | apply pw_below_drewN | apply below_drew1) | exact HB.out | exact Below.refl _ _)⟩
          ·
           rw [if_neg c23] at H
           have c23b0 : decide (20 < (((rd_T70 l0 x17_2).f1).length : Int)) = false := decide_eq_false c23
           have c23b1 : decide (20 < ((rd_T70 l0 x17_2).f1).length) = false := decide_eq_false (by omega)
           clear c23
           have H' := Aside0.mk H
           clear H
           have p324 : 0 ≤ (x17_2 : Int) := of_decide_eq_true (by first | (with_reducible assumption) | assumption)
           have q324 : x17_2 < (l0.length : Int) := of_decide_eq_true (by first | (with_reducible assumption) | assumption)
           obtain ⟨ad324, A324_1, c324_1, e324, hx324_0, hx324_1, hl324_1, hi324_1⟩ := at_T70 HR0.out x17_2 p324 q324
           cases e324
           replace hx324_0 := (HB.out.cell (World.block_lt_of_cell? w _ hx324_0)).trans hx324_0
           replace hx324_1 := (HB.out.cell (World.block_lt_of_cell? w _ hx324_1)).trans hx324_1
           have HR324_1 := Aside0.mk hi324_1
           have HC324_1 := Aside0.mk hl324_1
           clear hi324_1 hl324_1
           replace p324 := eq_true p324
           replace q324 := eq_true q324
           go_wp2_with (first | ((with_reducible refine gate_callee (f := 45) rfl ?_); refine goesL_ (some 58) rfl rfl Try.func45 (by kernel_rfl) rfl #[.slice A324_1 ((rd_T70 l0 x17_2).f1).length c324_1] rfl (by (try simp only [List.map_toArray, List.map_cons, List.map_nil]); first | done | rfl | (simp only [List.length_drop, List.length_take]; rfl)) ?_; (with_reducible refine (iceboxlaw8_Great.calls k2 _ _ ((rd_T70 l0 x17_2).f1) false _ ?side1 ?side2 A19.out).mono ?_); (case side1 => repeat (first | exact (Kd.C_below HR324_1.out HB.out) | (with_reducible refine Kd.C_alloc ?_ _) | (with_reducible refine Kd.C_drewN ?_ _) | (with_reducible refine Kd.C_drew ?_))); (case side2 => exact HC324_1.out); rintro e w' ⟨rfl, ⟨nd, rfl⟩⟩; refine ⟨_, rfl, ?_⟩; have p327 : 0 ≤ (x17_2 : Int) := of_decide_eq_true (by first | (with_reducible assumption) | assumption); have q327 : x17_2 < (l0.length : Int) := of_decide_eq_true (by first | (with_reducible assumption) | assumption); obtain ⟨ad327, A327_1, c327_1, e327, hx327_0, hx327_1, hl327_1, hi327_1⟩ := at_T70 HR0.out x17_2 p327 q327; obtain rfl : ad324 = ad327 := (by injection e327); replace hx327_0 := (HB.out.cell (World.block_lt_of_cell? w _ hx327_0)).trans hx327_0; replace hx327_1 := (HB.out.cell (World.block_lt_of_cell? w _ hx327_1)).trans hx327_1; have HR327_1 := Aside0.mk hi327_1; have HC327_1 := Aside0.mk hl327_1; clear hi327_1 hl327_1; replace p327 := eq_true p327; replace q327 := eq_true q327; have ea_ := Option.some.inj (hx324_1.symm.trans hx327_1); injection ea_ with ea_ en_ ec_; subst ea_; subst ec_; clear en_))
           go_roundg k2
           case measure => have := HJ8.out; have := HK2.out; omega
           case rel => exact ⟨(wrap64 (x17_2 + 1)), (by first | rfl | (simp; done) | (simp [*]; done)), H', ⟨by have := HJ8.out; have := HK2.out; omega⟩, ⟨by repeat (first | (with_reducible first | exact HB.out | apply below_alloc | apply pw_below_drewN | apply below_drew1) | exact HB.out | exact Below.refl _ _)⟩⟩
        ·
         rw [if_neg c18] at H
         exact absurd H (by simp)
       ·
        rw [if_neg c17] at H
        have c17b0 : decide (x17_2 < (l0.length : Int)) = false := decide_eq_false c17
        clear c17
        replace H := Option.bind_eq_some_iff.mp H
        obtain ⟨t329, A260, H⟩ := H
        replace H : ((fold_Get.f k2 l7 a2).bind fun bt332 => ((iceboxref17_GetPair.f k2 l7 a2).bind fun bt334 => ((iceboxref17_Fold.f k2 l0 a1).bind fun t336 => ((iceboxref1_Pairs.f k2 t329 t336).bind fun t339 => (if t339 = true then (if bt332.1.toList = bt334.1.toList then (if (bt332.2 == bt334.2) = true then ((fold_Scan.f k2 l7 a3 a4 a5 a6).bind fun t340 => ((iceboxref17_Scan.f k2 l7 a3 a4 a5 a6).bind fun t343 => ((iceboxref1_Pairs.f k2 t340 t343).bind fun t346 => (if t346 = true then ((fold_Scan.f k2 t329 a3 a4 a5 a6).bind fun t347 => ((iceboxref17_Fold.f k2 l0 a1).bind fun t350 => ((iceboxref17_Scan.f k2 t350 a3 a4 a5 a6).bind fun t353 => ((iceboxref1_Pairs.f k2 t347 t353).bind fun t356 => (if t356 = true then ((iceboxlaw24_awake.f k2).bind fun t357 => (some t357)) else (some false)))))) else (some false))))) else (some false)) else (some false)) else (some false)))))) = some r := H
        have A26 := Aside0.mk A260
        clear A260
        replace H := Option.bind_eq_some_iff.mp H
        obtain ⟨⟨t332, t333⟩, A270, H⟩ := H
        replace H : ((iceboxref17_GetPair.f k2 l7 a2).bind fun bt334 => ((iceboxref17_Fold.f k2 l0 a1).bind fun t336 => ((iceboxref1_Pairs.f k2 t329 t336).bind fun t339 => (if t339 = true then (if t332.toList = bt334.1.toList then (if (t333 == bt334.2) = true then ((fold_Scan.f k2 l7 a3 a4 a5 a6).bind fun t340 => ((iceboxref17_Scan.f k2 l7 a3 a4 a5 a6).bind fun t343 => ((iceboxref1_Pairs.f k2 t340 t343).bind fun t346 => (if t346 = true then ((fold_Scan.f k2 t329 a3 a4 a5 a6).bind fun t347 => ((iceboxref17_Fold.f k2 l0 a1).bind fun t350 => ((iceboxref17_Scan.f k2 t350 a3 a4 a5 a6).bind fun t353 => ((iceboxref1_Pairs.f k2 t347 t353).bind fun t356 => (if t356 = true then ((iceboxlaw24_awake.f k2).bind fun t357 => (some t357)) else (some false)))))) else (some false))))) else (some false)) else (some false)) else (some false))))) = some r := H
        have A27 := Aside0.mk A270
        clear A270
        replace H := Option.bind_eq_some_iff.mp H
        obtain ⟨⟨t334, t335⟩, A280, H⟩ := H
        replace H : ((iceboxref17_Fold.f k2 l0 a1).bind fun t336 => ((iceboxref1_Pairs.f k2 t329 t336).bind fun t339 => (if t339 = true then (if t332.toList = t334.toList then (if (t333 == t335) = true then ((fold_Scan.f k2 l7 a3 a4 a5 a6).bind fun t340 => ((iceboxref17_Scan.f k2 l7 a3 a4 a5 a6).bind fun t343 => ((iceboxref1_Pairs.f k2 t340 t343).bind fun t346 => (if t346 = true then ((fold_Scan.f k2 t329 a3 a4 a5 a6).bind fun t347 => ((iceboxref17_Fold.f k2 l0 a1).bind fun t350 => ((iceboxref17_Scan.f k2 t350 a3 a4 a5 a6).bind fun t353 => ((iceboxref1_Pairs.f k2 t347 t353).bind fun t356 => (if t356 = true then ((iceboxlaw24_awake.f k2).bind fun t357 => (some t357)) else (some false)))))) else (some false))))) else (some false)) else (some false)) else (some false)))) = some r := H
        have A28 := Aside0.mk A280
        clear A280
        replace H := Option.bind_eq_some_iff.mp H
        obtain ⟨t336, A290, H⟩ := H
        replace H : ((iceboxref1_Pairs.f k2 t329 t336).bind fun t339 => (if t339 = true then (if t332.toList = t334.toList then (if (t333 == t335) = true then ((fold_Scan.f k2 l7 a3 a4 a5 a6).bind fun t340 => ((iceboxref17_Scan.f k2 l7 a3 a4 a5 a6).bind fun t343 => ((iceboxref1_Pairs.f k2 t340 t343).bind fun t346 => (if t346 = true then ((fold_Scan.f k2 t329 a3 a4 a5 a6).bind fun t347 => ((iceboxref17_Fold.f k2 l0 a1).bind fun t350 => ((iceboxref17_Scan.f k2 t350 a3 a4 a5 a6).bind fun t353 => ((iceboxref1_Pairs.f k2 t347 t353).bind fun t356 => (if t356 = true then ((iceboxlaw24_awake.f k2).bind fun t357 => (some t357)) else (some false)))))) else (some false))))) else (some false)) else (some false)) else (some false))) = some r := H
        have A29 := Aside0.mk A290
        clear A290
        replace H := Option.bind_eq_some_iff.mp H
        obtain ⟨t339, A300, H⟩ := H
        replace H : (if t339 = true then (if t332.toList = t334.toList then (if (t333 == t335) = true then ((fold_Scan.f k2 l7 a3 a4 a5 a6).bind fun t340 => ((iceboxref17_Scan.f k2 l7 a3 a4 a5 a6).bind fun t343 => ((iceboxref1_Pairs.f k2 t340 t343).bind fun t346 => (if t346 = true then ((fold_Scan.f k2 t329 a3 a4 a5 a6).bind fun t347 => ((iceboxref17_Fold.f k2 l0 a1).bind fun t350 => ((iceboxref17_Scan.f k2 t350 a3 a4 a5 a6).bind fun t353 => ((iceboxref1_Pairs.f k2 t347 t353).bind fun t356 => (if t356 = true then ((iceboxlaw24_awake.f k2).bind fun t357 => (some t357)) else (some false)))))) else (some false))))) else (some false)) else (some false)) else (some false)) = some r := H
        have A30 := Aside0.mk A300
        clear A300
        by_cases c31 : t339 = true
        ·
         subst c31
         have H1 : (if t332.toList = t334.toList then (if (t333 == t335) = true then ((fold_Scan.f k2 l7 a3 a4 a5 a6).bind fun t340 => ((iceboxref17_Scan.f k2 l7 a3 a4 a5 a6).bind fun t343 => ((iceboxref1_Pairs.f k2 t340 t343).bind fun t346 => (if t346 = true then ((fold_Scan.f k2 t329 a3 a4 a5 a6).bind fun t347 => ((iceboxref17_Fold.f k2 l0 a1).bind fun t350 => ((iceboxref17_Scan.f k2 t350 a3 a4 a5 a6).bind fun t353 => ((iceboxref1_Pairs.f k2 t347 t353).bind fun t356 => (if t356 = true then ((iceboxlaw24_awake.f k2).bind fun t357 => (some t357)) else (some false)))))) else (some false))))) else (some false)) else (some false)) = some r := by rw [if_pos rfl] at H; exact H
         clear H
         have H := H1
         clear H1
         by_cases c32 : t332.toList = t334.toList
         ·
          rw [if_pos c32] at H
          have c32b0 : (t332.toList == t334.toList) = true := beq_iff_eq.mpr c32
          have c32b1 : (t332.toList != t334.toList) = false := bne_eq_false_iff_eq.mpr c32
          clear c32
          by_cases c33 : (t333 == t335) = true
          ·
           rw [if_pos c33] at H
           have c33b0 : (t333 == t335) = true := c33
           (try (have c33b1 : decide (t333 = t335) = true := by simpa using c33))
           (try (have c33b2 : (t333 == t335) = true := by simpa using c33))
           clear c33
           replace H := Option.bind_eq_some_iff.mp H
           obtain ⟨t340, A340, H⟩ := H
           replace H : ((iceboxref17_Scan.f k2 l7 a3 a4 a5 a6).bind fun t343 => ((iceboxref1_Pairs.f k2 t340 t343).bind fun t346 => (if t346 = true then ((fold_Scan.f k2 t329 a3 a4 a5 a6).bind fun t347 => ((iceboxref17_Fold.f k2 l0 a1).bind fun t350 => ((iceboxref17_Scan.f k2 t350 a3 a4 a5 a6).bind fun t353 => ((iceboxref1_Pairs.f k2 t347 t353).bind fun t356 => (if t356 = true then ((iceboxlaw24_awake.f k2).bind fun t357 => (some t357)) else (some false)))))) else (some false)))) = some r := H
           have A34 := Aside0.mk A340
           clear A340
           replace H := Option.bind_eq_some_iff.mp H
           obtain ⟨t343, A350, H⟩ := H
           replace H : ((iceboxref1_Pairs.f k2 t340 t343).bind fun t346 => (if t346 = true then ((fold_Scan.f k2 t329 a3 a4 a5 a6).bind fun t347 => ((iceboxref17_Fold.f k2 l0 a1).bind fun t350 => ((iceboxref17_Scan.f k2 t350 a3 a4 a5 a6).bind fun t353 => ((iceboxref1_Pairs.f k2 t347 t353).bind fun t356 => (if t356 = true then ((iceboxlaw24_awake.f k2).bind fun t357 => (some t357)) else (some false)))))) else (some false))) = some r := H
           have A35 := Aside0.mk A350
           clear A350
           replace H := Option.bind_eq_some_iff.mp H
           obtain ⟨t346, A360, H⟩ := H
           replace H : (if t346 = true then ((fold_Scan.f k2 t329 a3 a4 a5 a6).bind fun t347 => ((iceboxref17_Fold.f k2 l0 a1).bind fun t350 => ((iceboxref17_Scan.f k2 t350 a3 a4 a5 a6).bind fun t353 => ((iceboxref1_Pairs.f k2 t347 t353).bind fun t356 => (if t356 = true then ((iceboxlaw24_awake.f k2).bind fun t357 => (some t357)) else (some false)))))) else (some false)) = some r := H
           have A36 := Aside0.mk A360
           clear A360
           by_cases c37 : t346 = true
           ·
            subst c37
            have H1 : ((fold_Scan.f k2 t329 a3 a4 a5 a6).bind fun t347 => ((iceboxref17_Fold.f k2 l0 a1).bind fun t350 => ((iceboxref17_Scan.f k2 t350 a3 a4 a5 a6).bind fun t353 => ((iceboxref1_Pairs.f k2 t347 t353).bind fun t356 => (if t356 = true then ((iceboxlaw24_awake.f k2).bind fun t357 => (some t357)) else (some false)))))) = some r := by rw [if_pos rfl] at H; exact H
            clear H
            have H := H1
            clear H1
            replace H := Option.bind_eq_some_iff.mp H
            obtain ⟨t347, A380, H⟩ := H
            replace H : ((iceboxref17_Fold.f k2 l0 a1).bind fun t350 => ((iceboxref17_Scan.f k2 t350 a3 a4 a5 a6).bind fun t353 => ((iceboxref1_Pairs.f k2 t347 t353).bind fun t356 => (if t356 = true then ((iceboxlaw24_awake.f k2).bind fun t357 => (some t357)) else (some false))))) = some r := H
            have A38 := Aside0.mk A380
            clear A380
            replace H := Option.bind_eq_some_iff.mp H
            obtain ⟨t350, A390, H⟩ := H
            replace H : ((iceboxref17_Scan.f k2 t350 a3 a4 a5 a6).bind fun t353 => ((iceboxref1_Pairs.f k2 t347 t353).bind fun t356 => (if t356 = true then ((iceboxlaw24_awake.f k2).bind fun t357 => (some t357)) else (some false)))) = some r := H
            have A39 := Aside0.mk A390
            clear A390
            replace H := Option.bind_eq_some_iff.mp H
            obtain ⟨t353, A400, H⟩ := H
            replace H : ((iceboxref1_Pairs.f k2 t347 t353).bind fun t356 => (if t356 = true then ((iceboxlaw24_awake.f k2).bind fun t357 => (some t357)) else (some false))) = some r := H
            have A40 := Aside0.mk A400
            clear A400
            replace H := Option.bind_eq_some_iff.mp H
            obtain ⟨t356, A410, H⟩ := H
            replace H : (if t356 = true then ((iceboxlaw24_awake.f k2).bind fun t357 => (some t357)) else (some false)) = some r := H
            have A41 := Aside0.mk A410
            clear A410
            by_cases c42 : t356 = true
            ·
             subst c42
             have H1 : ((iceboxlaw24_awake.f k2).bind fun t357 => (some t357)) = some r := by rw [if_pos rfl] at H; exact H
             clear H
             have H := H1
             clear H1
             replace H := Option.bind_eq_some_iff.mp H
             obtain ⟨t357, A430, H⟩ := H
             replace H : (some t357) = some r := H
             have A43 := Aside0.mk A430
             clear A430
             obtain rfl := Option.some.inj H
             go_wp2_with (first | ((with_reducible refine gate_callee (f := 40) rfl ?_); refine goesL_ (some 71) rfl rfl Try.func40 (by kernel_rfl) rfl #[.slice A0 l0.length c0, .int .i64 a1] rfl (by (try simp only [List.map_toArray, List.map_cons, List.map_nil]); first | done | rfl | (simp only [List.length_drop, List.length_take]; rfl)) ?_; (with_reducible refine (fold_Fold.calls k2 _ _ l0 a1 t329 _ ?side1 ?side2 A26.out).mono ?_); (case side1 => repeat (first | exact (Kd.C_below HR0.out HB.out) | (with_reducible refine Kd.C_alloc ?_ _) | (with_reducible refine Kd.C_drewN ?_ _) | (with_reducible refine Kd.C_drew ?_))); (case side2 => exact HC0.out); rintro e w44 ⟨v330, rfl, ho0, hb⟩; refine ⟨_, rfl, ?_⟩; have n0_ := Aside0.mk (Kd.R_lower ho0 (below_size (by repeat (first | (with_reducible first | exact HB.out | apply below_alloc | apply pw_below_drewN | apply below_drew1) | exact HB.out | exact Below.refl _ _)))); have n1_ := Aside0.mk (below_step (by repeat (first | (with_reducible first | exact HB.out | apply below_alloc | apply pw_below_drewN | apply below_drew1) | exact HB.out | exact Below.refl _ _)) hb); clear HB; have HO331 := n0_; have HB := n1_; clear n0_ n1_; (try clear hb); (try clear hb2); (try clear hk); (try clear hi); (try clear ho0)) | ((with_reducible refine gate_callee (f := 42) rfl ?_); refine goesL_ (some 75) rfl rfl Try.func42 (by kernel_rfl) rfl #[.slice A7 l7.length c7, .string a2] rfl (by (try simp only [List.map_toArray, List.map_cons, List.map_nil]); first | done | rfl | (simp only [List.length_drop, List.length_take]; rfl)) ?_; (with_reducible refine (fold_Get.calls k2 _ _ l7 a2 t332 t333 _ ?side1 ?side2 A27.out).mono ?_); (case side1 => repeat (first | exact (Kd.C_below HR7.out HB.out) | (with_reducible refine Kd.C_alloc ?_ _) | (with_reducible refine Kd.C_drewN ?_ _) | (with_reducible refine Kd.C_drew ?_))); (case side2 => exact HC7.out); rintro e w45 ⟨rfl, hb⟩; refine ⟨_, rfl, ?_⟩; have n0_ := Aside0.mk (Kd.R_below (by (with_reducible repeat (first | apply Kd.R_alloc | apply Kd.R_drewN | apply Kd.R_drew)); exact HO331.out) hb); have n1_ := Aside0.mk (below_step (by repeat (first | (with_reducible first | exact HB.out | apply below_alloc | apply pw_below_drewN | apply below_drew1) | exact HB.out | exact Below.refl _ _)) hb); clear HO331; clear HB; have HO331 := n0_; have HB := n1_; clear n0_ n1_; (try clear hb); (try clear hb2); (try clear hk); (try clear hi)) | ((with_reducible refine gate_callee (f := 46) rfl ?_); refine goesL_ (some 81) rfl rfl Try.func46 (by kernel_rfl) rfl #[.slice A7 l7.length c7, .string a2] rfl (by (try simp only [List.map_toArray, List.map_cons, List.map_nil]); first | done | rfl | (simp only [List.length_drop, List.length_take]; rfl)) ?_; (with_reducible refine (iceboxref17_GetPair.calls k2 _ _ l7 a2 t334 t335 _ ?side1 ?side2 A28.out).mono ?_); (case side1 => repeat (first | exact (Kd.C_below HR7.out HB.out) | (with_reducible refine Kd.C_alloc ?_ _) | (with_reducible refine Kd.C_drewN ?_ _) | (with_reducible refine Kd.C_drew ?_))); (case side2 => exact HC7.out); rintro e w' ⟨rfl, ⟨nd, rfl⟩⟩; refine ⟨_, rfl, ?_⟩) | ((with_reducible refine gate_callee (f := 47) rfl ?_); refine goesL_ (some 87) rfl rfl Try.func47 (by kernel_rfl) rfl #[.slice A0 l0.length c0, .int .i64 a1] rfl (by (try simp only [List.map_toArray, List.map_cons, List.map_nil]); first | done | rfl | (simp only [List.length_drop, List.length_take]; rfl)) ?_; (with_reducible refine (iceboxref17_Fold.calls k2 _ _ l0 a1 t336 _ ?side1 ?side2 A29.out).mono ?_); (case side1 => repeat (first | exact (Kd.C_below HR0.out (by repeat (first | (with_reducible first | exact HB.out | apply below_alloc | apply pw_below_drewN | apply below_drew1) | exact HB.out | exact Below.refl _ _))) | (with_reducible refine Kd.C_alloc ?_ _) | (with_reducible refine Kd.C_drewN ?_ _) | (with_reducible refine Kd.C_drew ?_))); (case side2 => exact HC0.out); rintro e w46 ⟨v337, rfl, ho0, hb⟩; refine ⟨_, rfl, ?_⟩; have n0_ := Aside0.mk (Kd.R_elder' (by (with_reducible repeat (first | apply Kd.R_alloc | apply Kd.R_drewN | apply Kd.R_drew)); exact HO331.out) (Kd.R_base ho0) hb); have n1_ := Aside0.mk (Kd.R_lower (Kd.R_new' ho0 (Kd.R_lt (by (with_reducible repeat (first | apply Kd.R_alloc | apply Kd.R_drewN | apply Kd.R_drew)); exact HO331.out))) (below_size (by repeat (first | (with_reducible first | exact HB.out | apply below_alloc | apply pw_below_drewN | apply below_drew1) | exact HB.out | exact Below.refl _ _)))); have n2_ := Aside0.mk (below_step (by repeat (first | (with_reducible first | exact HB.out | apply below_alloc | apply pw_below_drewN | apply below_drew1) | exact HB.out | exact Below.refl _ _)) hb); clear HO331; clear HB; have HO331 := n0_; have HO338 := n1_; have HB := n2_; clear n0_ n1_ n2_; (try clear hb); (try clear hb2); (try clear hk); (try clear hi); (try clear ho0); obtain ⟨Ao47, co47, eo47⟩ := Kd.R_slice HO331.out; subst eo47; obtain ⟨Ao48, co48, eo48⟩ := Kd.R_slice HO338.out; subst eo48) | ((with_reducible refine gate_callee (f := 43) rfl ?_); refine goesL_ (some 88) rfl rfl Try.func43 (by kernel_rfl) rfl #[.slice Ao47 t329.length co47, .slice Ao48 t336.length co48] rfl (by (try simp only [List.map_toArray, List.map_cons, List.map_nil]); first | done | rfl | (simp only [List.length_drop, List.length_take]; rfl)) ?_; (with_reducible refine (iceboxref1_Pairs.calls k2 _ _ t329 _ _ t336 true _ ?side1 ?side2 ?side3 ?side4 A30.out).mono ?_); (case side1 => repeat (first | exact (Kd.R_reads' HO331.out).2.2 | (with_reducible refine Kd.C_alloc ?_ _) | (with_reducible refine Kd.C_drewN ?_ _) | (with_reducible refine Kd.C_drew ?_))); (case side2 => exact (Kd.R_reads' HO331.out).2.1); (case side3 => repeat (first | exact (Kd.R_reads' HO338.out).2.2 | (with_reducible refine Kd.C_alloc ?_ _) | (with_reducible refine Kd.C_drewN ?_ _) | (with_reducible refine Kd.C_drew ?_))); (case side4 => exact (Kd.R_reads' HO338.out).2.1); rintro e w' ⟨rfl, ⟨nd, rfl⟩⟩; refine ⟨_, rfl, ?_⟩) | (go_at_call 44; (with_reducible refine (fold_Scan.calls k2 _ _ l7 a3 a4 a5 a6 t340 _ ?side1 ?side2 A34.out).mono ?_); (case side1 => repeat (first | exact (Kd.C_below HR7.out (by repeat (first | (with_reducible first | exact HB.out | apply below_alloc | apply pw_below_drewN | apply below_drew1) | exact HB.out | exact Below.refl _ _))) | (with_reducible refine Kd.C_alloc ?_ _) | (with_reducible refine Kd.C_drewN ?_ _) | (with_reducible refine Kd.C_drew ?_))); (case side2 => exact HC7.out); rintro e w49 ⟨v341, rfl, ho0, hb⟩; have n0_ := Aside0.mk (Kd.R_elder' (by (with_reducible repeat (first | apply Kd.R_alloc | apply Kd.R_drewN | apply Kd.R_drew)); exact HO331.out) (Kd.R_base ho0) hb); have n1_ := Aside0.mk (Kd.R_elder' (by (with_reducible repeat (first | apply Kd.R_alloc | apply Kd.R_drewN | apply Kd.R_drew)); exact HO338.out) (Kd.R_base ho0) hb); have n2_ := Aside0.mk (Kd.R_lower (Kd.R_new' (Kd.R_new' ho0 (Kd.R_lt (by (with_reducible repeat (first | apply Kd.R_alloc | apply Kd.R_drewN | apply Kd.R_drew)); exact HO331.out))) (Kd.R_lt (by (with_reducible repeat (first | apply Kd.R_alloc | apply Kd.R_drewN | apply Kd.R_drew)); exact HO338.out))) (below_size (by repeat (first | (with_reducible first | exact HB.out | apply below_alloc | apply pw_below_drewN | apply below_drew1) | exact HB.out | exact Below.refl _ _)))); have n3_ := Aside0.mk (below_step (by repeat (first | (with_reducible first | exact HB.out | apply below_alloc | apply pw_below_drewN | apply below_drew1) | exact HB.out | exact Below.refl _ _)) hb); clear HO331; clear HO338; clear HB; have HO331 := n0_; have HO338 := n1_; have HO342 := n2_; have HB := n3_; clear n0_ n1_ n2_ n3_; (try clear hb); (try clear hb2); (try clear hk); (try clear hi); (try clear ho0)) | (go_at_call 48; (with_reducible refine (iceboxref17_Scan.calls k2 _ _ l7 a3 a4 a5 a6 t343 _ ?side1 ?side2 A35.out).mono ?_); (case side1 => repeat (first | exact (Kd.C_below HR7.out HB.out) | (with_reducible refine Kd.C_alloc ?_ _) | (with_reducible refine Kd.C_drewN ?_ _) | (with_reducible refine Kd.C_drew ?_))); (case side2 => exact HC7.out); rintro e w50 ⟨v344, rfl, ho0, hb⟩; have n0_ := Aside0.mk (Kd.R_elder' (by (with_reducible repeat (first | apply Kd.R_alloc | apply Kd.R_drewN | apply Kd.R_drew)); exact HO331.out) (Kd.R_base ho0) hb); have n1_ := Aside0.mk (Kd.R_elder' (by (with_reducible repeat (first | apply Kd.R_alloc | apply Kd.R_drewN | apply Kd.R_drew)); exact HO338.out) (Kd.R_base ho0) hb); have n2_ := Aside0.mk (Kd.R_elder' (by (with_reducible repeat (first | apply Kd.R_alloc | apply Kd.R_drewN | apply Kd.R_drew)); exact HO342.out) (Kd.R_base ho0) hb); have n3_ := Aside0.mk (Kd.R_lower (Kd.R_new' (Kd.R_new' (Kd.R_new' ho0 (Kd.R_lt (by (with_reducible repeat (first | apply Kd.R_alloc | apply Kd.R_drewN | apply Kd.R_drew)); exact HO331.out))) (Kd.R_lt (by (with_reducible repeat (first | apply Kd.R_alloc | apply Kd.R_drewN | apply Kd.R_drew)); exact HO338.out))) (Kd.R_lt (by (with_reducible repeat (first | apply Kd.R_alloc | apply Kd.R_drewN | apply Kd.R_drew)); exact HO342.out))) (below_size (by repeat (first | (with_reducible first | exact HB.out | apply below_alloc | apply pw_below_drewN | apply below_drew1) | exact HB.out | exact Below.refl _ _)))); have n4_ := Aside0.mk (below_step (by repeat (first | (with_reducible first | exact HB.out | apply below_alloc | apply pw_below_drewN | apply below_drew1) | exact HB.out | exact Below.refl _ _)) hb); clear HO331; clear HO338; clear HO342; clear HB; have HO331 := n0_; have HO338 := n1_; have HO342 := n2_; have HO345 := n3_; have HB := n4_; clear n0_ n1_ n2_ n3_ n4_; (try clear hb); (try clear hb2); (try clear hk); (try clear hi); (try clear ho0); obtain ⟨Ao51, co51, eo51⟩ := Kd.R_slice HO342.out; subst eo51; obtain ⟨Ao52, co52, eo52⟩ := Kd.R_slice HO345.out; subst eo52) | (go_at_call 43; (with_reducible refine (iceboxref1_Pairs.calls k2 _ _ t340 _ _ t343 true _ ?side1 ?side2 ?side3 ?side4 A36.out).mono ?_); (case side1 => repeat (first | exact (Kd.R_reads' HO342.out).2.2 | (with_reducible refine Kd.C_alloc ?_ _) | (with_reducible refine Kd.C_drewN ?_ _) | (with_reducible refine Kd.C_drew ?_))); (case side2 => exact (Kd.R_reads' HO342.out).2.1); (case side3 => repeat (first | exact (Kd.R_reads' HO345.out).2.2 | (with_reducible refine Kd.C_alloc ?_ _) | (with_reducible refine Kd.C_drewN ?_ _) | (with_reducible refine Kd.C_drew ?_))); (case side4 => exact (Kd.R_reads' HO345.out).2.1); rintro e w' ⟨rfl, ⟨nd, rfl⟩⟩) | (go_at_call 44; (with_reducible refine (fold_Scan.calls k2 _ _ t329 a3 a4 a5 a6 t347 _ ?side1 ?side2 A38.out).mono ?_); (case side1 => repeat (first | exact (Kd.R_reads' HO331.out).2.2 | (with_reducible refine Kd.C_alloc ?_ _) | (with_reducible refine Kd.C_drewN ?_ _) | (with_reducible refine Kd.C_drew ?_))); (case side2 => exact (Kd.R_reads' HO331.out).2.1); rintro e w53 ⟨v348, rfl, ho0, hb⟩; have n0_ := Aside0.mk (Kd.R_elder' (by (with_reducible repeat (first | apply Kd.R_alloc | apply Kd.R_drewN | apply Kd.R_drew)); exact HO331.out) (Kd.R_base ho0) hb); have n1_ := Aside0.mk (Kd.R_elder' (by (with_reducible repeat (first | apply Kd.R_alloc | apply Kd.R_drewN | apply Kd.R_drew)); exact HO338.out) (Kd.R_base ho0) hb); have n2_ := Aside0.mk (Kd.R_elder' (by (with_reducible repeat (first | apply Kd.R_alloc | apply Kd.R_drewN | apply Kd.R_drew)); exact HO342.out) (Kd.R_base ho0) hb); have n3_ := Aside0.mk (Kd.R_elder' (by (with_reducible repeat (first | apply Kd.R_alloc | apply Kd.R_drewN | apply Kd.R_drew)); exact HO345.out) (Kd.R_base ho0) hb); have n4_ := Aside0.mk (Kd.R_lower (Kd.R_new' (Kd.R_new' (Kd.R_new' (Kd.R_new' ho0 (Kd.R_lt (by (with_reducible repeat (first | apply Kd.R_alloc | apply Kd.R_drewN | apply Kd.R_drew)); exact HO331.out))) (Kd.R_lt (by (with_reducible repeat (first | apply Kd.R_alloc | apply Kd.R_drewN | apply Kd.R_drew)); exact HO338.out))) (Kd.R_lt (by (with_reducible repeat (first | apply Kd.R_alloc | apply Kd.R_drewN | apply Kd.R_drew)); exact HO342.out))) (Kd.R_lt (by (with_reducible repeat (first | apply Kd.R_alloc | apply Kd.R_drewN | apply Kd.R_drew)); exact HO345.out))) (below_size (by repeat (first | (with_reducible first | exact HB.out | apply below_alloc | apply pw_below_drewN | apply below_drew1) | exact HB.out | exact Below.refl _ _)))); have n5_ := Aside0.mk (below_step (by repeat (first | (with_reducible first | exact HB.out | apply below_alloc | apply pw_below_drewN | apply below_drew1) | exact HB.out | exact Below.refl _ _)) hb); clear HO331; clear HO338; clear HO342; clear HO345; clear HB; have HO331 := n0_; have HO338 := n1_; have HO342 := n2_; have HO345 := n3_; have HO349 := n4_; have HB := n5_; clear n0_ n1_ n2_ n3_ n4_ n5_; (try clear hb); (try clear hb2); (try clear hk); (try clear hi); (try clear ho0)) | (go_at_call 47; (with_reducible refine (iceboxref17_Fold.calls k2 _ _ l0 a1 t350 _ ?side1 ?side2 A39.out).mono ?_); (case side1 => repeat (first | exact (Kd.C_below HR0.out HB.out) | (with_reducible refine Kd.C_alloc ?_ _) | (with_reducible refine Kd.C_drewN ?_ _) | (with_reducible refine Kd.C_drew ?_))); (case side2 => exact HC0.out); rintro e w54 ⟨v351, rfl, ho0, hb⟩; have n0_ := Aside0.mk (Kd.R_elder' (by (with_reducible repeat (first | apply Kd.R_alloc | apply Kd.R_drewN | apply Kd.R_drew)); exact HO331.out) (Kd.R_base ho0) hb); have n1_ := Aside0.mk (Kd.R_elder' (by (with_reducible repeat (first | apply Kd.R_alloc | apply Kd.R_drewN | apply Kd.R_drew)); exact HO338.out) (Kd.R_base ho0) hb); have n2_ := Aside0.mk (Kd.R_elder' (by (with_reducible repeat (first | apply Kd.R_alloc | apply Kd.R_drewN | apply Kd.R_drew)); exact HO342.out) (Kd.R_base ho0) hb); have n3_ := Aside0.mk (Kd.R_elder' (by (with_reducible repeat (first | apply Kd.R_alloc | apply Kd.R_drewN | apply Kd.R_drew)); exact HO345.out) (Kd.R_base ho0) hb); have n4_ := Aside0.mk (Kd.R_elder' (by (with_reducible repeat (first | apply Kd.R_alloc | apply Kd.R_drewN | apply Kd.R_drew)); exact HO349.out) (Kd.R_base ho0) hb); have n5_ := Aside0.mk (Kd.R_lower (Kd.R_new' (Kd.R_new' (Kd.R_new' (Kd.R_new' (Kd.R_new' ho0 (Kd.R_lt (by (with_reducible repeat (first | apply Kd.R_alloc | apply Kd.R_drewN | apply Kd.R_drew)); exact HO331.out))) (Kd.R_lt (by (with_reducible repeat (first | apply Kd.R_alloc | apply Kd.R_drewN | apply Kd.R_drew)); exact HO338.out))) (Kd.R_lt (by (with_reducible repeat (first | apply Kd.R_alloc | apply Kd.R_drewN | apply Kd.R_drew)); exact HO342.out))) (Kd.R_lt (by (with_reducible repeat (first | apply Kd.R_alloc | apply Kd.R_drewN | apply Kd.R_drew)); exact HO345.out))) (Kd.R_lt (by (with_reducible repeat (first | apply Kd.R_alloc | apply Kd.R_drewN | apply Kd.R_drew)); exact HO349.out))) (below_size (by repeat (first | (with_reducible first | exact HB.out | apply below_alloc | apply pw_below_drewN | apply below_drew1) | exact HB.out | exact Below.refl _ _)))); have n6_ := Aside0.mk (below_step (by repeat (first | (with_reducible first | exact HB.out | apply below_alloc | apply pw_below_drewN | apply below_drew1) | exact HB.out | exact Below.refl _ _)) hb); clear HO331; clear HO338; clear HO342; clear HO345; clear HO349; clear HB; have HO331 := n0_; have HO338 := n1_; have HO342 := n2_; have HO345 := n3_; have HO349 := n4_; have HO352 := n5_; have HB := n6_; clear n0_ n1_ n2_ n3_ n4_ n5_ n6_; (try clear hb); (try clear hb2); (try clear hk); (try clear hi); (try clear ho0); obtain ⟨Ao55, co55, eo55⟩ := Kd.R_slice HO352.out; subst eo55) | (go_at_call 48; (with_reducible refine (iceboxref17_Scan.calls k2 _ _ t350 a3 a4 a5 a6 t353 _ ?side1 ?side2 A40.out).mono ?_); (case side1 => repeat (first | exact (Kd.R_reads' HO352.out).2.2 | (with_reducible refine Kd.C_alloc ?_ _) | (with_reducible refine Kd.C_drewN ?_ _) | (with_reducible refine Kd.C_drew ?_))); (case side2 => exact (Kd.R_reads' HO352.out).2.1); rintro e w56 ⟨v354, rfl, ho0, hb⟩; have n0_ := Aside0.mk (Kd.R_elder' (by (with_reducible repeat (first | apply Kd.R_alloc | apply Kd.R_drewN | apply Kd.R_drew)); exact HO331.out) (Kd.R_base ho0) hb); have n1_ := Aside0.mk (Kd.R_elder' (by (with_reducible repeat (first | apply Kd.R_alloc | apply Kd.R_drewN | apply Kd.R_drew)); exact HO338.out) (Kd.R_base ho0) hb); have n2_ := Aside0.mk (Kd.R_elder' (by (with_reducible repeat (first | apply Kd.R_alloc | apply Kd.R_drewN | apply Kd.R_drew)); exact HO342.out) (Kd.R_base ho0) hb); have n3_ := Aside0.mk (Kd.R_elder' (by (with_reducible repeat (first | apply Kd.R_alloc | apply Kd.R_drewN | apply Kd.R_drew)); exact HO345.out) (Kd.R_base ho0) hb); have n4_ := Aside0.mk (Kd.R_elder' (by (with_reducible repeat (first | apply Kd.R_alloc | apply Kd.R_drewN | apply Kd.R_drew)); exact HO349.out) (Kd.R_base ho0) hb); have n5_ := Aside0.mk (Kd.R_elder' (by (with_reducible repeat (first | apply Kd.R_alloc | apply Kd.R_drewN | apply Kd.R_drew)); exact HO352.out) (Kd.R_base ho0) hb); have n6_ := Aside0.mk (Kd.R_lower (Kd.R_new' (Kd.R_new' (Kd.R_new' (Kd.R_new' (Kd.R_new' (Kd.R_new' ho0 (Kd.R_lt (by (with_reducible repeat (first | apply Kd.R_alloc | apply Kd.R_drewN | apply Kd.R_drew)); exact HO331.out))) (Kd.R_lt (by (with_reducible repeat (first | apply Kd.R_alloc | apply Kd.R_drewN | apply Kd.R_drew)); exact HO338.out))) (Kd.R_lt (by (with_reducible repeat (first | apply Kd.R_alloc | apply Kd.R_drewN | apply Kd.R_drew)); exact HO342.out))) (Kd.R_lt (by (with_reducible repeat (first | apply Kd.R_alloc | apply Kd.R_drewN | apply Kd.R_drew)); exact HO345.out))) (Kd.R_lt (by (with_reducible repeat (first | apply Kd.R_alloc | apply Kd.R_drewN | apply Kd.R_drew)); exact HO349.out))) (Kd.R_lt (by (with_reducible repeat (first | apply Kd.R_alloc | apply Kd.R_drewN | apply Kd.R_drew)); exact HO352.out))) (below_size (by repeat (first | (with_reducible first | exact HB.out | apply below_alloc | apply pw_below_drewN | apply below_drew1) | exact HB.out | exact Below.refl _ _)))); have n7_ := Aside0.mk (below_step (by repeat (first | (with_reducible first | exact HB.out | apply below_alloc | apply pw_below_drewN | apply below_drew1) | exact HB.out | exact Below.refl _ _)) hb); clear HO331; clear HO338; clear HO342; clear HO345; clear HO349; clear HO352; clear HB; have HO331 := n0_; have HO338 := n1_; have HO342 := n2_; have HO345 := n3_; have HO349 := n4_; have HO352 := n5_; have HO355 := n6_; have HB := n7_; clear n0_ n1_ n2_ n3_ n4_ n5_ n6_ n7_; (try clear hb); (try clear hb2); (try clear hk); (try clear hi); (try clear ho0); obtain ⟨Ao57, co57, eo57⟩ := Kd.R_slice HO349.out; subst eo57; obtain ⟨Ao58, co58, eo58⟩ := Kd.R_slice HO355.out; subst eo58) | (go_at_call 43; (with_reducible refine (iceboxref1_Pairs.calls k2 _ _ t347 _ _ t353 true _ ?side1 ?side2 ?side3 ?side4 A41.out).mono ?_); (case side1 => repeat (first | exact (Kd.R_reads' HO349.out).2.2 | (with_reducible refine Kd.C_alloc ?_ _) | (with_reducible refine Kd.C_drewN ?_ _) | (with_reducible refine Kd.C_drew ?_))); (case side2 => exact (Kd.R_reads' HO349.out).2.1); (case side3 => repeat (first | exact (Kd.R_reads' HO355.out).2.2 | (with_reducible refine Kd.C_alloc ?_ _) | (with_reducible refine Kd.C_drewN ?_ _) | (with_reducible refine Kd.C_drew ?_))); (case side4 => exact (Kd.R_reads' HO355.out).2.1); rintro e w' ⟨rfl, ⟨nd, rfl⟩⟩) | (go_at_call 38; (with_reducible refine (iceboxlaw24_awake.calls k2  t357 _ A43.out).mono ?_); rintro e w59 ⟨rfl, hb⟩; have n0_ := Aside0.mk (Kd.R_below (by (with_reducible repeat (first | apply Kd.R_alloc | apply Kd.R_drewN | apply Kd.R_drew)); exact HO331.out) hb); have n1_ := Aside0.mk (Kd.R_below (by (with_reducible repeat (first | apply Kd.R_alloc | apply Kd.R_drewN | apply Kd.R_drew)); exact HO338.out) hb); have n2_ := Aside0.mk (Kd.R_below (by (with_reducible repeat (first | apply Kd.R_alloc | apply Kd.R_drewN | apply Kd.R_drew)); exact HO342.out) hb); have n3_ := Aside0.mk (Kd.R_below (by (with_reducible repeat (first | apply Kd.R_alloc | apply Kd.R_drewN | apply Kd.R_drew)); exact HO345.out) hb); have n4_ := Aside0.mk (Kd.R_below (by (with_reducible repeat (first | apply Kd.R_alloc | apply Kd.R_drewN | apply Kd.R_drew)); exact HO349.out) hb); have n5_ := Aside0.mk (Kd.R_below (by (with_reducible repeat (first | apply Kd.R_alloc | apply Kd.R_drewN | apply Kd.R_drew)); exact HO352.out) hb); have n6_ := Aside0.mk (Kd.R_below (by (with_reducible repeat (first | apply Kd.R_alloc | apply Kd.R_drewN | apply Kd.R_drew)); exact HO355.out) hb); have n7_ := Aside0.mk (below_step (by repeat (first | (with_reducible first | exact HB.out | apply below_alloc | apply pw_below_drewN | apply below_drew1) | exact HB.out | exact Below.refl _ _)) hb); clear HO331; clear HO338; clear HO342; clear HO345; clear HO349; clear HO352; clear HO355; clear HB; have HO331 := n0_; have HO338 := n1_; have HO342 := n2_; have HO345 := n3_; have HO349 := n4_; have HO352 := n5_; have HO355 := n6_; have HB := n7_; clear n0_ n1_ n2_ n3_ n4_ n5_ n6_ n7_; (try clear hb); (try clear hb2); (try clear hk); (try clear hi)))
             go_ret
             exact ⟨by first | rfl | (simp [errW_none, errW_some] <;> rfl) | (simp [*, errW_none, errW_some] <;> rfl), by repeat (first | (with_reducible first | exact HB.out | apply below_alloc | apply pw_below_drewN | apply below_drew1) | exact HB.out | exact Below.refl _ _)⟩
            ·
             replace c42 := Bool.eq_false_iff.mpr c42
             subst c42
             have H1 : (some false) = some r := by rw [if_neg (show ¬ (false = true) by decide)] at H; exact H
             clear H
             have H := H1
             clear H1
             exact absurd ((Option.some.inj H).trans hR_.out) (by decide)
           ·
            replace c37 := Bool.eq_false_iff.mpr c37
            subst c37
            have H1 : (some false) = some r := by rw [if_neg (show ¬ (false = true) by decide)] at H; exact H
            clear H
            have H := H1
            clear H1
            exact absurd ((Option.some.inj H).trans hR_.out) (by decide)
          ·
           rw [if_neg c33] at H
           have c33b0 : (t333 == t335) = false := by simpa using c33
           (try (have c33b1 : decide (t333 = t335) = false := by simpa using c33))
           (try (have c33b2 : (t333 == t335) = false := by simpa using c33))
           (try (have c33b3 : ¬ (t333 = t335) := by simpa using c33))
           clear c33
           exact absurd ((Option.some.inj H).trans hR_.out) (by decide)
         ·
          rw [if_neg c32] at H
          have c32b0 : (t332.toList == t334.toList) = false := beq_eq_false_iff_ne.mpr c32
          have c32b1 : (t332.toList != t334.toList) = true := bne_iff_ne.mpr c32
          exact absurd ((Option.some.inj H).trans hR_.out) (by decide)
        ·
         replace c31 := Bool.eq_false_iff.mpr c31
         subst c31
         have H1 : (some false) = some r := by rw [if_neg (show ¬ (false = true) by decide)] at H; exact H
         clear H
         have H := H1
         clear H1
         exact absurd ((Option.some.inj H).trans hR_.out) (by decide)

def WF72 (v : S72) : Prop := (fun n : Int => (Lit.int .i64 n).wf = true) v.f0 ∧ (fun s : ByteArray => s.size ≤ maxLen) v.f1 ∧ (fun s : ByteArray => s.size ≤ maxLen) v.f2
def WF70 (v : S70) : Prop := (fun n : Int => (Lit.int .i64 n).wf = true) v.f0 ∧ (fun xs : List (S72) => xs.length ≤ maxLen ∧ ∀ x ∈ xs, WF72 x) v.f1
def WF66 (v : S66) : Prop := (fun s : ByteArray => s.size ≤ maxLen) v.f0 ∧ (fun s : ByteArray => s.size ≤ maxLen) v.f1
/-- THE ONE PURE STATEMENT of iceboxlaw24_FoldAll: yours. -/
def iceboxlaw24_FoldAll.Pure : Prop := ∀ (l0 : List (S70)) (a1 : Int) (a2 : ByteArray) (a3 : ByteArray) (a4 : ByteArray) (a5 : Bool) (a6 : Int) (l7 : List (S66)), l0.length ≤ maxLen → (∀ x ∈ l0, WF70 x) → (Lit.int .i64 a1).wf = true → a2.size ≤ 140737488351232 → a3.size ≤ 140737488351232 → a4.size ≤ 140737488351232 → (Lit.int .i64 a6).wf = true → l7.length ≤ maxLen → (∀ x ∈ l7, WF66 x) → ∃ k, iceboxlaw24_FoldAll.f k l0 a1 a2 a3 a4 a5 a6 l7 = some true
theorem iceboxlaw24_FoldAll.walk (P : iceboxlaw24_FoldAll.Pure) (a0 : Option Addr) (cap0 : Nat) (l0 : List (S70)) (a1 : Int) (a2 : ByteArray) (a3 : ByteArray) (a4 : ByteArray) (a5 : Bool) (a6 : Int) (a7 : Option Addr) (cap7 : Nat) (l7 : List (S66)) (w : World) (w0 : Kd.C k70 w a0 l0.length l0) (c0 : l0.length ≤ cap0) (m0 : l0.length ≤ maxLen) (y0 : ∀ x ∈ l0, WF70 x) (w1 : (Lit.int .i64 a1).wf = true) (w2 : a2.size ≤ 140737488351232) (w3 : a3.size ≤ 140737488351232) (w4 : a4.size ≤ 140737488351232) (w6 : (Lit.int .i64 a6).wf = true) (w7 : Kd.C k66 w a7 l7.length l7) (c7 : l7.length ≤ cap7) (m7 : l7.length ≤ maxLen) (y7 : ∀ x ∈ l7, WF66 x) :
 Calls Try.prog 12 #[.slice a0 l0.length cap0, .int .i64 a1, .string a2, .string a3, .string a4, .bool a5, .int .i64 a6, .slice a7 l7.length cap7] w fun e w' => e = .returned (.bool true) ∧ Below w.heap.size w w' := by
 obtain ⟨k, h⟩ := P l0 a1 a2 a3 a4 a5 a6 l7 m0 y0 w1 w2 w3 w4 w6 m7 y7
 refine (iceboxlaw24_FoldAll.calls k _ _ l0 a1 a2 a3 a4 a5 a6 _ _ l7 true w ⟨rfl⟩ w0 c0 w7 c7 h).mono ?_
 rintro e w' ⟨rfl, hd⟩
 exact ⟨rfl, hd⟩

end Go.Proofs.Ytffnimaaolmbdaa.PFoldAll
