/- The functions that a law reaches, as Lean functions, each with the contract that its Go code comes to just these answers. Written by a program of this claim's author (wip/mkprint.py). No conditions. -/
import Derived.Test.YtffnimaaolmbdaaPFoldOnx0
import Derived.Test.YtffnimaaolmbdaaPFoldOnx2
import Derived.Test.YtffnimaaolmbdaaPFoldOnx3
import Derived.Test.YtffnimaaolmbdaaPFoldOnx4
namespace Go.Proofs.Ytffnimaaolmbdaa.PFoldOn
open Go.RowKit Go.Proofs.YtffnimaaolmbdaaW.PrintWords Go.Proofs.YtffnimaaolmbdaaW.PrintLast Go.Proofs.YtffnimaaolmbdaaW.PrintMore
attribute [local go_sem] max2_int min2_int max_two min_two max_three min_three max_four min_four   -- for this text's walks alone
set_option linter.unusedVariables false
set_option linter.unusedSimpArgs false

/-! ### iceboxlaw24_FoldOn: function 10 -/
mutual
def iceboxlaw24_FoldOn.l0 : Nat → List (S70) → Int → List (S66) → Int → Option (Bool)
 | 0, _, _, _, _ => none
 | k + 1, x5, x6, x7, x8 => if x8 < (x7.length : Int) then (if 0 ≤ (wrap64 (x8 - 1)) then (if (wrap64 (x8 - 1)) < (x7.length : Int) then (if 0 ≤ x8 then (if ((Op.bytesLess (((rd_T66 x7 (wrap64 (x8 - 1))).f0).toList) (((rd_T66 x7 x8).f0).toList)) = true) then (iceboxlaw24_FoldOn.l0 k x5 x6 x7 (wrap64 (x8 + 1))) else (some false)) else (none)) else (none)) else (none)) else (iceboxlaw24_FoldOn.l1 k x5 x6 x7 0)
def iceboxlaw24_FoldOn.l1 : Nat → List (S70) → Int → List (S66) → Int → Option (Bool)
 | 0, _, _, _, _ => none
 | k + 1, x5, x6, x7, x9 => if x9 < 11 then ((iceboxref1_Digits.f k x9).bind fun t327 => (if 1 + t327.size ≤ 9223372036854775807 then (if x9 ≥ 7 then ((iceboxref1_Digits.f k (wrap64 (x9 - 7))).bind fun t328 => (if 1 + t328.size ≤ 9223372036854775807 then (iceboxlaw24_FoldOn.j2 k x5 x6 x7 x9 ((⟨#[108]⟩ : ByteArray) ++ t328)) else (none))) else (iceboxlaw24_FoldOn.j2 k x5 x6 x7 x9 ((⟨#[107]⟩ : ByteArray) ++ t327))) else (none))) else ((fold_Fold.f k x5 (wrap64 ((x5.length : Int) + 5))).bind fun t338 => ((fold_Fold.f k x5 (x5.length : Int)).bind fun t341 => ((iceboxref1_Pairs.f k t338 t341).bind fun t344 => (if t344 = true then ((fold_Fold.f k x5 (-1)).bind fun t345 => (if (t345.length : Int) = 0 then ((iceboxlaw24_awake.f k).bind fun t348 => (some t348)) else (some false))) else (some false)))))
def iceboxlaw24_FoldOn.j2 : Nat → List (S70) → Int → List (S66) → Int → ByteArray → Option (Bool)
 | 0, _, _, _, _, _ => none
 | k + 1, x5, x6, x7, x9, x10 => iceboxlaw24_FoldOn.l2 k x5 x6 x7 x9 x10 (⟨#[]⟩ : ByteArray) false 0
def iceboxlaw24_FoldOn.l2 : Nat → List (S70) → Int → List (S66) → Int → ByteArray → ByteArray → Bool → Int → Option (Bool)
 | 0, _, _, _, _, _, _, _, _ => none
 | k + 1, x5, x6, x7, x9, x10, x11, x12, x13 => if x13 < x6 then (iceboxlaw24_FoldOn.l3 k x5 x6 x7 x9 x10 x11 x12 x13 0) else ((fold_Get.f k x7 x10).bind fun bt329 => (if (bt329.2 != x12) = true then (some false) else (if bt329.2 = true then (if bt329.1.toList = x11.toList then (iceboxlaw24_FoldOn.l1 k x5 x6 x7 (wrap64 (x9 + 1))) else (some false)) else (iceboxlaw24_FoldOn.l1 k x5 x6 x7 (wrap64 (x9 + 1))))))
def iceboxlaw24_FoldOn.l3 : Nat → List (S70) → Int → List (S66) → Int → ByteArray → ByteArray → Bool → Int → Int → Option (Bool)
 | 0, _, _, _, _, _, _, _, _, _ => none
 | k + 1, x5, x6, x7, x9, x10, x11, x12, x13, x14 => if 0 ≤ x13 then (if x13 < (x5.length : Int) then (if x14 < (((rd_T70 x5 x13).f1).length : Int) then (if 0 ≤ x14 then (if ((rd_T72 ((rd_T70 x5 x13).f1) x14).f1).toList = x10.toList then (iceboxlaw24_FoldOn.l3 k x5 x6 x7 x9 x10 ((rd_T72 ((rd_T70 x5 x13).f1) x14).f2) (((rd_T72 ((rd_T70 x5 x13).f1) x14).f0) == 1) x13 (wrap64 (x14 + 1))) else (iceboxlaw24_FoldOn.l3 k x5 x6 x7 x9 x10 x11 x12 x13 (wrap64 (x14 + 1)))) else (none)) else (iceboxlaw24_FoldOn.l2 k x5 x6 x7 x9 x10 x11 x12 (wrap64 (x13 + 1)))) else (none)) else (none)
end
def iceboxlaw24_FoldOn.f (k : Nat) (l0 : List Int) (a1 : Int) : Option (Bool) := if (l0.length : Int) > 60 then ((iceboxlaw24_awake.f k).bind fun t318 => (some t318)) else ((iceboxlaw9_Make.f k l0 1).bind fun t319 => (if (wrap64 ((t319.length : Int) + 1)) = 0 then (none) else ((fold_Fold.f k t319 (Int.tmod (wrap64 (a1)) (wrap64 ((t319.length : Int) + 1)))).bind fun t322 => (iceboxlaw24_FoldOn.l0 k t319 (Int.tmod (wrap64 (a1)) (wrap64 ((t319.length : Int) + 1))) t322 1))))
theorem iceboxlaw24_FoldOn.mono_l : ∀ k, (∀ y0 y1 y2 y3, LeO (iceboxlaw24_FoldOn.l0 k y0 y1 y2 y3) (iceboxlaw24_FoldOn.l0 (k + 1) y0 y1 y2 y3)) ∧ (∀ y0 y1 y2 y3, LeO (iceboxlaw24_FoldOn.l1 k y0 y1 y2 y3) (iceboxlaw24_FoldOn.l1 (k + 1) y0 y1 y2 y3)) ∧ (∀ y0 y1 y2 y3 y4, LeO (iceboxlaw24_FoldOn.j2 k y0 y1 y2 y3 y4) (iceboxlaw24_FoldOn.j2 (k + 1) y0 y1 y2 y3 y4)) ∧ (∀ y0 y1 y2 y3 y4 y5 y6 y7, LeO (iceboxlaw24_FoldOn.l2 k y0 y1 y2 y3 y4 y5 y6 y7) (iceboxlaw24_FoldOn.l2 (k + 1) y0 y1 y2 y3 y4 y5 y6 y7)) ∧ (∀ y0 y1 y2 y3 y4 y5 y6 y7 y8, LeO (iceboxlaw24_FoldOn.l3 k y0 y1 y2 y3 y4 y5 y6 y7 y8) (iceboxlaw24_FoldOn.l3 (k + 1) y0 y1 y2 y3 y4 y5 y6 y7 y8))
 | 0 => ⟨fun _ _ _ _ r h => by simp [iceboxlaw24_FoldOn.l0] at h, fun _ _ _ _ r h => by simp [iceboxlaw24_FoldOn.l1] at h, fun _ _ _ _ _ r h => by simp [iceboxlaw24_FoldOn.j2] at h, fun _ _ _ _ _ _ _ _ r h => by simp [iceboxlaw24_FoldOn.l2] at h, fun _ _ _ _ _ _ _ _ _ r h => by simp [iceboxlaw24_FoldOn.l3] at h⟩
 | k + 1 => by
  obtain ⟨ih0, ih1, ih2, ih3, ih4⟩ := iceboxlaw24_FoldOn.mono_l k
  refine ⟨?_, ?_, ?_, ?_, ?_⟩
  ·
   intro y0 y1 y2 y3
   unfold iceboxlaw24_FoldOn.l0
   repeat' first
   | (with_reducible exact ih0 _ _ _ _)
   | (with_reducible exact ih1 _ _ _ _)
   | (with_reducible exact ih2 _ _ _ _ _)
   | (with_reducible exact ih3 _ _ _ _ _ _ _ _)
   | (with_reducible exact ih4 _ _ _ _ _ _ _ _ _)
   | (with_reducible exact fold_Fold.mono _ _ _)
   | (with_reducible exact fold_Get.mono _ _ _)
   | (with_reducible exact iceboxlaw24_awake.mono _)
   | (with_reducible exact iceboxlaw9_Make.mono _ _ _)
   | (with_reducible exact iceboxref1_Digits.mono _ _)
   | (with_reducible exact iceboxref1_Pairs.mono _ _ _)
   | (with_reducible exact LeO.refl _)
   | (with_reducible exact LeO.none _)
   | (with_reducible refine LeO.ite ?_ ?_)
   | (with_reducible refine LeO.bind ?_ (fun _ => ?_))
   | exact ih0 _ _ _ _
   | exact ih1 _ _ _ _
   | exact ih2 _ _ _ _ _
   | exact ih3 _ _ _ _ _ _ _ _
   | exact ih4 _ _ _ _ _ _ _ _ _
   | exact fold_Fold.mono _ _ _
   | exact fold_Get.mono _ _ _
   | exact iceboxlaw24_awake.mono _
   | exact iceboxlaw9_Make.mono _ _ _
   | exact iceboxref1_Digits.mono _ _
   | exact iceboxref1_Pairs.mono _ _ _
   | exact LeO.none _
   | refine LeO.ite ?_ ?_
   | refine LeO.bind ?_ (fun _ => ?_)
  ·
   intro y0 y1 y2 y3
   unfold iceboxlaw24_FoldOn.l1
   repeat' first
   | (with_reducible exact ih0 _ _ _ _)
   | (with_reducible exact ih1 _ _ _ _)
   | (with_reducible exact ih2 _ _ _ _ _)
   | (with_reducible exact ih3 _ _ _ _ _ _ _ _)
   | (with_reducible exact ih4 _ _ _ _ _ _ _ _ _)
   | (with_reducible exact fold_Fold.mono _ _ _)
   | (with_reducible exact fold_Get.mono _ _ _)
   | (with_reducible exact iceboxlaw24_awake.mono _)
   | (with_reducible exact iceboxlaw9_Make.mono _ _ _)
   | (with_reducible exact iceboxref1_Digits.mono _ _)
   | (with_reducible exact iceboxref1_Pairs.mono _ _ _)
   | (with_reducible exact LeO.refl _)
   | (with_reducible exact LeO.none _)
   | (with_reducible refine LeO.ite ?_ ?_)
   | (with_reducible refine LeO.bind ?_ (fun _ => ?_))
   | exact ih0 _ _ _ _
   | exact ih1 _ _ _ _
   | exact ih2 _ _ _ _ _
   | exact ih3 _ _ _ _ _ _ _ _
   | exact ih4 _ _ _ _ _ _ _ _ _
   | exact fold_Fold.mono _ _ _
   | exact fold_Get.mono _ _ _
   | exact iceboxlaw24_awake.mono _
   | exact iceboxlaw9_Make.mono _ _ _
   | exact iceboxref1_Digits.mono _ _
   | exact iceboxref1_Pairs.mono _ _ _
   | exact LeO.none _
   | refine LeO.ite ?_ ?_
   | refine LeO.bind ?_ (fun _ => ?_)
  ·
   intro y0 y1 y2 y3 y4
   unfold iceboxlaw24_FoldOn.j2
   repeat' first
   | (with_reducible exact ih0 _ _ _ _)
   | (with_reducible exact ih1 _ _ _ _)
   | (with_reducible exact ih2 _ _ _ _ _)
   | (with_reducible exact ih3 _ _ _ _ _ _ _ _)
   | (with_reducible exact ih4 _ _ _ _ _ _ _ _ _)
   | (with_reducible exact fold_Fold.mono _ _ _)
   | (with_reducible exact fold_Get.mono _ _ _)
   | (with_reducible exact iceboxlaw24_awake.mono _)
   | (with_reducible exact iceboxlaw9_Make.mono _ _ _)
   | (with_reducible exact iceboxref1_Digits.mono _ _)
   | (with_reducible exact iceboxref1_Pairs.mono _ _ _)
   | (with_reducible exact LeO.refl _)
   | (with_reducible exact LeO.none _)
   | (with_reducible refine LeO.ite ?_ ?_)
   | (with_reducible refine LeO.bind ?_ (fun _ => ?_))
   | exact ih0 _ _ _ _
   | exact ih1 _ _ _ _
   | exact ih2 _ _ _ _ _
   | exact ih3 _ _ _ _ _ _ _ _
   | exact ih4 _ _ _ _ _ _ _ _ _
   | exact fold_Fold.mono _ _ _
   | exact fold_Get.mono _ _ _
   | exact iceboxlaw24_awake.mono _
   | exact iceboxlaw9_Make.mono _ _ _
   | exact iceboxref1_Digits.mono _ _
   | exact iceboxref1_Pairs.mono _ _ _
   | exact LeO.none _
   | refine LeO.ite ?_ ?_
   | refine LeO.bind ?_ (fun _ => ?_)
  ·
   intro y0 y1 y2 y3 y4 y5 y6 y7
   unfold iceboxlaw24_FoldOn.l2
   repeat' first
   | (with_reducible exact ih0 _ _ _ _)
   | (with_reducible exact ih1 _ _ _ _)
   | (with_reducible exact ih2 _ _ _ _ _)
   | (with_reducible exact ih3 _ _ _ _ _ _ _ _)
   | (with_reducible exact ih4 _ _ _ _ _ _ _ _ _)
   | (with_reducible exact fold_Fold.mono _ _ _)
   | (with_reducible exact fold_Get.mono _ _ _)
   | (with_reducible exact iceboxlaw24_awake.mono _)
   | (with_reducible exact iceboxlaw9_Make.mono _ _ _)
   | (with_reducible exact iceboxref1_Digits.mono _ _)
   | (with_reducible exact iceboxref1_Pairs.mono _ _ _)
   | (with_reducible exact LeO.refl _)
   | (with_reducible exact LeO.none _)
   | (with_reducible refine LeO.ite ?_ ?_)
   | (with_reducible refine LeO.bind ?_ (fun _ => ?_))
   | exact ih0 _ _ _ _
   | exact ih1 _ _ _ _
   | exact ih2 _ _ _ _ _
   | exact ih3 _ _ _ _ _ _ _ _
   | exact ih4 _ _ _ _ _ _ _ _ _
   | exact fold_Fold.mono _ _ _
   | exact fold_Get.mono _ _ _
   | exact iceboxlaw24_awake.mono _
   | exact iceboxlaw9_Make.mono _ _ _
   | exact iceboxref1_Digits.mono _ _
   | exact iceboxref1_Pairs.mono _ _ _
   | exact LeO.none _
   | refine LeO.ite ?_ ?_
   | refine LeO.bind ?_ (fun _ => ?_)
  ·
   intro y0 y1 y2 y3 y4 y5 y6 y7 y8
   unfold iceboxlaw24_FoldOn.l3
   repeat' first
   | (with_reducible exact ih0 _ _ _ _)
   | (with_reducible exact ih1 _ _ _ _)
   | (with_reducible exact ih2 _ _ _ _ _)
   | (with_reducible exact ih3 _ _ _ _ _ _ _ _)
   | (with_reducible exact ih4 _ _ _ _ _ _ _ _ _)
   | (with_reducible exact fold_Fold.mono _ _ _)
   | (with_reducible exact fold_Get.mono _ _ _)
   | (with_reducible exact iceboxlaw24_awake.mono _)
   | (with_reducible exact iceboxlaw9_Make.mono _ _ _)
   | (with_reducible exact iceboxref1_Digits.mono _ _)
   | (with_reducible exact iceboxref1_Pairs.mono _ _ _)
   | (with_reducible exact LeO.refl _)
   | (with_reducible exact LeO.none _)
   | (with_reducible refine LeO.ite ?_ ?_)
   | (with_reducible refine LeO.bind ?_ (fun _ => ?_))
   | exact ih0 _ _ _ _
   | exact ih1 _ _ _ _
   | exact ih2 _ _ _ _ _
   | exact ih3 _ _ _ _ _ _ _ _
   | exact ih4 _ _ _ _ _ _ _ _ _
   | exact fold_Fold.mono _ _ _
   | exact fold_Get.mono _ _ _
   | exact iceboxlaw24_awake.mono _
   | exact iceboxlaw9_Make.mono _ _ _
   | exact iceboxref1_Digits.mono _ _
   | exact iceboxref1_Pairs.mono _ _ _
   | exact LeO.none _
   | refine LeO.ite ?_ ?_
   | refine LeO.bind ?_ (fun _ => ?_)
theorem iceboxlaw24_FoldOn.mono : ∀ a0 a1 k, LeO (iceboxlaw24_FoldOn.f k a0 a1) (iceboxlaw24_FoldOn.f (k + 1) a0 a1) := by
 intro a0 a1 k
 obtain ⟨ih0, ih1, ih2, ih3, ih4⟩ := iceboxlaw24_FoldOn.mono_l k
 unfold iceboxlaw24_FoldOn.f
 repeat' first
  | (with_reducible exact ih0 _ _ _ _)
  | (with_reducible exact ih1 _ _ _ _)
  | (with_reducible exact ih2 _ _ _ _ _)
  | (with_reducible exact ih3 _ _ _ _ _ _ _ _)
  | (with_reducible exact ih4 _ _ _ _ _ _ _ _ _)
  | (with_reducible exact fold_Fold.mono _ _ _)
  | (with_reducible exact fold_Get.mono _ _ _)
  | (with_reducible exact iceboxlaw24_awake.mono _)
  | (with_reducible exact iceboxlaw9_Make.mono _ _ _)
  | (with_reducible exact iceboxref1_Digits.mono _ _)
  | (with_reducible exact iceboxref1_Pairs.mono _ _ _)
  | (with_reducible exact LeO.refl _)
  | (with_reducible exact LeO.none _)
  | (with_reducible refine LeO.ite ?_ ?_)
  | (with_reducible refine LeO.bind ?_ (fun _ => ?_))
  | exact ih0 _ _ _ _
  | exact ih1 _ _ _ _
  | exact ih2 _ _ _ _ _
  | exact ih3 _ _ _ _ _ _ _ _
  | exact ih4 _ _ _ _ _ _ _ _ _
  | exact fold_Fold.mono _ _ _
  | exact fold_Get.mono _ _ _
  | exact iceboxlaw24_awake.mono _
  | exact iceboxlaw9_Make.mono _ _ _
  | exact iceboxref1_Digits.mono _ _
  | exact iceboxref1_Pairs.mono _ _ _
  | exact LeO.none _
  | refine LeO.ite ?_ ?_
  | refine LeO.bind ?_ (fun _ => ?_)
set_option maxHeartbeats 80000000 in
set_option maxRecDepth 100000 in
theorem iceboxlaw24_FoldOn.calls (k : Nat) (A0 : Option Addr) (c0 : Nat) (l0 : List Int) (a1 : Int) (r : Bool) (w : World) (hR_ : Aside0 (r = true)) (hr0 : Kd.C (Kd.int .u8) w A0 l0.length l0) (hc0 : l0.length ≤ c0) (h : iceboxlaw24_FoldOn.f k l0 a1 = some r) :
 Calls Try.prog 10 #[.slice A0 l0.length c0, .int .u8 a1] w fun e w' => e = .returned (.bool r) ∧ Below w.heap.size w w' := by
 have HR0 := Aside0.mk hr0
 have HC0 := Aside0.mk hc0
 clear hr0 hc0
 have HB := Aside0.mk (Below.refl w.heap.size w)
 have H : (if (l0.length : Int) > 60 then ((iceboxlaw24_awake.f k).bind fun t318 => (some t318)) else ((iceboxlaw9_Make.f k l0 1).bind fun t319 => (if (wrap64 ((t319.length : Int) + 1)) = 0 then (none) else ((fold_Fold.f k t319 (Int.tmod (wrap64 (a1)) (wrap64 ((t319.length : Int) + 1)))).bind fun t322 => (iceboxlaw24_FoldOn.l0 k t319 (Int.tmod (wrap64 (a1)) (wrap64 ((t319.length : Int) + 1))) t322 1))))) = some r := h
 clear h
 by_cases c3 : (l0.length : Int) > 60
 ·
  rw [if_pos c3] at H
  have c3b0 : decide (60 < (l0.length : Int)) = true := decide_eq_true c3
  have c3b1 : decide (60 < l0.length) = true := decide_eq_true (by omega)
  clear c3
  replace H := Option.bind_eq_some_iff.mp H
  obtain ⟨t318, A40, H⟩ := H
  replace H : (some t318) = some r := H
  have A4 := Aside0.mk A40
  clear A40
  obtain rfl := Option.some.inj H
  go_enter Try.func10, Try.ntmps10
  go_wp2_with (first | (go_at_call 38; (with_reducible refine (iceboxlaw24_awake.calls k  t318 _ A4.out).mono ?_); rintro e w5 ⟨rfl, hb⟩; have n0_ := Aside0.mk (below_step (by repeat (first | (with_reducible first | exact HB.out | apply below_alloc | apply pw_below_drewN | apply below_drew1) | exact HB.out | exact Below.refl _ _)) hb); clear HB; have HB := n0_; clear n0_; (try clear hb); (try clear hb2); (try clear hk); (try clear hi)))
  repeat (go_quiet (first | (go_at_call 38; (with_reducible refine (iceboxlaw24_awake.calls k  t318 _ A4.out).mono ?_); rintro e w5 ⟨rfl, hb⟩; have n0_ := Aside0.mk (below_step (by repeat (first | (with_reducible first | exact HB.out | apply below_alloc | apply pw_below_drewN | apply below_drew1) | exact HB.out | exact Below.refl _ _)) hb); clear HB; have HB := n0_; clear n0_; (try clear hb); (try clear hb2); (try clear hk); (try clear hi))); try go_wp2_with (first | (go_at_call 38; (with_reducible refine (iceboxlaw24_awake.calls k  t318 _ A4.out).mono ?_); rintro e w5 ⟨rfl, hb⟩; have n0_ := Aside0.mk (below_step (by repeat (first | (with_reducible first | exact HB.out | apply below_alloc | apply pw_below_drewN | apply below_drew1) | exact HB.out | exact Below.refl _ _)) hb); clear HB; have HB := n0_; clear n0_; (try clear hb); (try clear hb2); (try clear hk); (try clear hi))))
  go_ret
  exact ⟨by first | rfl | (simp [errW_none, errW_some] <;> rfl) | (simp [*, errW_none, errW_some] <;> rfl), by repeat (first | (with_reducible first | exact HB.out | apply below_alloc | apply pw_below_drewN | apply below_drew1) | exact HB.out | exact Below.refl _ _)⟩
 ·
  rw [if_neg c3] at H
  have c3b0 : decide (60 < (l0.length : Int)) = false := decide_eq_false c3
  have c3b1 : decide (60 < l0.length) = false := decide_eq_false (by omega)
  clear c3
  replace H := Option.bind_eq_some_iff.mp H
  obtain ⟨t319, A60, H⟩ := H
  replace H : (if (wrap64 ((t319.length : Int) + 1)) = 0 then (none) else ((fold_Fold.f k t319 (Int.tmod (wrap64 (a1)) (wrap64 ((t319.length : Int) + 1)))).bind fun t322 => (iceboxlaw24_FoldOn.l0 k t319 (Int.tmod (wrap64 (a1)) (wrap64 ((t319.length : Int) + 1))) t322 1))) = some r := H
  have A6 := Aside0.mk A60
  clear A60
  by_cases c7 : (wrap64 ((t319.length : Int) + 1)) = 0
  ·
   rw [if_pos c7] at H
   exact absurd H (by simp)
  ·
   rw [if_neg c7] at H
   have c7b0 : ((wrap64 ((t319.length : Int) + 1)) == 0) = false := beq_eq_false_iff_ne.mpr c7
   have c7b1 : ((wrap64 ((t319.length : Int) + 1)) != 0) = true := bne_iff_ne.mpr c7
   replace H := Option.bind_eq_some_iff.mp H
   obtain ⟨t322, A80, H⟩ := H
   replace H : (iceboxlaw24_FoldOn.l0 k t319 (Int.tmod (wrap64 (a1)) (wrap64 ((t319.length : Int) + 1))) t322 1) = some r := H
   have A8 := Aside0.mk A80
   clear A80
   have H' := Aside0.mk H
   clear H
   go_enter Try.func10, Try.ntmps10
   go_wp2_with (first | (go_at_call 39; (with_reducible refine (iceboxlaw9_Make.calls k _ _ l0 1 t319 _ ?side1 ?side2 A6.out).mono ?_); (case side1 => repeat (first | exact HR0.out | (with_reducible refine Kd.C_alloc ?_ _) | (with_reducible refine Kd.C_drewN ?_ _) | (with_reducible refine Kd.C_drew ?_))); (case side2 => exact HC0.out); rintro e w9 ⟨v320, rfl, ho0, hb⟩; have n0_ := Aside0.mk (Kd.S_lower ho0 (below_size (by repeat (first | (with_reducible first | exact HB.out | apply below_alloc | apply pw_below_drewN | apply below_drew1) | exact HB.out | exact Below.refl _ _)))); have n1_ := Aside0.mk (below_step (by repeat (first | (with_reducible first | exact HB.out | apply below_alloc | apply pw_below_drewN | apply below_drew1) | exact HB.out | exact Below.refl _ _)) hb); clear HB; have HO321 := n0_; have HB := n1_; clear n0_ n1_; (try clear hb); (try clear hb2); (try clear hk); (try clear hi); (try clear ho0); obtain ⟨Ao10, co10, eo10⟩ := Kd.S_slice HO321.out; subst eo10) | (go_at_call 40; (with_reducible refine (fold_Fold.calls k _ _ t319 (Int.tmod (wrap64 (a1)) (wrap64 ((t319.length : Int) + 1))) t322 _ ?side1 ?side2 A8.out).mono ?_); (case side1 => repeat (first | exact (Kd.S_reads' HO321.out).2.2 | (with_reducible refine Kd.C_alloc ?_ _) | (with_reducible refine Kd.C_drewN ?_ _) | (with_reducible refine Kd.C_drew ?_))); (case side2 => exact (Kd.S_reads' HO321.out).2.1); rintro e w11 ⟨v323, rfl, ho0, hb⟩; have n0_ := Aside0.mk (Kd.S_below (by (with_reducible repeat (first | apply Kd.S_alloc | apply Kd.S_drewN | apply Kd.S_drew)); exact HO321.out) hb); have n1_ := Aside0.mk (Kd.R_lower ho0 (below_size (by repeat (first | (with_reducible first | exact HB.out | apply below_alloc | apply pw_below_drewN | apply below_drew1) | exact HB.out | exact Below.refl _ _)))); have n2_ := Aside0.mk (below_step (by repeat (first | (with_reducible first | exact HB.out | apply below_alloc | apply pw_below_drewN | apply below_drew1) | exact HB.out | exact Below.refl _ _)) hb); clear HO321; clear HB; have HO321 := n0_; have HO324 := n1_; have HB := n2_; clear n0_ n1_ n2_; (try clear hb); (try clear hb2); (try clear hk); (try clear hi); (try clear ho0)))
   repeat (go_quiet (first | (go_at_call 39; (with_reducible refine (iceboxlaw9_Make.calls k _ _ l0 1 t319 _ ?side1 ?side2 A6.out).mono ?_); (case side1 => repeat (first | exact HR0.out | (with_reducible refine Kd.C_alloc ?_ _) | (with_reducible refine Kd.C_drewN ?_ _) | (with_reducible refine Kd.C_drew ?_))); (case side2 => exact HC0.out); rintro e w9 ⟨v320, rfl, ho0, hb⟩; have n0_ := Aside0.mk (Kd.S_lower ho0 (below_size (by repeat (first | (with_reducible first | exact HB.out | apply below_alloc | apply pw_below_drewN | apply below_drew1) | exact HB.out | exact Below.refl _ _)))); have n1_ := Aside0.mk (below_step (by repeat (first | (with_reducible first | exact HB.out | apply below_alloc | apply pw_below_drewN | apply below_drew1) | exact HB.out | exact Below.refl _ _)) hb); clear HB; have HO321 := n0_; have HB := n1_; clear n0_ n1_; (try clear hb); (try clear hb2); (try clear hk); (try clear hi); (try clear ho0); obtain ⟨Ao10, co10, eo10⟩ := Kd.S_slice HO321.out; subst eo10) | (go_at_call 40; (with_reducible refine (fold_Fold.calls k _ _ t319 (Int.tmod (wrap64 (a1)) (wrap64 ((t319.length : Int) + 1))) t322 _ ?side1 ?side2 A8.out).mono ?_); (case side1 => repeat (first | exact (Kd.S_reads' HO321.out).2.2 | (with_reducible refine Kd.C_alloc ?_ _) | (with_reducible refine Kd.C_drewN ?_ _) | (with_reducible refine Kd.C_drew ?_))); (case side2 => exact (Kd.S_reads' HO321.out).2.1); rintro e w11 ⟨v323, rfl, ho0, hb⟩; have n0_ := Aside0.mk (Kd.S_below (by (with_reducible repeat (first | apply Kd.S_alloc | apply Kd.S_drewN | apply Kd.S_drew)); exact HO321.out) hb); have n1_ := Aside0.mk (Kd.R_lower ho0 (below_size (by repeat (first | (with_reducible first | exact HB.out | apply below_alloc | apply pw_below_drewN | apply below_drew1) | exact HB.out | exact Below.refl _ _)))); have n2_ := Aside0.mk (below_step (by repeat (first | (with_reducible first | exact HB.out | apply below_alloc | apply pw_below_drewN | apply below_drew1) | exact HB.out | exact Below.refl _ _)) hb); clear HO321; clear HB; have HO321 := n0_; have HO324 := n1_; have HB := n2_; clear n0_ n1_ n2_; (try clear hb); (try clear hb2); (try clear hk); (try clear hi); (try clear ho0))); try go_wp2_with (first | (go_at_call 39; (with_reducible refine (iceboxlaw9_Make.calls k _ _ l0 1 t319 _ ?side1 ?side2 A6.out).mono ?_); (case side1 => repeat (first | exact HR0.out | (with_reducible refine Kd.C_alloc ?_ _) | (with_reducible refine Kd.C_drewN ?_ _) | (with_reducible refine Kd.C_drew ?_))); (case side2 => exact HC0.out); rintro e w9 ⟨v320, rfl, ho0, hb⟩; have n0_ := Aside0.mk (Kd.S_lower ho0 (below_size (by repeat (first | (with_reducible first | exact HB.out | apply below_alloc | apply pw_below_drewN | apply below_drew1) | exact HB.out | exact Below.refl _ _)))); have n1_ := Aside0.mk (below_step (by repeat (first | (with_reducible first | exact HB.out | apply below_alloc | apply pw_below_drewN | apply below_drew1) | exact HB.out | exact Below.refl _ _)) hb); clear HB; have HO321 := n0_; have HB := n1_; clear n0_ n1_; (try clear hb); (try clear hb2); (try clear hk); (try clear hi); (try clear ho0); obtain ⟨Ao10, co10, eo10⟩ := Kd.S_slice HO321.out; subst eo10) | (go_at_call 40; (with_reducible refine (fold_Fold.calls k _ _ t319 (Int.tmod (wrap64 (a1)) (wrap64 ((t319.length : Int) + 1))) t322 _ ?side1 ?side2 A8.out).mono ?_); (case side1 => repeat (first | exact (Kd.S_reads' HO321.out).2.2 | (with_reducible refine Kd.C_alloc ?_ _) | (with_reducible refine Kd.C_drewN ?_ _) | (with_reducible refine Kd.C_drew ?_))); (case side2 => exact (Kd.S_reads' HO321.out).2.1); rintro e w11 ⟨v323, rfl, ho0, hb⟩; have n0_ := Aside0.mk (Kd.S_below (by (with_reducible repeat (first | apply Kd.S_alloc | apply Kd.S_drewN | apply Kd.S_drew)); exact HO321.out) hb); have n1_ := Aside0.mk (Kd.R_lower ho0 (below_size (by repeat (first | (with_reducible first | exact HB.out | apply below_alloc | apply pw_below_drewN | apply below_drew1) | exact HB.out | exact Below.refl _ _)))); have n2_ := Aside0.mk (below_step (by repeat (first | (with_reducible first | exact HB.out | apply below_alloc | apply pw_below_drewN | apply below_drew1) | exact HB.out | exact Below.refl _ _)) hb); clear HO321; clear HB; have HO321 := n0_; have HO324 := n1_; have HB := n2_; clear n0_ n1_ n2_; (try clear hb); (try clear hb2); (try clear hk); (try clear hi); (try clear ho0))))
   go_loopg [8] k (fun kq v8 w' => ∃ (x8_1 : Int), v8 = .int .i64 x8_1 ∧ Aside0 (iceboxlaw24_FoldOn.l0 kq t319 (Int.tmod (wrap64 (a1)) (wrap64 ((t319.length : Int) + 1))) t322 x8_1 = some r) ∧ Aside0 (kq ≤ k) ∧ Aside0 (Kd.S k70 70 w' w.heap.size (fun _ => True) (.slice Ao10 t319.length co10) t319) ∧ Aside0 (Kd.R k66 66 w' w.heap.size (fun _ => True) v323 t322) ∧ Aside0 (Below w.heap.size w w'))
   case atStart => exact ⟨(1), (by first | rfl | (simp; done) | (simp [*]; done)), H', ⟨Nat.le_refl _⟩, ⟨by (with_reducible repeat (first | apply Kd.S_alloc | apply Kd.S_drewN | apply Kd.S_drew)); exact HO321.out⟩, ⟨by (with_reducible repeat (first | apply Kd.R_alloc | apply Kd.R_drewN | apply Kd.R_drew)); exact HO324.out⟩, ⟨by repeat (first | (with_reducible first | exact HB.out | apply below_alloc | apply pw_below_drewN | apply below_drew1) | exact HB.out | exact Below.refl _ _)⟩⟩
   case round =>
    clear H'
    obtain ⟨x8_1, rfl, HA, HK1, HO_5, HO_7, HB⟩ := hrel
    cases gk with
    | zero => exact absurd HA.out (by simp [iceboxlaw24_FoldOn.l0])
    | succ k1 =>
     have H := HA.out
     clear HA
     simp only [iceboxlaw24_FoldOn.l0] at H
     by_cases c12 : x8_1 < (t322.length : Int)
     ·
      rw [if_pos c12] at H
      have c12b0 : decide (x8_1 < (t322.length : Int)) = true := decide_eq_true c12
      clear c12
      obtain ⟨ji13, hji13⟩ : ∃ j_ : Int, (wrap64 (x8_1 - 1)) = j_ := ⟨_, rfl⟩
      replace H : (if 0 ≤ (ji13) then (if (ji13) < (t322.length : Int) then (if 0 ≤ x8_1 then (if ((Op.bytesLess (((rd_T66 t322 (ji13)).f0).toList) (((rd_T66 t322 x8_1).f0).toList)) = true) then (iceboxlaw24_FoldOn.l0 k1 t319 (Int.tmod (wrap64 (a1)) (wrap64 ((t319.length : Int) + 1))) t322 (wrap64 (x8_1 + 1))) else (some false)) else (none)) else (none)) else (none)) = some r := by first | (rw [hji13] at H; exact H) | (simp only [hji13] at H ⊢; exact H)
      have hji13w : (IntKind.i64.wrap (x8_1 - 1)) = ji13 := (i64_w _).trans hji13
      by_cases c14 : 0 ≤ (ji13)
      ·
       rw [if_pos c14] at H
       have c14b0 : decide (0 ≤ (ji13)) = true := decide_eq_true c14
       clear c14
       by_cases c15 : (ji13) < (t322.length : Int)
       ·
        rw [if_pos c15] at H
        have c15b0 : decide ((ji13) < (t322.length : Int)) = true := decide_eq_true c15
        clear c15
        by_cases c16 : 0 ≤ x8_1
        ·
         rw [if_pos c16] at H
         have c16b0 : decide (0 ≤ x8_1) = true := decide_eq_true c16
         clear c16
         by_cases c17 : ((Op.bytesLess (((rd_T66 t322 (ji13)).f0).toList) (((rd_T66 t322 x8_1).f0).toList)) = true)
         ·
          rw [if_pos c17] at H
          have c17b0 : (Op.bytesLess (((rd_T66 t322 (ji13)).f0).toList) (((rd_T66 t322 x8_1).f0).toList)) = true := c17
          (try (have c17b1 : ((((rd_T66 t322 (ji13)).f0).toList) == (((rd_T66 t322 x8_1).f0).toList)) = false := bl_ne c17))
          (try (have c17b2 : ((((rd_T66 t322 x8_1).f0).toList) == (((rd_T66 t322 (ji13)).f0).toList)) = false := bl_ne2 c17))
          clear c17
          have H' := Aside0.mk H
          clear H
          obtain ⟨Ao18, co18, eo18⟩ := Kd.R_slice HO_7.out
          subst eo18
          have p325 : 0 ≤ ((ji13) : Int) := of_decide_eq_true (by first | (with_reducible assumption) | assumption)
          have q325 : (ji13) < (t322.length : Int) := of_decide_eq_true (by first | (with_reducible assumption) | assumption)
          obtain ⟨ad325, e325, hx325_0, hx325_1⟩ := at_T66 (Kd.R_reads' HO_7.out).2.2 (ji13) p325 q325
          cases e325
          replace p325 := eq_true p325
          replace q325 := eq_true q325
          have p326 : 0 ≤ (x8_1 : Int) := of_decide_eq_true (by first | (with_reducible assumption) | assumption)
          have q326 : x8_1 < (t322.length : Int) := of_decide_eq_true (by first | (with_reducible assumption) | assumption)
          obtain ⟨ad326, e326, hx326_0, hx326_1⟩ := at_T66 (Kd.R_reads' HO_7.out).2.2 x8_1 p326 q326
          obtain rfl : ad325 = ad326 := (by injection e326)
          replace p326 := eq_true p326
          replace q326 := eq_true q326
          go_wp2
          repeat (go_quiet (fail); try go_wp2)
          go_roundg k1
          case measure => have := HK1.out; omega
          case rel => exact ⟨(wrap64 (x8_1 + 1)), (by first | rfl | (simp; done) | (simp [*]; done)), (by first | exact H' | (simp only [hji13]; exact H')), ⟨by have := HK1.out; omega⟩, ⟨by (with_reducible repeat (first | apply Kd.S_alloc | apply Kd.S_drewN | apply Kd.S_drew)); exact HO_5.out⟩, ⟨by (with_reducible repeat (first | apply Kd.R_alloc | apply Kd.R_drewN | apply Kd.R_drew)); exact HO_7.out⟩, ⟨by repeat (first | (with_reducible first | exact HB.out | apply below_alloc | apply pw_below_drewN | apply below_drew1) | exact HB.out | exact Below.refl _ _)⟩⟩
         ·
          rw [if_neg c17] at H
          have c17b0 : (Op.bytesLess (((rd_T66 t322 (ji13)).f0).toList) (((rd_T66 t322 x8_1).f0).toList)) = false := by simpa using c17
          (try (have c17b1 : ((((rd_T66 t322 (ji13)).f0).toList) == (((rd_T66 t322 x8_1).f0).toList)) = true := bl_eq (by assumption) (by assumption)))
          (try (have c17b2 : ((((rd_T66 t322 x8_1).f0).toList) == (((rd_T66 t322 (ji13)).f0).toList)) = true := bl_eq (by assumption) (by assumption)))
          clear c17
          exact absurd ((Option.some.inj H).trans hR_.out) (by decide)
        ·
         rw [if_neg c16] at H
         exact absurd H (by simp)
       ·
        rw [if_neg c15] at H
        exact absurd H (by simp)
      ·
       rw [if_neg c14] at H
       exact absurd H (by simp)
     ·
      rw [if_neg c12] at H
      have c12b0 : decide (x8_1 < (t322.length : Int)) = false := decide_eq_false c12
      clear c12
      have H' := Aside0.mk H
      clear H
      obtain ⟨Ao19, co19, eo19⟩ := Kd.R_slice HO_7.out
      subst eo19
      go_wp2
      repeat (go_quiet (fail); try go_wp2)
      go_loopg [9] k1 (fun kq v9 w' => ∃ (x9_2 : Int), v9 = .int .i64 x9_2 ∧ Aside0 (iceboxlaw24_FoldOn.l1 kq t319 (Int.tmod (wrap64 (a1)) (wrap64 ((t319.length : Int) + 1))) t322 x9_2 = some r) ∧ Aside0 (kq ≤ k1) ∧ Aside0 (Kd.S k70 70 w' w.heap.size (fun _ => True) (.slice Ao10 t319.length co10) t319) ∧ Aside0 (Kd.R k66 66 w' w.heap.size (fun _ => True) (.slice Ao19 t322.length co19) t322) ∧ Aside0 (Below w.heap.size w w'))
      case atStart => exact ⟨(0), (by first | rfl | (simp; done) | (simp [*]; done)), H', ⟨Nat.le_refl _⟩, ⟨by (with_reducible repeat (first | apply Kd.S_alloc | apply Kd.S_drewN | apply Kd.S_drew)); exact HO_5.out⟩, ⟨by (with_reducible repeat (first | apply Kd.R_alloc | apply Kd.R_drewN | apply Kd.R_drew)); exact HO_7.out⟩, ⟨by repeat (first | (with_reducible first | exact HB.out | apply below_alloc | apply pw_below_drewN | apply below_drew1) | exact HB.out | exact Below.refl _ _)⟩⟩
      case round =>
       clear H'
       obtain ⟨x9_2, rfl, HA, HK2, HO_5, HO_7, HB⟩ := hrel
       cases gk with
       | zero => exact absurd HA.out (by simp [iceboxlaw24_FoldOn.l1])
       | succ k2 =>
        have H := HA.out
        clear HA
        simp only [iceboxlaw24_FoldOn.l1] at H
        by_cases c20 : x9_2 < 11
        ·
         rw [if_pos c20] at H
         have c20b0 : decide (x9_2 < 11) = true := decide_eq_true c20
         clear c20
         replace H := Option.bind_eq_some_iff.mp H
         obtain ⟨t327, A210, H⟩ := H
         replace H : (if 1 + t327.size ≤ 9223372036854775807 then (if x9_2 ≥ 7 then ((iceboxref1_Digits.f k2 (wrap64 (x9_2 - 7))).bind fun t328 => (if 1 + t328.size ≤ 9223372036854775807 then (iceboxlaw24_FoldOn.j2 k2 t319 (Int.tmod (wrap64 (a1)) (wrap64 ((t319.length : Int) + 1))) t322 x9_2 ((⟨#[108]⟩ : ByteArray) ++ t328)) else (none))) else (iceboxlaw24_FoldOn.j2 k2 t319 (Int.tmod (wrap64 (a1)) (wrap64 ((t319.length : Int) + 1))) t322 x9_2 ((⟨#[107]⟩ : ByteArray) ++ t327))) else (none)) = some r := H
         have A21 := Aside0.mk A210
         clear A210
         by_cases c22 : 1 + t327.size ≤ 9223372036854775807
         ·
          rw [if_pos c22] at H
          have c22b0 := eq_true c22
          have c22b1 : decide (1 + t327.size ≤ 9223372036854775807) = true := decide_eq_true c22
          try have c22b2 : (9223372036854775807 < 1 + t327.size) = False := eq_false (Nat.not_lt.2 c22)
          have HC23 := Aside0.mk H
          clear H
          go_upto_if 58 with (first | (go_at_call 41; (with_reducible refine (iceboxref1_Digits.calls k2 x9_2 t327 _ A21.out).mono ?_); rintro e w24 ⟨rfl, hb⟩; have n0_ := Aside0.mk (Kd.S_below (by (with_reducible repeat (first | apply Kd.S_alloc | apply Kd.S_drewN | apply Kd.S_drew)); exact HO_5.out) hb); have n1_ := Aside0.mk (Kd.R_below (by (with_reducible repeat (first | apply Kd.R_alloc | apply Kd.R_drewN | apply Kd.R_drew)); exact HO_7.out) hb); have n2_ := Aside0.mk (below_step (by repeat (first | (with_reducible first | exact HB.out | apply below_alloc | apply pw_below_drewN | apply below_drew1) | exact HB.out | exact Below.refl _ _)) hb); clear HO_5; clear HO_7; clear HB; have HO_5 := n0_; have HO_7 := n1_; have HB := n2_; clear n0_ n1_ n2_; (try clear hb); (try clear hb2); (try clear hk); (try clear hi)))
          repeat (go_quiet (first | (go_at_call 41; (with_reducible refine (iceboxref1_Digits.calls k2 x9_2 t327 _ A21.out).mono ?_); rintro e w24 ⟨rfl, hb⟩; have n0_ := Aside0.mk (Kd.S_below (by (with_reducible repeat (first | apply Kd.S_alloc | apply Kd.S_drewN | apply Kd.S_drew)); exact HO_5.out) hb); have n1_ := Aside0.mk (Kd.R_below (by (with_reducible repeat (first | apply Kd.R_alloc | apply Kd.R_drewN | apply Kd.R_drew)); exact HO_7.out) hb); have n2_ := Aside0.mk (below_step (by repeat (first | (with_reducible first | exact HB.out | apply below_alloc | apply pw_below_drewN | apply below_drew1) | exact HB.out | exact Below.refl _ _)) hb); clear HO_5; clear HO_7; clear HB; have HO_5 := n0_; have HO_7 := n1_; have HB := n2_; clear n0_ n1_ n2_; (try clear hb); (try clear hb2); (try clear hk); (try clear hi))); go_upto_if 58 with (first | (go_at_call 41; (with_reducible refine (iceboxref1_Digits.calls k2 x9_2 t327 _ A21.out).mono ?_); rintro e w24 ⟨rfl, hb⟩; have n0_ := Aside0.mk (Kd.S_below (by (with_reducible repeat (first | apply Kd.S_alloc | apply Kd.S_drewN | apply Kd.S_drew)); exact HO_5.out) hb); have n1_ := Aside0.mk (Kd.R_below (by (with_reducible repeat (first | apply Kd.R_alloc | apply Kd.R_drewN | apply Kd.R_drew)); exact HO_7.out) hb); have n2_ := Aside0.mk (below_step (by repeat (first | (with_reducible first | exact HB.out | apply below_alloc | apply pw_below_drewN | apply below_drew1) | exact HB.out | exact Below.refl _ _)) hb); clear HO_5; clear HO_7; clear HB; have HO_5 := n0_; have HO_7 := n1_; have HB := n2_; clear n0_ n1_ n2_; (try clear hb); (try clear hb2); (try clear hk); (try clear hi))))
          (try simp only [Act.put, List.setIfInBounds_toArray, List.set_cons_zero, List.set_cons_succ])
          go_cut [10] (fun v10 wc => ∃ (kq : Nat) (x10_22 : ByteArray), v10 = .string x10_22 ∧ Aside0 (iceboxlaw24_FoldOn.j2 kq t319 (Int.tmod (wrap64 (a1)) (wrap64 ((t319.length : Int) + 1))) t322 x9_2 x10_22 = some r) ∧ Aside0 (kq ≤ k2) ∧ Aside0 (Kd.S k70 70 wc w.heap.size (fun _ => True) (.slice Ao10 t319.length co10) t319) ∧ Aside0 (Kd.R k66 66 wc w.heap.size (fun _ => True) (.slice Ao19 t322.length co19) t322) ∧ Aside0 (Below w.heap.size w wc))
          case first =>
           have H := HC23.out
           clear HC23
           by_cases c25 : x9_2 ≥ 7
           ·
            rw [if_pos c25] at H
            have c25b0 : decide (7 ≤ x9_2) = true := decide_eq_true c25
            clear c25
            (first | rw [c25b0] | (simp only [i64_w, i32_w]; rw [c25b0]) | skip)
            replace H := Option.bind_eq_some_iff.mp H
            obtain ⟨t328, A260, H⟩ := H
            replace H : (if 1 + t328.size ≤ 9223372036854775807 then (iceboxlaw24_FoldOn.j2 k2 t319 (Int.tmod (wrap64 (a1)) (wrap64 ((t319.length : Int) + 1))) t322 x9_2 ((⟨#[108]⟩ : ByteArray) ++ t328)) else (none)) = some r := H
            have A26 := Aside0.mk A260
            clear A260
            by_cases c27 : 1 + t328.size ≤ 9223372036854775807
            ·
             rw [if_pos c27] at H
             have c27b0 := eq_true c27
             have c27b1 : decide (1 + t328.size ≤ 9223372036854775807) = true := decide_eq_true c27
             try have c27b2 : (9223372036854775807 < 1 + t328.size) = False := eq_false (Nat.not_lt.2 c27)
             have H' := Aside0.mk H
             clear H
             go_wp2_with (first | (go_at_call 41; (with_reducible refine (iceboxref1_Digits.calls k2 (wrap64 (x9_2 - 7)) t328 _ A26.out).mono ?_); rintro e w28 ⟨rfl, hb⟩; have n0_ := Aside0.mk (Kd.S_below (by (with_reducible repeat (first | apply Kd.S_alloc | apply Kd.S_drewN | apply Kd.S_drew)); exact HO_5.out) hb); have n1_ := Aside0.mk (Kd.R_below (by (with_reducible repeat (first | apply Kd.R_alloc | apply Kd.R_drewN | apply Kd.R_drew)); exact HO_7.out) hb); have n2_ := Aside0.mk (below_step (by repeat (first | (with_reducible first | exact HB.out | apply below_alloc | apply pw_below_drewN | apply below_drew1) | exact HB.out | exact Below.refl _ _)) hb); clear HO_5; clear HO_7; clear HB; have HO_5 := n0_; have HO_7 := n1_; have HB := n2_; clear n0_ n1_ n2_; (try clear hb); (try clear hb2); (try clear hk); (try clear hi)))
             repeat (go_quiet (first | (go_at_call 41; (with_reducible refine (iceboxref1_Digits.calls k2 (wrap64 (x9_2 - 7)) t328 _ A26.out).mono ?_); rintro e w28 ⟨rfl, hb⟩; have n0_ := Aside0.mk (Kd.S_below (by (with_reducible repeat (first | apply Kd.S_alloc | apply Kd.S_drewN | apply Kd.S_drew)); exact HO_5.out) hb); have n1_ := Aside0.mk (Kd.R_below (by (with_reducible repeat (first | apply Kd.R_alloc | apply Kd.R_drewN | apply Kd.R_drew)); exact HO_7.out) hb); have n2_ := Aside0.mk (below_step (by repeat (first | (with_reducible first | exact HB.out | apply below_alloc | apply pw_below_drewN | apply below_drew1) | exact HB.out | exact Below.refl _ _)) hb); clear HO_5; clear HO_7; clear HB; have HO_5 := n0_; have HO_7 := n1_; have HB := n2_; clear n0_ n1_ n2_; (try clear hb); (try clear hb2); (try clear hk); (try clear hi))); try go_wp2_with (first | (go_at_call 41; (with_reducible refine (iceboxref1_Digits.calls k2 (wrap64 (x9_2 - 7)) t328 _ A26.out).mono ?_); rintro e w28 ⟨rfl, hb⟩; have n0_ := Aside0.mk (Kd.S_below (by (with_reducible repeat (first | apply Kd.S_alloc | apply Kd.S_drewN | apply Kd.S_drew)); exact HO_5.out) hb); have n1_ := Aside0.mk (Kd.R_below (by (with_reducible repeat (first | apply Kd.R_alloc | apply Kd.R_drewN | apply Kd.R_drew)); exact HO_7.out) hb); have n2_ := Aside0.mk (below_step (by repeat (first | (with_reducible first | exact HB.out | apply below_alloc | apply pw_below_drewN | apply below_drew1) | exact HB.out | exact Below.refl _ _)) hb); clear HO_5; clear HO_7; clear HB; have HO_5 := n0_; have HO_7 := n1_; have HB := n2_; clear n0_ n1_ n2_; (try clear hb); (try clear hb2); (try clear hk); (try clear hi))))
             go_meet
             case rel => exact ⟨_, ((⟨#[108]⟩ : ByteArray) ++ t328), (by first | rfl | (simp; done) | (simp [*]; done)), H', ⟨by have := HK1.out; have := HK2.out; first | omega | exact Nat.le_refl _⟩, ⟨by (with_reducible repeat (first | apply Kd.S_alloc | apply Kd.S_drewN | apply Kd.S_drew)); exact HO_5.out⟩, ⟨by (with_reducible repeat (first | apply Kd.R_alloc | apply Kd.R_drewN | apply Kd.R_drew)); exact HO_7.out⟩, ⟨by repeat (first | (with_reducible first | exact HB.out | apply below_alloc | apply pw_below_drewN | apply below_drew1) | exact HB.out | exact Below.refl _ _)⟩⟩
            ·
             rw [if_neg c27] at H
             exact absurd H (by simp)
           ·
            rw [if_neg c25] at H
            have c25b0 : decide (7 ≤ x9_2) = false := decide_eq_false c25
            clear c25
            (first | rw [c25b0] | (simp only [i64_w, i32_w]; rw [c25b0]) | skip)
            have H' := Aside0.mk H
            clear H
            go_wp2
            repeat (go_quiet (fail); try go_wp2)
            go_meet
            case rel => exact ⟨_, ((⟨#[107]⟩ : ByteArray) ++ t327), (by first | rfl | (simp; done) | (simp [*]; done)), H', ⟨by have := HK1.out; have := HK2.out; first | omega | exact Nat.le_refl _⟩, ⟨by (with_reducible repeat (first | apply Kd.S_alloc | apply Kd.S_drewN | apply Kd.S_drew)); exact HO_5.out⟩, ⟨by (with_reducible repeat (first | apply Kd.R_alloc | apply Kd.R_drewN | apply Kd.R_drew)); exact HO_7.out⟩, ⟨by repeat (first | (with_reducible first | exact HB.out | apply below_alloc | apply pw_below_drewN | apply below_drew1) | exact HB.out | exact Below.refl _ _)⟩⟩
          case rest =>
           as_aux_lemma =>
            clear HC23
            obtain ⟨kq, x10_22, rfl, HA, HJ22, HO_5, HO_7, HB⟩ := hcut
            cases kq with
            | zero => exact absurd HA.out (by simp [iceboxlaw24_FoldOn.j2])
            | succ kj22 =>
             have H := HA.out
             clear HA
             simp only [iceboxlaw24_FoldOn.j2] at H
             have H' := Aside0.mk H
             clear H
             go_wp2
             repeat (go_quiet (fail); try go_wp2)
             go_loopg [11, 12, 13] kj22 (fun kq v11 v12 v13 w' => ∃ (x11_4 : ByteArray) (x12_4 : Bool) (x13_4 : Int), v11 = .string x11_4 ∧ v12 = .bool x12_4 ∧ v13 = .int .i64 x13_4 ∧ Aside0 (iceboxlaw24_FoldOn.l2 kq t319 (Int.tmod (wrap64 (a1)) (wrap64 ((t319.length : Int) + 1))) t322 x9_2 x10_22 x11_4 x12_4 x13_4 = some r) ∧ Aside0 (kq ≤ kj22) ∧ Aside0 (Kd.S k70 70 w' w.heap.size (fun _ => True) (.slice Ao10 t319.length co10) t319) ∧ Aside0 (Kd.R k66 66 w' w.heap.size (fun _ => True) (.slice Ao19 t322.length co19) t322) ∧ Aside0 (Below w.heap.size w w'))
             case atStart => exact ⟨((⟨#[]⟩ : ByteArray)), (false), (0), (by first | rfl | (simp; done) | (simp [*]; done)), (by first | rfl | (simp; done) | (simp [*]; done)), (by first | rfl | (simp; done) | (simp [*]; done)), H', ⟨Nat.le_refl _⟩, ⟨by (with_reducible repeat (first | apply Kd.S_alloc | apply Kd.S_drewN | apply Kd.S_drew)); exact HO_5.out⟩, ⟨by (with_reducible repeat (first | apply Kd.R_alloc | apply Kd.R_drewN | apply Kd.R_drew)); exact HO_7.out⟩, ⟨by repeat (first | (with_reducible first | exact HB.out | apply below_alloc | apply pw_below_drewN | apply below_drew1) | exact HB.out | exact Below.refl _ _)⟩⟩
             case round =>
              clear H'
              obtain ⟨x11_4, x12_4, x13_4, rfl, rfl, rfl, HA, HK4, HO_5, HO_7, HB⟩ := hrel
              cases gk with
              | zero => exact absurd HA.out (by simp [iceboxlaw24_FoldOn.l2])
              | succ k4 =>
               have H := HA.out
               clear HA
               simp only [iceboxlaw24_FoldOn.l2] at H
               by_cases c29 : x13_4 < (Int.tmod (wrap64 (a1)) (wrap64 ((t319.length : Int) + 1)))
               ·
                rw [if_pos c29] at H
                have c29b0 : decide (x13_4 < (Int.tmod (wrap64 (a1)) (wrap64 ((t319.length : Int) + 1)))) = true := decide_eq_true c29
                clear c29
                have H' := Aside0.mk H
                clear H
                go_wp2
                repeat (go_quiet (fail); try go_wp2)
                go_loopg [11, 12, 14] k4 (fun kq v11 v12 v14 w' => ∃ (x11_5 : ByteArray) (x12_5 : Bool) (x14_5 : Int), v11 = .string x11_5 ∧ v12 = .bool x12_5 ∧ v14 = .int .i64 x14_5 ∧ Aside0 (iceboxlaw24_FoldOn.l3 kq t319 (Int.tmod (wrap64 (a1)) (wrap64 ((t319.length : Int) + 1))) t322 x9_2 x10_22 x11_5 x12_5 x13_4 x14_5 = some r) ∧ Aside0 (kq ≤ k4) ∧ Aside0 (Kd.S k70 70 w' w.heap.size (fun _ => True) (.slice Ao10 t319.length co10) t319) ∧ Aside0 (Kd.R k66 66 w' w.heap.size (fun _ => True) (.slice Ao19 t322.length co19) t322) ∧ Aside0 (Below w.heap.size w w'))
                case atStart => exact ⟨(x11_4), (x12_4), (0), (by first | rfl | (simp; done) | (simp [*]; done)), (by first | rfl | (simp; done) | (simp [*]; done)), (by first | rfl | (simp; done) | (simp [*]; done)), H', ⟨Nat.le_refl _⟩, ⟨by (with_reducible repeat (first | apply Kd.S_alloc | apply Kd.S_drewN | apply Kd.S_drew)); exact HO_5.out⟩, ⟨by (with_reducible repeat (first | apply Kd.R_alloc | apply Kd.R_drewN | apply Kd.R_drew)); exact HO_7.out⟩, ⟨by repeat (first | (with_reducible first | exact HB.out | apply below_alloc | apply pw_below_drewN | apply below_drew1) | exact HB.out | exact Below.refl _ _)⟩⟩
                case round =>
                 clear H'
                 obtain ⟨x11_5, x12_5, x14_5, rfl, rfl, rfl, HA, HK5, HO_5, HO_7, HB⟩ := hrel
                 cases gk with
                 | zero => exact absurd HA.out (by simp [iceboxlaw24_FoldOn.l3])
                 | succ k5 =>
                  have H := HA.out
                  clear HA
                  simp only [iceboxlaw24_FoldOn.l3] at H
                  by_cases c30 : 0 ≤ x13_4
                  ·
                   rw [if_pos c30] at H
                   have c30b0 : decide (0 ≤ x13_4) = true := decide_eq_true c30
                   clear c30
                   by_cases c31 : x13_4 < (t319.length : Int)
                   ·
                    rw [if_pos c31] at H
                    have c31b0 : decide (x13_4 < (t319.length : Int)) = true := decide_eq_true c31
                    clear c31
                    by_cases c32 : x14_5 < (((rd_T70 t319 x13_4).f1).length : Int)
                    ·
                     rw [if_pos c32] at H
                     have c32b0 : decide (x14_5 < (((rd_T70 t319 x13_4).f1).length : Int)) = true := decide_eq_true c32
                     clear c32
                     by_cases c33 : 0 ≤ x14_5
                     ·
                      rw [if_pos c33] at H
                      have c33b0 : decide (0 ≤ x14_5) = true := decide_eq_true c33
                      clear c33
                      by_cases c34 : ((rd_T72 ((rd_T70 t319 x13_4).f1) x14_5).f1).toList = x10_22.toList
                      ·
                       rw [if_pos c34] at H
                       have c34b0 : (((rd_T72 ((rd_T70 t319 x13_4).f1) x14_5).f1).toList == x10_22.toList) = true := beq_iff_eq.mpr c34
                       have c34b1 : (((rd_T72 ((rd_T70 t319 x13_4).f1) x14_5).f1).toList != x10_22.toList) = false := bne_eq_false_iff_eq.mpr c34
                       clear c34
                       have H' := Aside0.mk H
                       clear H
                       have p331 : 0 ≤ (x13_4 : Int) := of_decide_eq_true (by first | (with_reducible assumption) | assumption)
                       have q331 : x13_4 < (t319.length : Int) := of_decide_eq_true (by first | (with_reducible assumption) | assumption)
                       obtain ⟨ad331, A331_1, c331_1, e331, hx331_0, hx331_1, hl331_1, hi331_1⟩ := at_T70 (Kd.S_reads' HO_5.out).2.2 x13_4 p331 q331
                       cases e331
                       obtain ⟨ce331, hce331, hMe331, hcc331⟩ := Kd.S_get HO_5.out z70 x13_4 p331 (by first | exact q331 | exact of_decide_eq_true (by first | (with_reducible assumption) | assumption) | (have e_ := (Kd.S_reads' HO_5.out).1; omega))
                       obtain ⟨ve331_1, rfl, ge331_1⟩ := k70_openM hMe331
                       have hv331_1 := hcc331 1 _ rfl
                       rw [add_field _ _ 1 (by omega)] at hv331_1
                       replace hv331_1 := Option.some.inj (hv331_1.symm.trans hx331_1)
                       rw [hv331_1] at ge331_1
                       have HL331_1 := Aside0.mk (show Kd.R k72 72 _ _ _ _ ((rd_T70 t319 x13_4).f1) from ge331_1)
                       clear hv331_1 ge331_1
                       clear hcc331 hce331
                       have HR331_1 := Aside0.mk hi331_1
                       have HC331_1 := Aside0.mk hl331_1
                       clear hi331_1 hl331_1
                       replace p331 := eq_true p331
                       replace q331 := eq_true q331
                       have p332 : 0 ≤ (x13_4 : Int) := of_decide_eq_true (by first | (with_reducible assumption) | assumption)
                       have q332 : x13_4 < (t319.length : Int) := of_decide_eq_true (by first | (with_reducible assumption) | assumption)
                       obtain ⟨ad332, A332_1, c332_1, e332, hx332_0, hx332_1, hl332_1, hi332_1⟩ := at_T70 (Kd.S_reads' HO_5.out).2.2 x13_4 p332 q332
                       obtain rfl : ad331 = ad332 := (by injection e332)
                       obtain ⟨ce332, hce332, hMe332, hcc332⟩ := Kd.S_get HO_5.out z70 x13_4 p332 (by first | exact q332 | exact of_decide_eq_true (by first | (with_reducible assumption) | assumption) | (have e_ := (Kd.S_reads' HO_5.out).1; omega))
                       obtain ⟨ve332_1, rfl, ge332_1⟩ := k70_openM hMe332
                       have hv332_1 := hcc332 1 _ rfl
                       rw [add_field _ _ 1 (by omega)] at hv332_1
                       replace hv332_1 := Option.some.inj (hv332_1.symm.trans hx332_1)
                       rw [hv332_1] at ge332_1
                       have HL332_1 := Aside0.mk (show Kd.R k72 72 _ _ _ _ ((rd_T70 t319 x13_4).f1) from ge332_1)
                       clear hv332_1 ge332_1
                       clear hcc332 hce332
                       have HR332_1 := Aside0.mk hi332_1
                       have HC332_1 := Aside0.mk hl332_1
                       clear hi332_1 hl332_1
                       replace p332 := eq_true p332
                       replace q332 := eq_true q332
                       have ea_ := Option.some.inj (hx331_1.symm.trans hx332_1)
                       injection ea_ with ea_ en_ ec_
                       subst ea_
                       subst ec_
                       clear en_
                       have p333 : 0 ≤ (x14_5 : Int) := of_decide_eq_true (by first | (with_reducible assumption) | assumption)
                       have q333 : x14_5 < (((rd_T70 t319 x13_4).f1).length : Int) := of_decide_eq_true (by first | (with_reducible assumption) | assumption)
                       obtain ⟨ad333, e333, hx333_0, hx333_1, hx333_2⟩ := at_T72 (by repeat (first | (with_reducible exact HR332_1.out) | (with_reducible refine Kd.C_alloc ?_ _) | (with_reducible refine Kd.C_drewN ?_ _) | (with_reducible refine Kd.C_drew ?_) | exact HR332_1.out)) x14_5 p333 q333
                       cases e333
                       replace p333 := eq_true p333
                       replace q333 := eq_true q333
                       have p334 : 0 ≤ (x13_4 : Int) := of_decide_eq_true (by first | (with_reducible assumption) | assumption)
                       have q334 : x13_4 < (t319.length : Int) := of_decide_eq_true (by first | (with_reducible assumption) | assumption)
                       obtain ⟨ad334, A334_1, c334_1, e334, hx334_0, hx334_1, hl334_1, hi334_1⟩ := at_T70 (Kd.S_reads' HO_5.out).2.2 x13_4 p334 q334
                       obtain rfl : ad331 = ad334 := (by injection e334)
                       obtain ⟨ce334, hce334, hMe334, hcc334⟩ := Kd.S_get HO_5.out z70 x13_4 p334 (by first | exact q334 | exact of_decide_eq_true (by first | (with_reducible assumption) | assumption) | (have e_ := (Kd.S_reads' HO_5.out).1; omega))
                       obtain ⟨ve334_1, rfl, ge334_1⟩ := k70_openM hMe334
                       have hv334_1 := hcc334 1 _ rfl
                       rw [add_field _ _ 1 (by omega)] at hv334_1
                       replace hv334_1 := Option.some.inj (hv334_1.symm.trans hx334_1)
                       rw [hv334_1] at ge334_1
                       have HL334_1 := Aside0.mk (show Kd.R k72 72 _ _ _ _ ((rd_T70 t319 x13_4).f1) from ge334_1)
                       clear hv334_1 ge334_1
                       clear hcc334 hce334
                       have HR334_1 := Aside0.mk hi334_1
                       have HC334_1 := Aside0.mk hl334_1
                       clear hi334_1 hl334_1
                       replace p334 := eq_true p334
                       replace q334 := eq_true q334
                       have ea_ := Option.some.inj (hx331_1.symm.trans hx334_1)
                       injection ea_ with ea_ en_ ec_
                       subst ea_
                       subst ec_
                       clear en_
                       have p335 : 0 ≤ (x14_5 : Int) := of_decide_eq_true (by first | (with_reducible assumption) | assumption)
                       have q335 : x14_5 < (((rd_T70 t319 x13_4).f1).length : Int) := of_decide_eq_true (by first | (with_reducible assumption) | assumption)
                       obtain ⟨ad335, e335, hx335_0, hx335_1, hx335_2⟩ := at_T72 (by repeat (first | (with_reducible exact HR334_1.out) | (with_reducible refine Kd.C_alloc ?_ _) | (with_reducible refine Kd.C_drewN ?_ _) | (with_reducible refine Kd.C_drew ?_) | exact HR334_1.out)) x14_5 p335 q335
                       cases e335
                       replace p335 := eq_true p335
                       replace q335 := eq_true q335
                       have p336 : 0 ≤ (x13_4 : Int) := of_decide_eq_true (by first | (with_reducible assumption) | assumption)
                       have q336 : x13_4 < (t319.length : Int) := of_decide_eq_true (by first | (with_reducible assumption) | assumption)
                       obtain ⟨ad336, A336_1, c336_1, e336, hx336_0, hx336_1, hl336_1, hi336_1⟩ := at_T70 (Kd.S_reads' HO_5.out).2.2 x13_4 p336 q336
                       obtain rfl : ad331 = ad336 := (by injection e336)
                       obtain ⟨ce336, hce336, hMe336, hcc336⟩ := Kd.S_get HO_5.out z70 x13_4 p336 (by first | exact q336 | exact of_decide_eq_true (by first | (with_reducible assumption) | assumption) | (have e_ := (Kd.S_reads' HO_5.out).1; omega))
                       obtain ⟨ve336_1, rfl, ge336_1⟩ := k70_openM hMe336
                       have hv336_1 := hcc336 1 _ rfl
                       rw [add_field _ _ 1 (by omega)] at hv336_1
                       replace hv336_1 := Option.some.inj (hv336_1.symm.trans hx336_1)
                       rw [hv336_1] at ge336_1
                       have HL336_1 := Aside0.mk (show Kd.R k72 72 _ _ _ _ ((rd_T70 t319 x13_4).f1) from ge336_1)
                       clear hv336_1 ge336_1
                       clear hcc336 hce336
                       have HR336_1 := Aside0.mk hi336_1
                       have HC336_1 := Aside0.mk hl336_1
                       clear hi336_1 hl336_1
                       replace p336 := eq_true p336
                       replace q336 := eq_true q336
                       have ea_ := Option.some.inj (hx331_1.symm.trans hx336_1)
                       injection ea_ with ea_ en_ ec_
                       subst ea_
                       subst ec_
                       clear en_
                       have p337 : 0 ≤ (x14_5 : Int) := of_decide_eq_true (by first | (with_reducible assumption) | assumption)
                       have q337 : x14_5 < (((rd_T70 t319 x13_4).f1).length : Int) := of_decide_eq_true (by first | (with_reducible assumption) | assumption)
                       obtain ⟨ad337, e337, hx337_0, hx337_1, hx337_2⟩ := at_T72 (by repeat (first | (with_reducible exact HR336_1.out) | (with_reducible refine Kd.C_alloc ?_ _) | (with_reducible refine Kd.C_drewN ?_ _) | (with_reducible refine Kd.C_drew ?_) | exact HR336_1.out)) x14_5 p337 q337
                       cases e337
                       replace p337 := eq_true p337
                       replace q337 := eq_true q337
                       go_wp2
                       repeat (go_quiet (fail); try go_wp2)
                       go_roundg k5
                       case measure => have := HK1.out; have := HK2.out; have := HJ22.out; have := HK4.out; have := HK5.out; omega
                       case rel => exact ⟨((rd_T72 ((rd_T70 t319 x13_4).f1) x14_5).f2), ((((rd_T72 ((rd_T70 t319 x13_4).f1) x14_5).f0) == 1)), (wrap64 (x14_5 + 1)), (by first | rfl | (simp; done) | (simp [*]; done)), (by first | rfl | (simp; done) | (simp [*]; done)), (by first | rfl | (simp; done) | (simp [*]; done)), H', ⟨by have := HK1.out; have := HK2.out; have := HJ22.out; have := HK4.out; have := HK5.out; omega⟩, ⟨by (with_reducible repeat (first | apply Kd.S_alloc | apply Kd.S_drewN | apply Kd.S_drew)); exact HO_5.out⟩, ⟨by (with_reducible repeat (first | apply Kd.R_alloc | apply Kd.R_drewN | apply Kd.R_drew)); exact HO_7.out⟩, ⟨by repeat (first | (with_reducible first | exact HB.out | apply below_alloc | apply pw_below_drewN | apply below_drew1) | exact HB.out | exact Below.refl _ _)⟩⟩
                      ·
                       rw [if_neg c34] at H
                       have c34b0 : (((rd_T72 ((rd_T70 t319 x13_4).f1) x14_5).f1).toList == x10_22.toList) = false := beq_eq_false_iff_ne.mpr c34
                       have c34b1 : (((rd_T72 ((rd_T70 t319 x13_4).f1) x14_5).f1).toList != x10_22.toList) = true := bne_iff_ne.mpr c34
                       have H' := Aside0.mk H
                       clear H
                       have p331 : 0 ≤ (x13_4 : Int) := of_decide_eq_true (by first | (with_reducible assumption) | assumption)
                       have q331 : x13_4 < (t319.length : Int) := of_decide_eq_true (by first | (with_reducible assumption) | assumption)
                       obtain ⟨ad331, A331_1, c331_1, e331, hx331_0, hx331_1, hl331_1, hi331_1⟩ := at_T70 (Kd.S_reads' HO_5.out).2.2 x13_4 p331 q331
                       cases e331
                       obtain ⟨ce331, hce331, hMe331, hcc331⟩ := Kd.S_get HO_5.out z70 x13_4 p331 (by first | exact q331 | exact of_decide_eq_true (by first | (with_reducible assumption) | assumption) | (have e_ := (Kd.S_reads' HO_5.out).1; omega))
                       obtain ⟨ve331_1, rfl, ge331_1⟩ := k70_openM hMe331
                       have hv331_1 := hcc331 1 _ rfl
                       rw [add_field _ _ 1 (by omega)] at hv331_1
                       replace hv331_1 := Option.some.inj (hv331_1.symm.trans hx331_1)
                       rw [hv331_1] at ge331_1
                       have HL331_1 := Aside0.mk (show Kd.R k72 72 _ _ _ _ ((rd_T70 t319 x13_4).f1) from ge331_1)
                       clear hv331_1 ge331_1
                       clear hcc331 hce331
                       have HR331_1 := Aside0.mk hi331_1
                       have HC331_1 := Aside0.mk hl331_1
                       clear hi331_1 hl331_1
                       replace p331 := eq_true p331
                       replace q331 := eq_true q331
                       have p332 : 0 ≤ (x13_4 : Int) := of_decide_eq_true (by first | (with_reducible assumption) | assumption)
                       have q332 : x13_4 < (t319.length : Int) := of_decide_eq_true (by first | (with_reducible assumption) | assumption)
                       obtain ⟨ad332, A332_1, c332_1, e332, hx332_0, hx332_1, hl332_1, hi332_1⟩ := at_T70 (Kd.S_reads' HO_5.out).2.2 x13_4 p332 q332
                       obtain rfl : ad331 = ad332 := (by injection e332)
                       obtain ⟨ce332, hce332, hMe332, hcc332⟩ := Kd.S_get HO_5.out z70 x13_4 p332 (by first | exact q332 | exact of_decide_eq_true (by first | (with_reducible assumption) | assumption) | (have e_ := (Kd.S_reads' HO_5.out).1; omega))
                       obtain ⟨ve332_1, rfl, ge332_1⟩ := k70_openM hMe332
                       have hv332_1 := hcc332 1 _ rfl
                       rw [add_field _ _ 1 (by omega)] at hv332_1
                       replace hv332_1 := Option.some.inj (hv332_1.symm.trans hx332_1)
                       rw [hv332_1] at ge332_1
                       have HL332_1 := Aside0.mk (show Kd.R k72 72 _ _ _ _ ((rd_T70 t319 x13_4).f1) from ge332_1)
                       clear hv332_1 ge332_1
                       clear hcc332 hce332
                       have HR332_1 := Aside0.mk hi332_1
                       have HC332_1 := Aside0.mk hl332_1
                       clear hi332_1 hl332_1
                       replace p332 := eq_true p332
                       replace q332 := eq_true q332
                       have ea_ := Option.some.inj (hx331_1.symm.trans hx332_1)
                       injection ea_ with ea_ en_ ec_
                       subst ea_
                       subst ec_
                       clear en_
                       have p333 : 0 ≤ (x14_5 : Int) := of_decide_eq_true (by first | (with_reducible assumption) | assumption)
                       have q333 : x14_5 < (((rd_T70 t319 x13_4).f1).length : Int) := of_decide_eq_true (by first | (with_reducible assumption) | assumption)
                       obtain ⟨ad333, e333, hx333_0, hx333_1, hx333_2⟩ := at_T72 (by repeat (first | (with_reducible exact HR332_1.out) | (with_reducible refine Kd.C_alloc ?_ _) | (with_reducible refine Kd.C_drewN ?_ _) | (with_reducible refine Kd.C_drew ?_) | exact HR332_1.out)) x14_5 p333 q333
                       cases e333
                       replace p333 := eq_true p333
                       replace q333 := eq_true q333
                       go_wp2
                       repeat (go_quiet (fail); try go_wp2)
                       go_roundg k5
                       case measure => have := HK1.out; have := HK2.out; have := HJ22.out; have := HK4.out; have := HK5.out; omega
                       case rel => exact ⟨(x11_5), (x12_5), (wrap64 (x14_5 + 1)), (by first | rfl | (simp; done) | (simp [*]; done)), (by first | rfl | (simp; done) | (simp [*]; done)), (by first | rfl | (simp; done) | (simp [*]; done)), H', ⟨by have := HK1.out; have := HK2.out; have := HJ22.out; have := HK4.out; have := HK5.out; omega⟩, ⟨by (with_reducible repeat (first | apply Kd.S_alloc | apply Kd.S_drewN | apply Kd.S_drew)); exact HO_5.out⟩, ⟨by (with_reducible repeat (first | apply Kd.R_alloc | apply Kd.R_drewN | apply Kd.R_drew)); exact HO_7.out⟩, ⟨by repeat (first | (with_reducible first | exact HB.out | apply below_alloc | apply pw_below_drewN | apply below_drew1) | exact HB.out | exact Below.refl _ _)⟩⟩
                     ·
                      rw [if_neg c33] at H
                      exact absurd H (by simp)
                    ·
                     rw [if_neg c32] at H
                     have c32b0 : decide (x14_5 < (((rd_T70 t319 x13_4).f1).length : Int)) = false := decide_eq_false c32
                     clear c32
                     have H' := Aside0.mk H
                     clear H
                     have p331 : 0 ≤ (x13_4 : Int) := of_decide_eq_true (by first | (with_reducible assumption) | assumption)
                     have q331 : x13_4 < (t319.length : Int) := of_decide_eq_true (by first | (with_reducible assumption) | assumption)
                     obtain ⟨ad331, A331_1, c331_1, e331, hx331_0, hx331_1, hl331_1, hi331_1⟩ := at_T70 (Kd.S_reads' HO_5.out).2.2 x13_4 p331 q331
                     cases e331
                     obtain ⟨ce331, hce331, hMe331, hcc331⟩ := Kd.S_get HO_5.out z70 x13_4 p331 (by first | exact q331 | exact of_decide_eq_true (by first | (with_reducible assumption) | assumption) | (have e_ := (Kd.S_reads' HO_5.out).1; omega))
                     obtain ⟨ve331_1, rfl, ge331_1⟩ := k70_openM hMe331
                     have hv331_1 := hcc331 1 _ rfl
                     rw [add_field _ _ 1 (by omega)] at hv331_1
                     replace hv331_1 := Option.some.inj (hv331_1.symm.trans hx331_1)
                     rw [hv331_1] at ge331_1
                     have HL331_1 := Aside0.mk (show Kd.R k72 72 _ _ _ _ ((rd_T70 t319 x13_4).f1) from ge331_1)
                     clear hv331_1 ge331_1
                     clear hcc331 hce331
                     have HR331_1 := Aside0.mk hi331_1
                     have HC331_1 := Aside0.mk hl331_1
                     clear hi331_1 hl331_1
                     replace p331 := eq_true p331
                     replace q331 := eq_true q331
                     go_wp2
                     repeat (go_quiet (fail); try go_wp2)
                     go_roundg k5
                     case measure => have := HK1.out; have := HK2.out; have := HJ22.out; have := HK4.out; have := HK5.out; omega
                     case rel => exact ⟨(x11_5), (x12_5), (wrap64 (x13_4 + 1)), (by first | rfl | (simp; done) | (simp [*]; done)), (by first | rfl | (simp; done) | (simp [*]; done)), (by first | rfl | (simp; done) | (simp [*]; done)), H', ⟨by have := HK1.out; have := HK2.out; have := HJ22.out; have := HK4.out; have := HK5.out; omega⟩, ⟨by (with_reducible repeat (first | apply Kd.S_alloc | apply Kd.S_drewN | apply Kd.S_drew)); exact HO_5.out⟩, ⟨by (with_reducible repeat (first | apply Kd.R_alloc | apply Kd.R_drewN | apply Kd.R_drew)); exact HO_7.out⟩, ⟨by repeat (first | (with_reducible first | exact HB.out | apply below_alloc | apply pw_below_drewN | apply below_drew1) | exact HB.out | exact Below.refl _ _)⟩⟩
                   ·
                    rw [if_neg c31] at H
                    exact absurd H (by simp)
                  ·
                   rw [if_neg c30] at H
                   exact absurd H (by simp)
               ·
                rw [if_neg c29] at H
                have c29b0 : decide (x13_4 < (Int.tmod (wrap64 (a1)) (wrap64 ((t319.length : Int) + 1)))) = false := decide_eq_false c29
                clear c29
                replace H := Option.bind_eq_some_iff.mp H
                obtain ⟨⟨t329, t330⟩, A350, H⟩ := H
                replace H : (if (t330 != x12_4) = true then (some false) else (if t330 = true then (if t329.toList = x11_4.toList then (iceboxlaw24_FoldOn.l1 k4 t319 (Int.tmod (wrap64 (a1)) (wrap64 ((t319.length : Int) + 1))) t322 (wrap64 (x9_2 + 1))) else (some false)) else (iceboxlaw24_FoldOn.l1 k4 t319 (Int.tmod (wrap64 (a1)) (wrap64 ((t319.length : Int) + 1))) t322 (wrap64 (x9_2 + 1))))) = some r := H
                have A35 := Aside0.mk A350
                clear A350
                by_cases c36 : (t330 != x12_4) = true
                ·
                 rw [if_pos c36] at H
                 have c36b0 : (t330 != x12_4) = true := c36
                 (try (have c36b1 : decide (t330 = x12_4) = false := by simpa using c36))
                 (try (have c36b2 : (t330 == x12_4) = false := by simpa using c36))
                 (try (have c36b3 : ¬ (t330 = x12_4) := by simpa using c36))
                 clear c36
                 exact absurd ((Option.some.inj H).trans hR_.out) (by decide)
                ·
                 rw [if_neg c36] at H
                 have c36b0 : (t330 != x12_4) = false := by simpa using c36
                 (try (have c36b1 : decide (t330 = x12_4) = true := by simpa using c36))
                 (try (have c36b2 : (t330 == x12_4) = true := by simpa using c36))
                 clear c36
                 by_cases c37 : t330 = true
                 ·
                  subst c37
                  have H1 : (if t329.toList = x11_4.toList then (iceboxlaw24_FoldOn.l1 k4 t319 (Int.tmod (wrap64 (a1)) (wrap64 ((t319.length : Int) + 1))) t322 (wrap64 (x9_2 + 1))) else (some false)) = some r := by rw [if_pos rfl] at H; exact H
                  clear H
                  have H := H1
                  clear H1
                  by_cases c38 : t329.toList = x11_4.toList
                  ·
                   rw [if_pos c38] at H
                   have c38b0 : (t329.toList == x11_4.toList) = true := beq_iff_eq.mpr c38
                   have c38b1 : (t329.toList != x11_4.toList) = false := bne_eq_false_iff_eq.mpr c38
                   clear c38
                   have H' := Aside0.mk H
                   clear H
                   go_wp2_with (first | (go_at_call 42; (with_reducible refine (fold_Get.calls k4 _ _ t322 x10_22 t329 true _ ?side1 ?side2 A35.out).mono ?_); (case side1 => repeat (first | exact (Kd.R_reads' HO_7.out).2.2 | (with_reducible refine Kd.C_alloc ?_ _) | (with_reducible refine Kd.C_drewN ?_ _) | (with_reducible refine Kd.C_drew ?_))); (case side2 => exact (Kd.R_reads' HO_7.out).2.1); rintro e w39 ⟨rfl, hb⟩; have n0_ := Aside0.mk (Kd.S_below (by (with_reducible repeat (first | apply Kd.S_alloc | apply Kd.S_drewN | apply Kd.S_drew)); exact HO_5.out) hb); have n1_ := Aside0.mk (Kd.R_below (by (with_reducible repeat (first | apply Kd.R_alloc | apply Kd.R_drewN | apply Kd.R_drew)); exact HO_7.out) hb); have n2_ := Aside0.mk (below_step (by repeat (first | (with_reducible first | exact HB.out | apply below_alloc | apply pw_below_drewN | apply below_drew1) | exact HB.out | exact Below.refl _ _)) hb); clear HO_5; clear HO_7; clear HB; have HO_5 := n0_; have HO_7 := n1_; have HB := n2_; clear n0_ n1_ n2_; (try clear hb); (try clear hb2); (try clear hk); (try clear hi)))
                   repeat (go_quiet (first | (go_at_call 42; (with_reducible refine (fold_Get.calls k4 _ _ t322 x10_22 t329 true _ ?side1 ?side2 A35.out).mono ?_); (case side1 => repeat (first | exact (Kd.R_reads' HO_7.out).2.2 | (with_reducible refine Kd.C_alloc ?_ _) | (with_reducible refine Kd.C_drewN ?_ _) | (with_reducible refine Kd.C_drew ?_))); (case side2 => exact (Kd.R_reads' HO_7.out).2.1); rintro e w39 ⟨rfl, hb⟩; have n0_ := Aside0.mk (Kd.S_below (by (with_reducible repeat (first | apply Kd.S_alloc | apply Kd.S_drewN | apply Kd.S_drew)); exact HO_5.out) hb); have n1_ := Aside0.mk (Kd.R_below (by (with_reducible repeat (first | apply Kd.R_alloc | apply Kd.R_drewN | apply Kd.R_drew)); exact HO_7.out) hb); have n2_ := Aside0.mk (below_step (by repeat (first | (with_reducible first | exact HB.out | apply below_alloc | apply pw_below_drewN | apply below_drew1) | exact HB.out | exact Below.refl _ _)) hb); clear HO_5; clear HO_7; clear HB; have HO_5 := n0_; have HO_7 := n1_; have HB := n2_; clear n0_ n1_ n2_; (try clear hb); (try clear hb2); (try clear hk); (try clear hi))); try go_wp2_with (first | (go_at_call 42; (with_reducible refine (fold_Get.calls k4 _ _ t322 x10_22 t329 true _ ?side1 ?side2 A35.out).mono ?_); (case side1 => repeat (first | exact (Kd.R_reads' HO_7.out).2.2 | (with_reducible refine Kd.C_alloc ?_ _) | (with_reducible refine Kd.C_drewN ?_ _) | (with_reducible refine Kd.C_drew ?_))); (case side2 => exact (Kd.R_reads' HO_7.out).2.1); rintro e w39 ⟨rfl, hb⟩; have n0_ := Aside0.mk (Kd.S_below (by (with_reducible repeat (first | apply Kd.S_alloc | apply Kd.S_drewN | apply Kd.S_drew)); exact HO_5.out) hb); have n1_ := Aside0.mk (Kd.R_below (by (with_reducible repeat (first | apply Kd.R_alloc | apply Kd.R_drewN | apply Kd.R_drew)); exact HO_7.out) hb); have n2_ := Aside0.mk (below_step (by repeat (first | (with_reducible first | exact HB.out | apply below_alloc | apply pw_below_drewN | apply below_drew1) | exact HB.out | exact Below.refl _ _)) hb); clear HO_5; clear HO_7; clear HB; have HO_5 := n0_; have HO_7 := n1_; have HB := n2_; clear n0_ n1_ n2_; (try clear hb); (try clear hb2); (try clear hk); (try clear hi))))
                   go_roundg k4
                   case measure => have := HK1.out; have := HK2.out; have := HJ22.out; have := HK4.out; omega
                   case rel => exact ⟨(wrap64 (x9_2 + 1)), (by first | rfl | (simp; done) | (simp [*]; done)), H', ⟨by have := HK1.out; have := HK2.out; have := HJ22.out; have := HK4.out; omega⟩, ⟨by (with_reducible repeat (first | apply Kd.S_alloc | apply Kd.S_drewN | apply Kd.S_drew)); exact HO_5.out⟩, ⟨by (with_reducible repeat (first | apply Kd.R_alloc | apply Kd.R_drewN | apply Kd.R_drew)); exact HO_7.out⟩, ⟨by repeat (first | (with_reducible first | exact HB.out | apply below_alloc | apply pw_below_drewN | apply below_drew1) | exact HB.out | exact Below.refl _ _)⟩⟩
                  ·
                   rw [if_neg c38] at H
                   have c38b0 : (t329.toList == x11_4.toList) = false := beq_eq_false_iff_ne.mpr c38
                   have c38b1 : (t329.toList != x11_4.toList) = true := bne_iff_ne.mpr c38
                   exact absurd ((Option.some.inj H).trans hR_.out) (by decide)
                 ·
                  replace c37 := Bool.eq_false_iff.mpr c37
                  subst c37
                  have H1 : (iceboxlaw24_FoldOn.l1 k4 t319 (Int.tmod (wrap64 (a1)) (wrap64 ((t319.length : Int) + 1))) t322 (wrap64 (x9_2 + 1))) = some r := by rw [if_neg (show ¬ (false = true) by decide)] at H; exact H
                  clear H
                  have H := H1
                  clear H1
                  have H' := Aside0.mk H
                  clear H
                  go_wp2_with (first | (go_at_call 42; (with_reducible refine (fold_Get.calls k4 _ _ t322 x10_22 t329 false _ ?side1 ?side2 A35.out).mono ?_); (case side1 => repeat (first | exact (Kd.R_reads' HO_7.out).2.2 | (with_reducible refine Kd.C_alloc ?_ _) | (with_reducible refine Kd.C_drewN ?_ _) | (with_reducible refine Kd.C_drew ?_))); (case side2 => exact (Kd.R_reads' HO_7.out).2.1); rintro e w40 ⟨rfl, hb⟩; have n0_ := Aside0.mk (Kd.S_below (by (with_reducible repeat (first | apply Kd.S_alloc | apply Kd.S_drewN | apply Kd.S_drew)); exact HO_5.out) hb); have n1_ := Aside0.mk (Kd.R_below (by (with_reducible repeat (first | apply Kd.R_alloc | apply Kd.R_drewN | apply Kd.R_drew)); exact HO_7.out) hb); have n2_ := Aside0.mk (below_step (by repeat (first | (with_reducible first | exact HB.out | apply below_alloc | apply pw_below_drewN | apply below_drew1) | exact HB.out | exact Below.refl _ _)) hb); clear HO_5; clear HO_7; clear HB; have HO_5 := n0_; have HO_7 := n1_; have HB := n2_; clear n0_ n1_ n2_; (try clear hb); (try clear hb2); (try clear hk); (try clear hi)))
                  repeat (go_quiet (first | (go_at_call 42; (with_reducible refine (fold_Get.calls k4 _ _ t322 x10_22 t329 false _ ?side1 ?side2 A35.out).mono ?_); (case side1 => repeat (first | exact (Kd.R_reads' HO_7.out).2.2 | (with_reducible refine Kd.C_alloc ?_ _) | (with_reducible refine Kd.C_drewN ?_ _) | (with_reducible refine Kd.C_drew ?_))); (case side2 => exact (Kd.R_reads' HO_7.out).2.1); rintro e w40 ⟨rfl, hb⟩; have n0_ := Aside0.mk (Kd.S_below (by (with_reducible repeat (first | apply Kd.S_alloc | apply Kd.S_drewN | apply Kd.S_drew)); exact HO_5.out) hb); have n1_ := Aside0.mk (Kd.R_below (by (with_reducible repeat (first | apply Kd.R_alloc | apply Kd.R_drewN | apply Kd.R_drew)); exact HO_7.out) hb); have n2_ := Aside0.mk (below_step (by repeat (first | (with_reducible first | exact HB.out | apply below_alloc | apply pw_below_drewN | apply below_drew1) | exact HB.out | exact Below.refl _ _)) hb); clear HO_5; clear HO_7; clear HB; have HO_5 := n0_; have HO_7 := n1_; have HB := n2_; clear n0_ n1_ n2_; (try clear hb); (try clear hb2); (try clear hk); (try clear hi))); try go_wp2_with (first | (go_at_call 42; (with_reducible refine (fold_Get.calls k4 _ _ t322 x10_22 t329 false _ ?side1 ?side2 A35.out).mono ?_); (case side1 => repeat (first | exact (Kd.R_reads' HO_7.out).2.2 | (with_reducible refine Kd.C_alloc ?_ _) | (with_reducible refine Kd.C_drewN ?_ _) | (with_reducible refine Kd.C_drew ?_))); (case side2 => exact (Kd.R_reads' HO_7.out).2.1); rintro e w40 ⟨rfl, hb⟩; have n0_ := Aside0.mk (Kd.S_below (by (with_reducible repeat (first | apply Kd.S_alloc | apply Kd.S_drewN | apply Kd.S_drew)); exact HO_5.out) hb); have n1_ := Aside0.mk (Kd.R_below (by (with_reducible repeat (first | apply Kd.R_alloc | apply Kd.R_drewN | apply Kd.R_drew)); exact HO_7.out) hb); have n2_ := Aside0.mk (below_step (by repeat (first | (with_reducible first | exact HB.out | apply below_alloc | apply pw_below_drewN | apply below_drew1) | exact HB.out | exact Below.refl _ _)) hb); clear HO_5; clear HO_7; clear HB; have HO_5 := n0_; have HO_7 := n1_; have HB := n2_; clear n0_ n1_ n2_; (try clear hb); (try clear hb2); (try clear hk); (try clear hi))))
                  go_roundg k4
                  case measure => have := HK1.out; have := HK2.out; have := HJ22.out; have := HK4.out; omega
                  case rel => exact ⟨(wrap64 (x9_2 + 1)), (by first | rfl | (simp; done) | (simp [*]; done)), H', ⟨by have := HK1.out; have := HK2.out; have := HJ22.out; have := HK4.out; omega⟩, ⟨by (with_reducible repeat (first | apply Kd.S_alloc | apply Kd.S_drewN | apply Kd.S_drew)); exact HO_5.out⟩, ⟨by (with_reducible repeat (first | apply Kd.R_alloc | apply Kd.R_drewN | apply Kd.R_drew)); exact HO_7.out⟩, ⟨by repeat (first | (with_reducible first | exact HB.out | apply below_alloc | apply pw_below_drewN | apply below_drew1) | exact HB.out | exact Below.refl _ _)⟩⟩
         ·
          rw [if_neg c22] at H
          exact absurd H (by simp)
        ·
         rw [if_neg c20] at H
         have c20b0 : decide (x9_2 < 11) = false := decide_eq_false c20
         clear c20
         replace H := Option.bind_eq_some_iff.mp H
         obtain ⟨t338, A410, H⟩ := H
         replace H : ((fold_Fold.f k2 t319 (t319.length : Int)).bind fun t341 => ((iceboxref1_Pairs.f k2 t338 t341).bind fun t344 => (if t344 = true then ((fold_Fold.f k2 t319 (-1)).bind fun t345 => (if (t345.length : Int) = 0 then ((iceboxlaw24_awake.f k2).bind fun t348 => (some t348)) else (some false))) else (some false)))) = some r := H
         have A41 := Aside0.mk A410
         clear A410
         replace H := Option.bind_eq_some_iff.mp H
         obtain ⟨t341, A420, H⟩ := H
         replace H : ((iceboxref1_Pairs.f k2 t338 t341).bind fun t344 => (if t344 = true then ((fold_Fold.f k2 t319 (-1)).bind fun t345 => (if (t345.length : Int) = 0 then ((iceboxlaw24_awake.f k2).bind fun t348 => (some t348)) else (some false))) else (some false))) = some r := H
         have A42 := Aside0.mk A420
         clear A420
         replace H := Option.bind_eq_some_iff.mp H
         obtain ⟨t344, A430, H⟩ := H
         replace H : (if t344 = true then ((fold_Fold.f k2 t319 (-1)).bind fun t345 => (if (t345.length : Int) = 0 then ((iceboxlaw24_awake.f k2).bind fun t348 => (some t348)) else (some false))) else (some false)) = some r := H
         have A43 := Aside0.mk A430
         clear A430
         by_cases c44 : t344 = true
         ·
          subst c44
          have H1 : ((fold_Fold.f k2 t319 (-1)).bind fun t345 => (if (t345.length : Int) = 0 then ((iceboxlaw24_awake.f k2).bind fun t348 => (some t348)) else (some false))) = some r := by rw [if_pos rfl] at H; exact H
          clear H
          have H := H1
          clear H1
          replace H := Option.bind_eq_some_iff.mp H
          obtain ⟨t345, A450, H⟩ := H
          replace H : (if (t345.length : Int) = 0 then ((iceboxlaw24_awake.f k2).bind fun t348 => (some t348)) else (some false)) = some r := H
          have A45 := Aside0.mk A450
          clear A450
          by_cases c46 : (t345.length : Int) = 0
          ·
           rw [if_pos c46] at H
           have c46b0 : ((t345.length : Int) == 0) = true := beq_iff_eq.mpr c46
           have c46b1 : ((t345.length : Int) != 0) = false := bne_eq_false_iff_eq.mpr c46
           clear c46
           replace H := Option.bind_eq_some_iff.mp H
           obtain ⟨t348, A470, H⟩ := H
           replace H : (some t348) = some r := H
           have A47 := Aside0.mk A470
           clear A470
           obtain rfl := Option.some.inj H
           go_wp2_with (first | (go_at_call 40; (with_reducible refine (fold_Fold.calls k2 _ _ t319 (wrap64 ((t319.length : Int) + 5)) t338 _ ?side1 ?side2 A41.out).mono ?_); (case side1 => repeat (first | exact (Kd.S_reads' HO_5.out).2.2 | (with_reducible refine Kd.C_alloc ?_ _) | (with_reducible refine Kd.C_drewN ?_ _) | (with_reducible refine Kd.C_drew ?_))); (case side2 => exact (Kd.S_reads' HO_5.out).2.1); rintro e w48 ⟨v339, rfl, ho0, hb⟩; have n0_ := Aside0.mk (Kd.S_below (by (with_reducible repeat (first | apply Kd.S_alloc | apply Kd.S_drewN | apply Kd.S_drew)); exact HO_5.out) hb); have n1_ := Aside0.mk (Kd.R_elder' (by (with_reducible repeat (first | apply Kd.R_alloc | apply Kd.R_drewN | apply Kd.R_drew)); exact HO_7.out) (Kd.R_base ho0) hb); have n2_ := Aside0.mk (Kd.R_lower (Kd.R_new' ho0 (Kd.R_lt (by (with_reducible repeat (first | apply Kd.R_alloc | apply Kd.R_drewN | apply Kd.R_drew)); exact HO_7.out))) (below_size (by repeat (first | (with_reducible first | exact HB.out | apply below_alloc | apply pw_below_drewN | apply below_drew1) | exact HB.out | exact Below.refl _ _)))); have n3_ := Aside0.mk (below_step (by repeat (first | (with_reducible first | exact HB.out | apply below_alloc | apply pw_below_drewN | apply below_drew1) | exact HB.out | exact Below.refl _ _)) hb); clear HO_5; clear HO_7; clear HB; have HO_5 := n0_; have HO_7 := n1_; have HO340 := n2_; have HB := n3_; clear n0_ n1_ n2_ n3_; (try clear hb); (try clear hb2); (try clear hk); (try clear hi); (try clear ho0)) | (go_at_call 40; (with_reducible refine (fold_Fold.calls k2 _ _ t319 (t319.length : Int) t341 _ ?side1 ?side2 A42.out).mono ?_); (case side1 => repeat (first | exact (Kd.S_reads' HO_5.out).2.2 | (with_reducible refine Kd.C_alloc ?_ _) | (with_reducible refine Kd.C_drewN ?_ _) | (with_reducible refine Kd.C_drew ?_))); (case side2 => exact (Kd.S_reads' HO_5.out).2.1); rintro e w49 ⟨v342, rfl, ho0, hb⟩; have n0_ := Aside0.mk (Kd.S_below (by (with_reducible repeat (first | apply Kd.S_alloc | apply Kd.S_drewN | apply Kd.S_drew)); exact HO_5.out) hb); have n1_ := Aside0.mk (Kd.R_elder' (by (with_reducible repeat (first | apply Kd.R_alloc | apply Kd.R_drewN | apply Kd.R_drew)); exact HO_7.out) (Kd.R_base ho0) hb); have n2_ := Aside0.mk (Kd.R_elder' (by (with_reducible repeat (first | apply Kd.R_alloc | apply Kd.R_drewN | apply Kd.R_drew)); exact HO340.out) (Kd.R_base ho0) hb); have n3_ := Aside0.mk (Kd.R_lower (Kd.R_new' (Kd.R_new' ho0 (Kd.R_lt (by (with_reducible repeat (first | apply Kd.R_alloc | apply Kd.R_drewN | apply Kd.R_drew)); exact HO_7.out))) (Kd.R_lt (by (with_reducible repeat (first | apply Kd.R_alloc | apply Kd.R_drewN | apply Kd.R_drew)); exact HO340.out))) (below_size (by repeat (first | (with_reducible first | exact HB.out | apply below_alloc | apply pw_below_drewN | apply below_drew1) | exact HB.out | exact Below.refl _ _)))); have n4_ := Aside0.mk (below_step (by repeat (first | (with_reducible first | exact HB.out | apply below_alloc | apply pw_below_drewN | apply below_drew1) | exact HB.out | exact Below.refl _ _)) hb); clear HO_5; clear HO_7; clear HO340; clear HB; have HO_5 := n0_; have HO_7 := n1_; have HO340 := n2_; have HO343 := n3_; have HB := n4_; clear n0_ n1_ n2_ n3_ n4_; (try clear hb); (try clear hb2); (try clear hk); (try clear hi); (try clear ho0); obtain ⟨Ao50, co50, eo50⟩ := Kd.R_slice HO340.out; subst eo50; obtain ⟨Ao51, co51, eo51⟩ := Kd.R_slice HO343.out; subst eo51) | (go_at_call 43; (with_reducible refine (iceboxref1_Pairs.calls k2 _ _ t338 _ _ t341 true _ ?side1 ?side2 ?side3 ?side4 A43.out).mono ?_); (case side1 => repeat (first | exact (Kd.R_reads' HO340.out).2.2 | (with_reducible refine Kd.C_alloc ?_ _) | (with_reducible refine Kd.C_drewN ?_ _) | (with_reducible refine Kd.C_drew ?_))); (case side2 => exact (Kd.R_reads' HO340.out).2.1); (case side3 => repeat (first | exact (Kd.R_reads' HO343.out).2.2 | (with_reducible refine Kd.C_alloc ?_ _) | (with_reducible refine Kd.C_drewN ?_ _) | (with_reducible refine Kd.C_drew ?_))); (case side4 => exact (Kd.R_reads' HO343.out).2.1); rintro e w' ⟨rfl, ⟨nd, rfl⟩⟩; (try first | exact ⟨rfl, _, World.drewN_drewN _ _ _⟩ | exact ⟨rfl, _, Eq.trans (World.drewN_drewN _ _ _) (congrArg (World.drewN _) (Nat.add_assoc _ _ _))⟩)) | (go_at_call 40; (with_reducible refine (fold_Fold.calls k2 _ _ t319 (-1) t345 _ ?side1 ?side2 A45.out).mono ?_); (case side1 => repeat (first | exact (Kd.S_reads' HO_5.out).2.2 | (with_reducible refine Kd.C_alloc ?_ _) | (with_reducible refine Kd.C_drewN ?_ _) | (with_reducible refine Kd.C_drew ?_))); (case side2 => exact (Kd.S_reads' HO_5.out).2.1); rintro e w52 ⟨v346, rfl, ho0, hb⟩; have n0_ := Aside0.mk (Kd.S_below (by (with_reducible repeat (first | apply Kd.S_alloc | apply Kd.S_drewN | apply Kd.S_drew)); exact HO_5.out) hb); have n1_ := Aside0.mk (Kd.R_elder' (by (with_reducible repeat (first | apply Kd.R_alloc | apply Kd.R_drewN | apply Kd.R_drew)); exact HO_7.out) (Kd.R_base ho0) hb); have n2_ := Aside0.mk (Kd.R_elder' (by (with_reducible repeat (first | apply Kd.R_alloc | apply Kd.R_drewN | apply Kd.R_drew)); exact HO340.out) (Kd.R_base ho0) hb); have n3_ := Aside0.mk (Kd.R_elder' (by (with_reducible repeat (first | apply Kd.R_alloc | apply Kd.R_drewN | apply Kd.R_drew)); exact HO343.out) (Kd.R_base ho0) hb); have n4_ := Aside0.mk (Kd.R_lower (Kd.R_new' (Kd.R_new' (Kd.R_new' ho0 (Kd.R_lt (by (with_reducible repeat (first | apply Kd.R_alloc | apply Kd.R_drewN | apply Kd.R_drew)); exact HO_7.out))) (Kd.R_lt (by (with_reducible repeat (first | apply Kd.R_alloc | apply Kd.R_drewN | apply Kd.R_drew)); exact HO340.out))) (Kd.R_lt (by (with_reducible repeat (first | apply Kd.R_alloc | apply Kd.R_drewN | apply Kd.R_drew)); exact HO343.out))) (below_size (by repeat (first | (with_reducible first | exact HB.out | apply below_alloc | apply pw_below_drewN | apply below_drew1) | exact HB.out | exact Below.refl _ _)))); have n5_ := Aside0.mk (below_step (by repeat (first | (with_reducible first | exact HB.out | apply below_alloc | apply pw_below_drewN | apply below_drew1) | exact HB.out | exact Below.refl _ _)) hb); clear HO_5; clear HO_7; clear HO340; clear HO343; clear HB; have HO_5 := n0_; have HO_7 := n1_; have HO340 := n2_; have HO343 := n3_; have HO347 := n4_; have HB := n5_; clear n0_ n1_ n2_ n3_ n4_ n5_; (try clear hb); (try clear hb2); (try clear hk); (try clear hi); (try clear ho0); obtain ⟨Ao53, co53, eo53⟩ := Kd.R_slice HO347.out; subst eo53) | (go_at_call 38; (with_reducible refine (iceboxlaw24_awake.calls k2  t348 _ A47.out).mono ?_); rintro e w54 ⟨rfl, hb⟩; have n0_ := Aside0.mk (Kd.S_below (by (with_reducible repeat (first | apply Kd.S_alloc | apply Kd.S_drewN | apply Kd.S_drew)); exact HO_5.out) hb); have n1_ := Aside0.mk (Kd.R_below (by (with_reducible repeat (first | apply Kd.R_alloc | apply Kd.R_drewN | apply Kd.R_drew)); exact HO_7.out) hb); have n2_ := Aside0.mk (Kd.R_below (by (with_reducible repeat (first | apply Kd.R_alloc | apply Kd.R_drewN | apply Kd.R_drew)); exact HO340.out) hb); have n3_ := Aside0.mk (Kd.R_below (by (with_reducible repeat (first | apply Kd.R_alloc | apply Kd.R_drewN | apply Kd.R_drew)); exact HO343.out) hb); have n4_ := Aside0.mk (Kd.R_below (by (with_reducible repeat (first | apply Kd.R_alloc | apply Kd.R_drewN | apply Kd.R_drew)); exact HO347.out) hb); have n5_ := Aside0.mk (below_step (by repeat (first | (with_reducible first | exact HB.out | apply below_alloc | apply pw_below_drewN | apply below_drew1) | exact HB.out | exact Below.refl _ _)) hb); clear HO_5; clear HO_7; clear HO340; clear HO343; clear HO347; clear HB; have HO_5 := n0_; have HO_7 := n1_; have HO340 := n2_; have HO343 := n3_; have HO347 := n4_; have HB := n5_; clear n0_ n1_ n2_ n3_ n4_ n5_; (try clear hb); (try clear hb2); (try clear hk); (try clear hi)))
           repeat (go_quiet (first | (go_at_call 40; (with_reducible refine (fold_Fold.calls k2 _ _ t319 (wrap64 ((t319.length : Int) + 5)) t338 _ ?side1 ?side2 A41.out).mono ?_); (case side1 => repeat (first | exact (Kd.S_reads' HO_5.out).2.2 | (with_reducible refine Kd.C_alloc ?_ _) | (with_reducible refine Kd.C_drewN ?_ _) | (with_reducible refine Kd.C_drew ?_))); (case side2 => exact (Kd.S_reads' HO_5.out).2.1); rintro e w48 ⟨v339, rfl, ho0, hb⟩; have n0_ := Aside0.mk (Kd.S_below (by (with_reducible repeat (first | apply Kd.S_alloc | apply Kd.S_drewN | apply Kd.S_drew)); exact HO_5.out) hb); have n1_ := Aside0.mk (Kd.R_elder' (by (with_reducible repeat (first | apply Kd.R_alloc | apply Kd.R_drewN | apply Kd.R_drew)); exact HO_7.out) (Kd.R_base ho0) hb); have n2_ := Aside0.mk (Kd.R_lower (Kd.R_new' ho0 (Kd.R_lt (by (with_reducible repeat (first | apply Kd.R_alloc | apply Kd.R_drewN | apply Kd.R_drew)); exact HO_7.out))) (below_size (by repeat (first | (with_reducible first | exact HB.out | apply below_alloc | apply pw_below_drewN | apply below_drew1) | exact HB.out | exact Below.refl _ _)))); have n3_ := Aside0.mk (below_step (by repeat (first | (with_reducible first | exact HB.out | apply below_alloc | apply pw_below_drewN | apply below_drew1) | exact HB.out | exact Below.refl _ _)) hb); clear HO_5; clear HO_7; clear HB; have HO_5 := n0_; have HO_7 := n1_; have HO340 := n2_; have HB := n3_; clear n0_ n1_ n2_ n3_; (try clear hb); (try clear hb2); (try clear hk); (try clear hi); (try clear ho0)) | (go_at_call 40; (with_reducible refine (fold_Fold.calls k2 _ _ t319 (t319.length : Int) t341 _ ?side1 ?side2 A42.out).mono ?_); (case side1 => repeat (first | exact (Kd.S_reads' HO_5.out).2.2 | (with_reducible refine Kd.C_alloc ?_ _) | (with_reducible refine Kd.C_drewN ?_ _) | (with_reducible refine Kd.C_drew ?_))); (case side2 => exact (Kd.S_reads' HO_5.out).2.1); rintro e w49 ⟨v342, rfl, ho0, hb⟩; have n0_ := Aside0.mk (Kd.S_below (by (with_reducible repeat (first | apply Kd.S_alloc | apply Kd.S_drewN | apply Kd.S_drew)); exact HO_5.out) hb); have n1_ := Aside0.mk (Kd.R_elder' (by (with_reducible repeat (first | apply Kd.R_alloc | apply Kd.R_drewN | apply Kd.R_drew)); exact HO_7.out) (Kd.R_base ho0) hb); have n2_ := Aside0.mk (Kd.R_elder' (by (with_reducible repeat (first | apply Kd.R_alloc | apply Kd.R_drewN | apply Kd.R_drew)); exact HO340.out) (Kd.R_base ho0) hb); have n3_ := Aside0.mk (Kd.R_lower (Kd.R_new' (Kd.R_new' ho0 (Kd.R_lt (by (with_reducible repeat (first | apply Kd.R_alloc | apply Kd.R_drewN | apply Kd.R_drew)); exact HO_7.out))) (Kd.R_lt (by (with_reducible repeat (first | apply Kd.R_alloc | apply Kd.R_drewN | apply Kd.R_drew)); exact HO340.out))) (below_size (by repeat (first | (with_reducible first | exact HB.out | apply below_alloc | apply pw_below_drewN | apply below_drew1) | exact HB.out | exact Below.refl _ _)))); have n4_ := Aside0.mk (below_step (by repeat (first | (with_reducible first | exact HB.out | apply below_alloc | apply pw_below_drewN | apply below_drew1) | exact HB.out | exact Below.refl _ _)) hb); clear HO_5; clear HO_7; clear HO340; clear HB; have HO_5 := n0_; have HO_7 := n1_; have HO340 := n2_; have HO343 := n3_; have HB := n4_; clear n0_ n1_ n2_ n3_ n4_; (try clear hb); (try clear hb2); (try clear hk); (try clear hi); (try clear ho0); obtain ⟨Ao50, co50, eo50⟩ := Kd.R_slice HO340.out; subst eo50; obtain ⟨Ao51, co51, eo51⟩ := Kd.R_slice HO343.out; subst eo51) | (go_at_call 43; (with_reducible refine (iceboxref1_Pairs.calls k2 _ _ t338 _ _ t341 true _ ?side1 ?side2 ?side3 ?side4 A43.out).mono ?_); (case side1 => repeat (first | exact (Kd.R_reads' HO340.out).2.2 | (with_reducible refine Kd.C_alloc ?_ _) | (with_reducible refine Kd.C_drewN ?_ _) | (with_reducible refine Kd.C_drew ?_))); (case side2 => exact (Kd.R_reads' HO340.out).2.1); (case side3 => repeat (first | exact (Kd.R_reads' HO343.out).2.2 | (with_reducible refine Kd.C_alloc ?_ _) | (with_reducible refine Kd.C_drewN ?_ _) | (with_reducible refine Kd.C_drew ?_))); (case side4 => exact (Kd.R_reads' HO343.out).2.1); rintro e w' ⟨rfl, ⟨nd, rfl⟩⟩; (try first | exact ⟨rfl, _, World.drewN_drewN _ _ _⟩ | exact ⟨rfl, _, Eq.trans (World.drewN_drewN _ _ _) (congrArg (World.drewN _) (Nat.add_assoc _ _ _))⟩)) | (go_at_call 40; (with_reducible refine (fold_Fold.calls k2 _ _ t319 (-1) t345 _ ?side1 ?side2 A45.out).mono ?_); (case side1 => repeat (first | exact (Kd.S_reads' HO_5.out).2.2 | (with_reducible refine Kd.C_alloc ?_ _) | (with_reducible refine Kd.C_drewN ?_ _) | (with_reducible refine Kd.C_drew ?_))); (case side2 => exact (Kd.S_reads' HO_5.out).2.1); rintro e w52 ⟨v346, rfl, ho0, hb⟩; have n0_ := Aside0.mk (Kd.S_below (by (with_reducible repeat (first | apply Kd.S_alloc | apply Kd.S_drewN | apply Kd.S_drew)); exact HO_5.out) hb); have n1_ := Aside0.mk (Kd.R_elder' (by (with_reducible repeat (first | apply Kd.R_alloc | apply Kd.R_drewN | apply Kd.R_drew)); exact HO_7.out) (Kd.R_base ho0) hb); have n2_ := Aside0.mk (Kd.R_elder' (by (with_reducible repeat (first | apply Kd.R_alloc | apply Kd.R_drewN | apply Kd.R_drew)); exact HO340.out) (Kd.R_base ho0) hb); have n3_ := Aside0.mk (Kd.R_elder' (by (with_reducible repeat (first | apply Kd.R_alloc | apply Kd.R_drewN | apply Kd.R_drew)); exact HO343.out) (Kd.R_base ho0) hb); have n4_ := Aside0.mk (Kd.R_lower (Kd.R_new' (Kd.R_new' (Kd.R_new' ho0 (Kd.R_lt (by (with_reducible repeat (first | apply Kd.R_alloc | apply Kd.R_drewN | apply Kd.R_drew)); exact HO_7.out))) (Kd.R_lt (by (with_reducible repeat (first | apply Kd.R_alloc | apply Kd.R_drewN | apply Kd.R_drew)); exact HO340.out))) (Kd.R_lt (by (with_reducible repeat (first | apply Kd.R_alloc | apply Kd.R_drewN | apply Kd.R_drew)); exact HO343.out))) (below_size (by repeat (first | (with_reducible first | exact HB.out | apply below_alloc | apply pw_below_drewN | apply below_drew1) | exact HB.out | exact Below.refl _ _)))); have n5_ := Aside0.mk (below_step (by repeat (first | (with_reducible first | exact HB.out | apply below_alloc | apply pw_below_drewN | apply below_drew1) | exact HB.out | exact Below.refl _ _)) hb); clear HO_5; clear HO_7; clear HO340; clear HO343; clear HB; have HO_5 := n0_; have HO_7 := n1_; have HO340 := n2_; have HO343 := n3_; have HO347 := n4_; have HB := n5_; clear n0_ n1_ n2_ n3_ n4_ n5_; (try clear hb); (try clear hb2); (try clear hk); (try clear hi); (try clear ho0); obtain ⟨Ao53, co53, eo53⟩ := Kd.R_slice HO347.out; subst eo53) | (go_at_call 38; (with_reducible refine (iceboxlaw24_awake.calls k2  t348 _ A47.out).mono ?_); rintro e w54 ⟨rfl, hb⟩; have n0_ := Aside0.mk (Kd.S_below (by (with_reducible repeat (first | apply Kd.S_alloc | apply Kd.S_drewN | apply Kd.S_drew)); exact HO_5.out) hb); have n1_ := Aside0.mk (Kd.R_below (by (with_reducible repeat (first | apply Kd.R_alloc | apply Kd.R_drewN | apply Kd.R_drew)); exact HO_7.out) hb); have n2_ := Aside0.mk (Kd.R_below (by (with_reducible repeat (first | apply Kd.R_alloc | apply Kd.R_drewN | apply Kd.R_drew)); exact HO340.out) hb); have n3_ := Aside0.mk (Kd.R_below (by (with_reducible repeat (first | apply Kd.R_alloc | apply Kd.R_drewN | apply Kd.R_drew)); exact HO343.out) hb); have n4_ := Aside0.mk (Kd.R_below (by (with_reducible repeat (first | apply Kd.R_alloc | apply Kd.R_drewN | apply Kd.R_drew)); exact HO347.out) hb); have n5_ := Aside0.mk (below_step (by repeat (first | (with_reducible first | exact HB.out | apply below_alloc | apply pw_below_drewN | apply below_drew1) | exact HB.out | exact Below.refl _ _)) hb); clear HO_5; clear HO_7; clear HO340; clear HO343; clear HO347; clear HB; have HO_5 := n0_; have HO_7 := n1_; have HO340 := n2_; have HO343 := n3_; have HO347 := n4_; have HB := n5_; clear n0_ n1_ n2_ n3_ n4_ n5_; (try clear hb); (try clear hb2); (try clear hk); (try clear hi))); try go_wp2_with (first | (go_at_call 40; (with_reducible refine (fold_Fold.calls k2 _ _ t319 (wrap64 ((t319.length : Int) + 5)) t338 _ ?side1 ?side2 A41.out).mono ?_); (case side1 => repeat (first | exact (Kd.S_reads' HO_5.out).2.2 | (with_reducible refine Kd.C_alloc ?_ _) | (with_reducible refine Kd.C_drewN ?_ _) | (with_reducible refine Kd.C_drew ?_))); (case side2 => exact (Kd.S_reads' HO_5.out).2.1); rintro e w48 ⟨v339, rfl, ho0, hb⟩; have n0_ := Aside0.mk (Kd.S_below (by (with_reducible repeat (first | apply Kd.S_alloc | apply Kd.S_drewN | apply Kd.S_drew)); exact HO_5.out) hb); have n1_ := Aside0.mk (Kd.R_elder' (by (with_reducible repeat (first | apply Kd.R_alloc | apply Kd.R_drewN | apply Kd.R_drew)); exact HO_7.out) (Kd.R_base ho0) hb); have n2_ := Aside0.mk (Kd.R_lower (Kd.R_new' ho0 (Kd.R_lt (by (with_reducible repeat (first | apply Kd.R_alloc | apply Kd.R_drewN | apply Kd.R_drew)); exact HO_7.out))) (below_size (by repeat (first | (with_reducible first | exact HB.out | apply below_alloc | apply pw_below_drewN | apply below_drew1) | exact HB.out | exact Below.refl _ _)))); have n3_ := Aside0.mk (below_step (by repeat (first | (with_reducible first | exact HB.out | apply below_alloc | apply pw_below_drewN | apply below_drew1) | exact HB.out | exact Below.refl _ _)) hb); clear HO_5; clear HO_7; clear HB; have HO_5 := n0_; have HO_7 := n1_; have HO340 := n2_; have HB := n3_; clear n0_ n1_ n2_ n3_; (try clear hb); (try clear hb2); (try clear hk); (try clear hi); (try clear ho0)) | (go_at_call 40; (with_reducible refine (fold_Fold.calls k2 _ _ t319 (t319.length : Int) t341 _ ?side1 ?side2 A42.out).mono ?_); (case side1 => repeat (first | exact (Kd.S_reads' HO_5.out).2.2 | (with_reducible refine Kd.C_alloc ?_ _) | (with_reducible refine Kd.C_drewN ?_ _) | (with_reducible refine Kd.C_drew ?_))); (case side2 => exact (Kd.S_reads' HO_5.out).2.1); rintro e w49 ⟨v342, rfl, ho0, hb⟩; have n0_ := Aside0.mk (Kd.S_below (by (with_reducible repeat (first | apply Kd.S_alloc | apply Kd.S_drewN | apply Kd.S_drew)); exact HO_5.out) hb); have n1_ := Aside0.mk (Kd.R_elder' (by (with_reducible repeat (first | apply Kd.R_alloc | apply Kd.R_drewN | apply Kd.R_drew)); exact HO_7.out) (Kd.R_base ho0) hb); have n2_ := Aside0.mk (Kd.R_elder' (by (with_reducible repeat (first | apply Kd.R_alloc | apply Kd.R_drewN | apply Kd.R_drew)); exact HO340.out) (Kd.R_base ho0) hb); have n3_ := Aside0.mk (Kd.R_lower (Kd.R_new' (Kd.R_new' ho0 (Kd.R_lt (by (with_reducible repeat (first | apply Kd.R_alloc | apply Kd.R_drewN | apply Kd.R_drew)); exact HO_7.out))) (Kd.R_lt (by (with_reducible repeat (first | apply Kd.R_alloc | apply Kd.R_drewN | apply Kd.R_drew)); exact HO340.out))) (below_size (by repeat (first | (with_reducible first | exact HB.out | apply below_alloc | apply pw_below_drewN | apply below_drew1) | exact HB.out | exact Below.refl _ _)))); have n4_ := Aside0.mk (below_step (by repeat (first | (with_reducible first | exact HB.out | apply below_alloc | apply pw_below_drewN | apply below_drew1) | exact HB.out | exact Below.refl _ _)) hb); clear HO_5; clear HO_7; clear HO340; clear HB; have HO_5 := n0_; have HO_7 := n1_; have HO340 := n2_; have HO343 := n3_; have HB := n4_; clear n0_ n1_ n2_ n3_ n4_; (try clear hb); (try clear hb2); (try clear hk); (try clear hi); (try clear ho0); obtain ⟨Ao50, co50, eo50⟩ := Kd.R_slice HO340.out; subst eo50; obtain ⟨Ao51, co51, eo51⟩ := Kd.R_slice HO343.out; subst eo51) | (go_at_call 43; (with_reducible refine (iceboxref1_Pairs.calls k2 _ _ t338 _ _ t341 true _ ?side1 ?side2 ?side3 ?side4 A43.out).mono ?_); (case side1 => repeat (first | exact (Kd.R_reads' HO340.out).2.2 | (with_reducible refine Kd.C_alloc ?_ _) | (with_reducible refine Kd.C_drewN ?_ _) | (with_reducible refine Kd.C_drew ?_))); (case side2 => exact (Kd.R_reads' HO340.out).2.1); (case side3 => repeat (first | exact (Kd.R_reads' HO343.out).2.2 | (with_reducible refine Kd.C_alloc ?_ _) | (with_reducible refine Kd.C_drewN ?_ _) | (with_reducible refine Kd.C_drew ?_))); (case side4 => exact (Kd.R_reads' HO343.out).2.1); rintro e w' ⟨rfl, ⟨nd, rfl⟩⟩; (try first | exact ⟨rfl, _, World.drewN_drewN _ _ _⟩ | exact ⟨rfl, _, Eq.trans (World.drewN_drewN _ _ _) (congrArg (World.drewN _) (Nat.add_assoc _ _ _))⟩)) | (go_at_call 40; (with_reducible refine (fold_Fold.calls k2 _ _ t319 (-1) t345 _ ?side1 ?side2 A45.out).mono ?_); (case side1 => repeat (first | exact (Kd.S_reads' HO_5.out).2.2 | (with_reducible refine Kd.C_alloc ?_ _) | (with_reducible refine Kd.C_drewN ?_ _) | (with_reducible refine Kd.C_drew ?_))); (case side2 => exact (Kd.S_reads' HO_5.out).2.1); rintro e w52 ⟨v346, rfl, ho0, hb⟩; have n0_ := Aside0.mk (Kd.S_below (by (with_reducible repeat (first | apply Kd.S_alloc | apply Kd.S_drewN | apply Kd.S_drew)); exact HO_5.out) hb); have n1_ := Aside0.mk (Kd.R_elder' (by (with_reducible repeat (first | apply Kd.R_alloc | apply Kd.R_drewN | apply Kd.R_drew)); exact HO_7.out) (Kd.R_base ho0) hb); have n2_ := Aside0.mk (Kd.R_elder' (by (with_reducible repeat (first | apply Kd.R_alloc | apply Kd.R_drewN | apply Kd.R_drew)); exact HO340.out) (Kd.R_base ho0) hb); have n3_ := Aside0.mk (Kd.R_elder' (by (with_reducible repeat (first | apply Kd.R_alloc | apply Kd.R_drewN | apply Kd.R_drew)); exact HO343.out) (Kd.R_base ho0) hb); have n4_ := Aside0.mk (Kd.R_lower (Kd.R_new' (Kd.R_new' (Kd.R_new' ho0 (Kd.R_lt (by (with_reducible repeat (first | apply Kd.R_alloc | apply Kd.R_drewN | apply Kd.R_drew)); exact HO_7.out))) (Kd.R_lt (by (with_reducible repeat (first | apply Kd.R_alloc | apply Kd.R_drewN | apply Kd.R_drew)); exact HO340.out))) (Kd.R_lt (by (with_reducible repeat (first | apply Kd.R_alloc | apply Kd.R_drewN | apply Kd.R_drew)); exact HO343.out))) (below_size (by repeat (first | (with_reducible first | exact HB.out | apply below_alloc | apply pw_below_drewN | apply below_drew1) | exact HB.out | exact Below.refl _ _)))); have n5_ := Aside0.mk (below_step (by repeat (first | (with_reducible first | exact HB.out | apply below_alloc | apply pw_below_drewN | apply below_drew1) | exact HB.out | exact Below.refl _ _)) hb); clear HO_5; clear HO_7; clear HO340; clear HO343; clear HB; have HO_5 := n0_; have HO_7 := n1_; have HO340 := n2_; have HO343 := n3_; have HO347 := n4_; have HB := n5_; clear n0_ n1_ n2_ n3_ n4_ n5_; (try clear hb); (try clear hb2); (try clear hk); (try clear hi); (try clear ho0); obtain ⟨Ao53, co53, eo53⟩ := Kd.R_slice HO347.out; subst eo53) | (go_at_call 38; (with_reducible refine (iceboxlaw24_awake.calls k2  t348 _ A47.out).mono ?_); rintro e w54 ⟨rfl, hb⟩; have n0_ := Aside0.mk (Kd.S_below (by (with_reducible repeat (first | apply Kd.S_alloc | apply Kd.S_drewN | apply Kd.S_drew)); exact HO_5.out) hb); have n1_ := Aside0.mk (Kd.R_below (by (with_reducible repeat (first | apply Kd.R_alloc | apply Kd.R_drewN | apply Kd.R_drew)); exact HO_7.out) hb); have n2_ := Aside0.mk (Kd.R_below (by (with_reducible repeat (first | apply Kd.R_alloc | apply Kd.R_drewN | apply Kd.R_drew)); exact HO340.out) hb); have n3_ := Aside0.mk (Kd.R_below (by (with_reducible repeat (first | apply Kd.R_alloc | apply Kd.R_drewN | apply Kd.R_drew)); exact HO343.out) hb); have n4_ := Aside0.mk (Kd.R_below (by (with_reducible repeat (first | apply Kd.R_alloc | apply Kd.R_drewN | apply Kd.R_drew)); exact HO347.out) hb); have n5_ := Aside0.mk (below_step (by repeat (first | (with_reducible first | exact HB.out | apply below_alloc | apply pw_below_drewN | apply below_drew1) | exact HB.out | exact Below.refl _ _)) hb); clear HO_5; clear HO_7; clear HO340; clear HO343; clear HO347; clear HB; have HO_5 := n0_; have HO_7 := n1_; have HO340 := n2_; have HO343 := n3_; have HO347 := n4_; have HB := n5_; clear n0_ n1_ n2_ n3_ n4_ n5_; (try clear hb); (try clear hb2); (try clear hk); (try clear hi))))
           go_ret
           exact ⟨by first | rfl | (simp [errW_none, errW_some] <;> rfl) | (simp [*, errW_none, errW_some] <;> rfl), by repeat (first | (with_reducible first | exact HB.out | apply below_alloc | apply pw_below_drewN | apply below_drew1) | exact HB.out | exact Below.refl _ _)⟩
          ·
           rw [if_neg c46] at H
           have c46b0 : ((t345.length : Int) == 0) = false := beq_eq_false_iff_ne.mpr c46
           have c46b1 : ((t345.length : Int) != 0) = true := bne_iff_ne.mpr c46
           have c46b2 : ¬ (t345 = []) := fun h_ => c46 (by rw [h_]; rfl)
           exact absurd ((Option.some.inj H).trans hR_.out) (by decide)
         ·
          replace c44 := Bool.eq_false_iff.mpr c44
          subst c44
          have H1 : (some false) = some r := by rw [if_neg (show ¬ (false = true) by decide)] at H; exact H
          clear H
          have H := H1
          clear H1
          exact absurd ((Option.some.inj H).trans hR_.out) (by decide)

/-- THE ONE PURE STATEMENT of iceboxlaw24_FoldOn: yours. -/
def iceboxlaw24_FoldOn.Pure : Prop := ∀ (l0 : List Int) (a1 : Int), l0.length ≤ maxLen → l0.length * 1 ≤ 140737488351232 → (∀ x ∈ l0, (Lit.int .u8 x).wf = true) → (Lit.int .u8 a1).wf = true → ∃ k, iceboxlaw24_FoldOn.f k l0 a1 = some true
theorem iceboxlaw24_FoldOn.walk (P : iceboxlaw24_FoldOn.Pure) (a0 : Option Addr) (len0 cap0 : Nat) (z0 : List Int) (a1 : Int) (w : World) (w0 : (a0 = none ∧ len0 = 0 ∧ cap0 = 0 ∧ z0 = []) ∨ ∃ x, a0 = some x ∧ len0 ≤ cap0 ∧ cap0 ≤ maxLen ∧ z0.length = cap0 ∧ (∀ i, i < z0.length → w.cell? (x.add i) = some (.int .u8 (z0.getD i 0))) ∧ ∀ n ∈ z0, (Lit.int .u8 n).wf = true) (y0 : len0 * 1 ≤ 140737488351232) (w1 : (Lit.int .u8 a1).wf = true) :
 Calls Try.prog 10 #[.slice a0 len0 cap0, .int .u8 a1] w fun e w' => e = .returned (.bool true) ∧ Below w.heap.size w w' := by
 obtain ⟨l0, rfl, hr0, hm0, hw0, hc0⟩ := ReadsInt.ofRowC w0
 obtain ⟨k, h⟩ := P l0 a1 hm0 y0 hw0 w1
 refine (iceboxlaw24_FoldOn.calls k _ _ l0 a1 true w ⟨rfl⟩ (Kd.C_of_reads (d := (0 : Int)) (h1 := fun _ => rfl) hr0) hc0 h).mono ?_
 rintro e w' ⟨rfl, hd⟩
 exact ⟨rfl, hd⟩

end Go.Proofs.Ytffnimaaolmbdaa.PFoldOn
