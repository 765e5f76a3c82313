/- The functions that a law reaches, as Lean functions, each with the contract that its Go code comes to just these answers. Written by a program of this claim's author (wip/mkprint.py). No conditions. -/
import Derived.Test.YtoomipmndapgnaaPMergePagesx0
import Derived.Test.YtoomipmndapgnaaPMergePagesx2
import Derived.Test.YtoomipmndapgnaaPMergePagesx7
import Derived.Test.YtoomipmndapgnaaPMergePagesx8
import Derived.Test.YtoomipmndapgnaaPMergePagesx9
namespace Go.Proofs.Ytoomipmndapgnaa.PMergePages
open Go.RowKit Go.Proofs.YtoomipmndapgnaaW.PrintWords Go.Proofs.YtoomipmndapgnaaW.PrintLast Go.Proofs.YtoomipmndapgnaaW.PrintMore
attribute [local go_sem] max2_int min2_int max_two min_two max_three min_three max_four min_four   -- for this text's walks alone
set_option linter.unusedVariables false
set_option linter.unusedSimpArgs false

/-! ### iceboxlaw15_MergePages: function 10 -/
def iceboxlaw15_MergePages.l0 : Nat → Int → List (S31) → Int → List (S47) → ByteArray → Int → Option (Bool)
 | 0, _, _, _, _, _, _ => none
 | k + 1, x1, x7, x8, x9, x10, x11 => if x11 ≤ (x7.length : Int) then ((merge_View.f k x7 (wrap64 (x1)) x10 (⟨#[]⟩ : ByteArray) false x8).bind fun t284 => (if (t284.length : Int) = 0 then ((iceboxref10_View.f k x7 (wrap64 (x1)) (⟨#[]⟩ : ByteArray) (⟨#[]⟩ : ByteArray) false 1000).bind fun t287 => ((iceboxref1_Pairs.f k x9 t287).bind fun t290 => (if t290 = true then ((iceboxlaw15_awake.f k).bind fun t291 => (some t291)) else (some false)))) else (if x9.length + t284.length < 4398046511104 then (if 0 ≤ (wrap64 ((t284.length : Int) - 1)) then (if (wrap64 ((t284.length : Int) - 1)) < (t284.length : Int) then (if ((rd_T47 t284 (wrap64 ((t284.length : Int) - 1))).f0).size + 1 ≤ 9223372036854775807 then (iceboxlaw15_MergePages.l0 k x1 x7 x8 (x9 ++ t284) (((rd_T47 t284 (wrap64 ((t284.length : Int) - 1))).f0) ++ (⟨#[0]⟩ : ByteArray)) (wrap64 (x11 + 1))) else (none)) else (none)) else (none)) else (none)))) else ((iceboxref10_View.f k x7 (wrap64 (x1)) (⟨#[]⟩ : ByteArray) (⟨#[]⟩ : ByteArray) false 1000).bind fun t296 => ((iceboxref1_Pairs.f k x9 t296).bind fun t299 => (if t299 = true then ((iceboxlaw15_awake.f k).bind fun t300 => (some t300)) else (some false))))
def iceboxlaw15_MergePages.f (k : Nat) (l0 : List Int) (a1 : Int) (a2 : Int) : Option (Bool) := if (l0.length : Int) > 60 then ((iceboxlaw15_awake.f k).bind fun t280 => (some t280)) else ((iceboxlaw12_Make.f k l0 30).bind fun t281 => (iceboxlaw15_MergePages.l0 k a1 t281 (wrap64 (1 + (Int.tmod (wrap64 (a2)) 6))) ([] : List (S47)) (⟨#[]⟩ : ByteArray) 0))
theorem iceboxlaw15_MergePages.mono_l : ∀ k, (∀ y0 y1 y2 y3 y4 y5, LeO (iceboxlaw15_MergePages.l0 k y0 y1 y2 y3 y4 y5) (iceboxlaw15_MergePages.l0 (k + 1) y0 y1 y2 y3 y4 y5))
 | 0 => fun _ _ _ _ _ _ r h => by simp [iceboxlaw15_MergePages.l0] at h
 | k + 1 => by
  have ih0 := iceboxlaw15_MergePages.mono_l k
  ·
   intro y0 y1 y2 y3 y4 y5
   unfold iceboxlaw15_MergePages.l0
   repeat' first
   | (with_reducible exact ih0 _ _ _ _ _ _)
   | (with_reducible exact iceboxlaw12_Make.mono _ _ _)
   | (with_reducible exact iceboxlaw15_awake.mono _)
   | (with_reducible exact iceboxref10_View.mono _ _ _ _ _ _ _)
   | (with_reducible exact iceboxref1_Pairs.mono _ _ _)
   | (with_reducible exact merge_View.mono _ _ _ _ _ _ _)
   | (with_reducible exact LeO.refl _)
   | (with_reducible exact LeO.none _)
   | (with_reducible refine LeO.ite ?_ ?_)
   | (with_reducible refine LeO.bind ?_ (fun _ => ?_))
   | exact ih0 _ _ _ _ _ _
   | exact iceboxlaw12_Make.mono _ _ _
   | exact iceboxlaw15_awake.mono _
   | exact iceboxref10_View.mono _ _ _ _ _ _ _
   | exact iceboxref1_Pairs.mono _ _ _
   | exact merge_View.mono _ _ _ _ _ _ _
   | exact LeO.none _
   | refine LeO.ite ?_ ?_
   | refine LeO.bind ?_ (fun _ => ?_)
theorem iceboxlaw15_MergePages.mono : ∀ a0 a1 a2 k, LeO (iceboxlaw15_MergePages.f k a0 a1 a2) (iceboxlaw15_MergePages.f (k + 1) a0 a1 a2) := by
 intro a0 a1 a2 k
 have ih0 := iceboxlaw15_MergePages.mono_l k
 unfold iceboxlaw15_MergePages.f
 repeat' first
  | (with_reducible exact ih0 _ _ _ _ _ _)
  | (with_reducible exact iceboxlaw12_Make.mono _ _ _)
  | (with_reducible exact iceboxlaw15_awake.mono _)
  | (with_reducible exact iceboxref10_View.mono _ _ _ _ _ _ _)
  | (with_reducible exact iceboxref1_Pairs.mono _ _ _)
  | (with_reducible exact merge_View.mono _ _ _ _ _ _ _)
  | (with_reducible exact LeO.refl _)
  | (with_reducible exact LeO.none _)
  | (with_reducible refine LeO.ite ?_ ?_)
  | (with_reducible refine LeO.bind ?_ (fun _ => ?_))
  | exact ih0 _ _ _ _ _ _
  | exact iceboxlaw12_Make.mono _ _ _
  | exact iceboxlaw15_awake.mono _
  | exact iceboxref10_View.mono _ _ _ _ _ _ _
  | exact iceboxref1_Pairs.mono _ _ _
  | exact merge_View.mono _ _ _ _ _ _ _
  | exact LeO.none _
  | refine LeO.ite ?_ ?_
  | refine LeO.bind ?_ (fun _ => ?_)
set_option maxHeartbeats 80000000 in
set_option maxRecDepth 100000 in
theorem iceboxlaw15_MergePages.calls (k : Nat) (A0 : Option Addr) (c0 : Nat) (l0 : List Int) (a1 : Int) (a2 : Int) (r : Bool) (w : World) (hR_ : Aside0 (r = true)) (hr0 : Kd.C (Kd.int .u8) w A0 l0.length l0) (hc0 : l0.length ≤ c0) (h : iceboxlaw15_MergePages.f k l0 a1 a2 = some r) :
 Calls Try.prog 10 #[.slice A0 l0.length c0, .int .u8 a1, .int .u8 a2] w fun e w' => e = .returned (.bool r) ∧ Below w.heap.size w w' := by
 have HR0 := Aside0.mk hr0
 have HC0 := Aside0.mk hc0
 clear hr0 hc0
 have HB := Aside0.mk (Below.refl w.heap.size w)
 have H : (if (l0.length : Int) > 60 then ((iceboxlaw15_awake.f k).bind fun t280 => (some t280)) else ((iceboxlaw12_Make.f k l0 30).bind fun t281 => (iceboxlaw15_MergePages.l0 k a1 t281 (wrap64 (1 + (Int.tmod (wrap64 (a2)) 6))) ([] : List (S47)) (⟨#[]⟩ : ByteArray) 0))) = some r := h
 clear h
 by_cases c4 : (l0.length : Int) > 60
 ·
  rw [if_pos c4] at H
  have c4b0 : decide (60 < (l0.length : Int)) = true := decide_eq_true c4
  have c4b1 : decide (60 < l0.length) = true := decide_eq_true (by omega)
  clear c4
  replace H := Option.bind_eq_some_iff.mp H
  obtain ⟨t280, A50, H⟩ := H
  replace H : (some t280) = some r := H
  have A5 := Aside0.mk A50
  clear A50
  obtain rfl := Option.some.inj H
  go_enter Try.func10, Try.ntmps10
  go_wp2_with (first | ((with_reducible refine gate_callee (f := 21) rfl ?_); refine goesL_ (some 16) rfl rfl Try.func21 (by kernel_rfl) rfl #[] rfl (by (try simp only [List.map_toArray, List.map_cons, List.map_nil]); first | done | rfl | (simp only [List.length_drop, List.length_take]; rfl)) ?_; (with_reducible refine (iceboxlaw15_awake.calls k  t280 _ A5.out).mono ?_); rintro e w6 ⟨rfl, hb⟩; refine ⟨_, rfl, ?_⟩; have n0_ := Aside0.mk (below_step (by repeat (first | (with_reducible first | exact HB.out | apply below_alloc | apply pw_below_drewN | apply below_drew1) | exact HB.out | exact Below.refl _ _)) hb); clear HB; have HB := n0_; clear n0_; (try clear hb); (try clear hb2); (try clear hk); (try clear hi)))
  go_ret
  exact ⟨by first | rfl | (simp [errW_none, errW_some] <;> rfl) | (simp [*, errW_none, errW_some] <;> rfl), by repeat (first | (with_reducible first | exact HB.out | apply below_alloc | apply pw_below_drewN | apply below_drew1) | exact HB.out | exact Below.refl _ _)⟩
 ·
  rw [if_neg c4] at H
  have c4b0 : decide (60 < (l0.length : Int)) = false := decide_eq_false c4
  have c4b1 : decide (60 < l0.length) = false := decide_eq_false (by omega)
  clear c4
  replace H := Option.bind_eq_some_iff.mp H
  obtain ⟨t281, A70, H⟩ := H
  replace H : (iceboxlaw15_MergePages.l0 k a1 t281 (wrap64 (1 + (Int.tmod (wrap64 (a2)) 6))) ([] : List (S47)) (⟨#[]⟩ : ByteArray) 0) = some r := H
  have A7 := Aside0.mk A70
  clear A70
  have H' := Aside0.mk H
  clear H
  go_enter Try.func10, Try.ntmps10
  go_wp2_with (first | ((with_reducible refine gate_callee (f := 15) rfl ?_); refine goesL_ (some 18) rfl rfl Try.func15 (by kernel_rfl) rfl #[.slice A0 l0.length c0, .int .u8 30] rfl (by (try simp only [List.map_toArray, List.map_cons, List.map_nil]); first | done | rfl | (simp only [List.length_drop, List.length_take]; rfl)) ?_; (with_reducible refine (iceboxlaw12_Make.calls k _ _ l0 30 t281 _ ?side1 ?side2 A7.out).mono ?_); (case side1 => repeat (first | exact HR0.out | (with_reducible refine Kd.C_alloc ?_ _) | (with_reducible refine Kd.C_drewN ?_ _) | (with_reducible refine Kd.C_drew ?_))); (case side2 => exact HC0.out); rintro e w8 ⟨v282, rfl, ho0, hb⟩; refine ⟨_, rfl, ?_⟩; have n0_ := Aside0.mk (Kd.R_lower ho0 (below_size (by repeat (first | (with_reducible first | exact HB.out | apply below_alloc | apply pw_below_drewN | apply below_drew1) | exact HB.out | exact Below.refl _ _)))); have n1_ := Aside0.mk (below_step (by repeat (first | (with_reducible first | exact HB.out | apply below_alloc | apply pw_below_drewN | apply below_drew1) | exact HB.out | exact Below.refl _ _)) hb); clear HB; have HO283 := n0_; have HB := n1_; clear n0_ n1_; (try clear hb); (try clear hb2); (try clear hk); (try clear hi); (try clear ho0)))
  try simp only [Act.put, List.setIfInBounds_toArray, List.set_cons_zero, List.set_cons_succ]
  go_loopg [9, 10, 11] k (fun kq v9 v10 v11 w' => ∃ (x9_1 : List (S47)) (x10_1 : ByteArray) (x11_1 : Int), v10 = .string x10_1 ∧ v11 = .int .i64 x11_1 ∧ Aside0 (iceboxlaw15_MergePages.l0 kq a1 t281 (wrap64 (1 + (Int.tmod (wrap64 (a2)) 6))) x9_1 x10_1 x11_1 = some r) ∧ Aside0 (kq ≤ k) ∧ Aside0 (Kd.R k31 31 w' w.heap.size (fun _ => True) v282 t281) ∧ Aside0 (Kd.R k47 47 w' w.heap.size (fun _ => True) v9 x9_1) ∧ Aside0 (Below w.heap.size w w'))
  case atStart => exact ⟨(([] : List (S47))), ((⟨#[]⟩ : ByteArray)), (0), (by first | rfl | (simp; done) | (simp [*]; done)), (by first | rfl | (simp; done) | (simp [*]; done)), H', ⟨Nat.le_refl _⟩, ⟨by (with_reducible repeat (first | apply Kd.R_alloc | apply Kd.R_drewN | apply Kd.R_drew)); exact HO283.out⟩, ⟨by first | exact Kd.R_nil _ _ _ _ _ | exact Kd.N_nil _ _ _ _ _ | exact Kd.V_nil _ _ _ _ _ | exact Kd.Q_nil _ _ _ _ _ | exact Kd.S_nil _ _ _ _ _⟩, ⟨by repeat (first | (with_reducible first | exact HB.out | apply below_alloc | apply pw_below_drewN | apply below_drew1) | exact HB.out | exact Below.refl _ _)⟩⟩
  case round =>
   clear H'
   obtain ⟨x9_1, x10_1, x11_1, rfl, rfl, HA, HK1, HO_7, HO_9, HB⟩ := hrel
   cases gk with
   | zero => exact absurd HA.out (by simp [iceboxlaw15_MergePages.l0])
   | succ k1 =>
    have H := HA.out
    clear HA
    simp only [iceboxlaw15_MergePages.l0] at H
    by_cases c9 : x11_1 ≤ (t281.length : Int)
    ·
     rw [if_pos c9] at H
     have c9b0 : decide (x11_1 ≤ (t281.length : Int)) = true := decide_eq_true c9
     clear c9
     replace H := Option.bind_eq_some_iff.mp H
     obtain ⟨t284, A100, H⟩ := H
     replace H : (if (t284.length : Int) = 0 then ((iceboxref10_View.f k1 t281 (wrap64 (a1)) (⟨#[]⟩ : ByteArray) (⟨#[]⟩ : ByteArray) false 1000).bind fun t287 => ((iceboxref1_Pairs.f k1 x9_1 t287).bind fun t290 => (if t290 = true then ((iceboxlaw15_awake.f k1).bind fun t291 => (some t291)) else (some false)))) else (if x9_1.length + t284.length < 4398046511104 then (if 0 ≤ (wrap64 ((t284.length : Int) - 1)) then (if (wrap64 ((t284.length : Int) - 1)) < (t284.length : Int) then (if ((rd_T47 t284 (wrap64 ((t284.length : Int) - 1))).f0).size + 1 ≤ 9223372036854775807 then (iceboxlaw15_MergePages.l0 k1 a1 t281 (wrap64 (1 + (Int.tmod (wrap64 (a2)) 6))) (x9_1 ++ t284) (((rd_T47 t284 (wrap64 ((t284.length : Int) - 1))).f0) ++ (⟨#[0]⟩ : ByteArray)) (wrap64 (x11_1 + 1))) else (none)) else (none)) else (none)) else (none))) = some r := H
     have A10 := Aside0.mk A100
     clear A100
     by_cases c11 : (t284.length : Int) = 0
     ·
      rw [if_pos c11] at H
      have c11b0 : ((t284.length : Int) == 0) = true := beq_iff_eq.mpr c11
      have c11b1 : ((t284.length : Int) != 0) = false := bne_eq_false_iff_eq.mpr c11
      clear c11
      replace H := Option.bind_eq_some_iff.mp H
      obtain ⟨t287, A120, H⟩ := H
      replace H : ((iceboxref1_Pairs.f k1 x9_1 t287).bind fun t290 => (if t290 = true then ((iceboxlaw15_awake.f k1).bind fun t291 => (some t291)) else (some false))) = some r := H
      have A12 := Aside0.mk A120
      clear A120
      replace H := Option.bind_eq_some_iff.mp H
      obtain ⟨t290, A130, H⟩ := H
      replace H : (if t290 = true then ((iceboxlaw15_awake.f k1).bind fun t291 => (some t291)) else (some false)) = some r := H
      have A13 := Aside0.mk A130
      clear A130
      by_cases c14 : t290 = true
      ·
       subst c14
       have H1 : ((iceboxlaw15_awake.f k1).bind fun t291 => (some t291)) = some r := by rw [if_pos rfl] at H; exact H
       clear H
       have H := H1
       clear H1
       replace H := Option.bind_eq_some_iff.mp H
       obtain ⟨t291, A150, H⟩ := H
       replace H : (some t291) = some r := H
       have A15 := Aside0.mk A150
       clear A150
       obtain rfl := Option.some.inj H
       obtain ⟨Ao16, co16, eo16⟩ := Kd.R_slice HO_7.out
       subst eo16
       go_wp2_with (first | ((with_reducible refine gate_callee (f := 27) rfl ?_); refine goesL_ (some 34) rfl rfl Try.func27 (by kernel_rfl) rfl #[.slice Ao16 t281.length co16, .int .i64 (wrap64 (a1)), .string x10_1, .string (⟨#[]⟩ : ByteArray), .bool false, .int .i64 (wrap64 (1 + (Int.tmod (wrap64 (a2)) 6)))] rfl (by (try simp only [List.map_toArray, List.map_cons, List.map_nil]); first | done | rfl | (simp only [List.length_drop, List.length_take]; rfl)) ?_; (with_reducible refine (merge_View.calls k1 _ _ t281 (wrap64 (a1)) x10_1 (⟨#[]⟩ : ByteArray) false (wrap64 (1 + (Int.tmod (wrap64 (a2)) 6))) t284 _ ?side1 ?side2 A10.out).mono ?_); (case side1 => repeat (first | exact (Kd.R_reads' HO_7.out).2.2 | (with_reducible refine Kd.C_alloc ?_ _) | (with_reducible refine Kd.C_drewN ?_ _) | (with_reducible refine Kd.C_drew ?_))); (case side2 => exact (Kd.R_reads' HO_7.out).2.1); rintro e w17 ⟨v285, rfl, ho0, hb⟩; refine ⟨_, rfl, ?_⟩; have n0_ := Aside0.mk (Kd.R_below (by (with_reducible repeat (first | apply Kd.R_alloc | apply Kd.R_drewN | apply Kd.R_drew)); exact HO_7.out) hb); have n1_ := Aside0.mk (Kd.R_elder' (by (with_reducible repeat (first | apply Kd.R_alloc | apply Kd.R_drewN | apply Kd.R_drew)); exact HO_9.out) (Kd.R_base ho0) hb); have n2_ := Aside0.mk (Kd.R_lower (Kd.R_new' ho0 (Kd.R_lt (by (with_reducible repeat (first | apply Kd.R_alloc | apply Kd.R_drewN | apply Kd.R_drew)); exact HO_9.out))) (below_size (by repeat (first | (with_reducible first | exact HB.out | apply below_alloc | apply pw_below_drewN | apply below_drew1) | exact HB.out | exact Below.refl _ _)))); have n3_ := Aside0.mk (below_step (by repeat (first | (with_reducible first | exact HB.out | apply below_alloc | apply pw_below_drewN | apply below_drew1) | exact HB.out | exact Below.refl _ _)) hb); clear HO_7; clear HO_9; clear HB; have HO_7 := n0_; have HO_9 := n1_; have HO286 := n2_; have HB := n3_; clear n0_ n1_ n2_ n3_; (try clear hb); (try clear hb2); (try clear hk); (try clear hi); (try clear ho0); obtain ⟨Ao18, co18, eo18⟩ := Kd.R_slice HO286.out; subst eo18) | ((with_reducible refine gate_callee (f := 28) rfl ?_); refine goesL_ (some 53) rfl rfl Try.func28 (by kernel_rfl) rfl #[.slice Ao16 t281.length co16, .int .i64 (wrap64 (a1)), .string (⟨#[]⟩ : ByteArray), .string (⟨#[]⟩ : ByteArray), .bool false, .int .i64 1000] rfl (by (try simp only [List.map_toArray, List.map_cons, List.map_nil]); first | done | rfl | (simp only [List.length_drop, List.length_take]; rfl)) ?_; (with_reducible refine (iceboxref10_View.calls k1 _ _ t281 (wrap64 (a1)) (⟨#[]⟩ : ByteArray) (⟨#[]⟩ : ByteArray) false 1000 t287 _ ?side1 ?side2 A12.out).mono ?_); (case side1 => repeat (first | exact (Kd.R_reads' HO_7.out).2.2 | (with_reducible refine Kd.C_alloc ?_ _) | (with_reducible refine Kd.C_drewN ?_ _) | (with_reducible refine Kd.C_drew ?_))); (case side2 => exact (Kd.R_reads' HO_7.out).2.1); rintro e w19 ⟨v288, rfl, ho0, hb⟩; refine ⟨_, rfl, ?_⟩; have n0_ := Aside0.mk (Kd.R_below (by (with_reducible repeat (first | apply Kd.R_alloc | apply Kd.R_drewN | apply Kd.R_drew)); exact HO_7.out) hb); have n1_ := Aside0.mk (Kd.R_elder' (by (with_reducible repeat (first | apply Kd.R_alloc | apply Kd.R_drewN | apply Kd.R_drew)); exact HO_9.out) (Kd.R_base ho0) hb); have n2_ := Aside0.mk (Kd.R_elder' (by (with_reducible repeat (first | apply Kd.R_alloc | apply Kd.R_drewN | apply Kd.R_drew)); exact HO286.out) (Kd.R_base ho0) hb); have n3_ := Aside0.mk (Kd.R_lower (Kd.R_new' (Kd.R_new' ho0 (Kd.R_lt (by (with_reducible repeat (first | apply Kd.R_alloc | apply Kd.R_drewN | apply Kd.R_drew)); exact HO_9.out))) (Kd.R_lt (by (with_reducible repeat (first | apply Kd.R_alloc | apply Kd.R_drewN | apply Kd.R_drew)); exact HO286.out))) (below_size (by repeat (first | (with_reducible first | exact HB.out | apply below_alloc | apply pw_below_drewN | apply below_drew1) | exact HB.out | exact Below.refl _ _)))); have n4_ := Aside0.mk (below_step (by repeat (first | (with_reducible first | exact HB.out | apply below_alloc | apply pw_below_drewN | apply below_drew1) | exact HB.out | exact Below.refl _ _)) hb); clear HO_7; clear HO_9; clear HO286; clear HB; have HO_7 := n0_; have HO_9 := n1_; have HO286 := n2_; have HO289 := n3_; have HB := n4_; clear n0_ n1_ n2_ n3_ n4_; (try clear hb); (try clear hb2); (try clear hk); (try clear hi); (try clear ho0); obtain ⟨Ao20, co20, eo20⟩ := Kd.R_slice HO_9.out; subst eo20; obtain ⟨Ao21, co21, eo21⟩ := Kd.R_slice HO289.out; subst eo21) | ((with_reducible refine gate_callee (f := 26) rfl ?_); refine goesL_ (some 54) rfl rfl Try.func26 (by kernel_rfl) rfl #[.slice Ao20 x9_1.length co20, .slice Ao21 t287.length co21] rfl (by (try simp only [List.map_toArray, List.map_cons, List.map_nil]); first | done | rfl | (simp only [List.length_drop, List.length_take]; rfl)) ?_; (with_reducible refine (iceboxref1_Pairs.calls k1 _ _ x9_1 _ _ t287 true _ ?side1 ?side2 ?side3 ?side4 A13.out).mono ?_); (case side1 => repeat (first | exact (Kd.R_reads' HO_9.out).2.2 | (with_reducible refine Kd.C_alloc ?_ _) | (with_reducible refine Kd.C_drewN ?_ _) | (with_reducible refine Kd.C_drew ?_))); (case side2 => exact (Kd.R_reads' HO_9.out).2.1); (case side3 => repeat (first | exact (Kd.R_reads' HO289.out).2.2 | (with_reducible refine Kd.C_alloc ?_ _) | (with_reducible refine Kd.C_drewN ?_ _) | (with_reducible refine Kd.C_drew ?_))); (case side4 => exact (Kd.R_reads' HO289.out).2.1); rintro e w' ⟨rfl, ⟨nd, rfl⟩⟩; refine ⟨_, rfl, ?_⟩) | (go_at_call 21; (with_reducible refine (iceboxlaw15_awake.calls k1  t291 _ A15.out).mono ?_); rintro e w22 ⟨rfl, hb⟩; have n0_ := Aside0.mk (Kd.R_below (by (with_reducible repeat (first | apply Kd.R_alloc | apply Kd.R_drewN | apply Kd.R_drew)); exact HO_7.out) hb); have n1_ := Aside0.mk (Kd.R_below (by (with_reducible repeat (first | apply Kd.R_alloc | apply Kd.R_drewN | apply Kd.R_drew)); exact HO_9.out) hb); have n2_ := Aside0.mk (Kd.R_below (by (with_reducible repeat (first | apply Kd.R_alloc | apply Kd.R_drewN | apply Kd.R_drew)); exact HO286.out) hb); have n3_ := Aside0.mk (Kd.R_below (by (with_reducible repeat (first | apply Kd.R_alloc | apply Kd.R_drewN | apply Kd.R_drew)); exact HO289.out) hb); have n4_ := Aside0.mk (below_step (by repeat (first | (with_reducible first | exact HB.out | apply below_alloc | apply pw_below_drewN | apply below_drew1) | exact HB.out | exact Below.refl _ _)) hb); clear HO_7; clear HO_9; clear HO286; clear HO289; clear HB; have HO_7 := n0_; have HO_9 := n1_; have HO286 := n2_; have HO289 := n3_; have HB := n4_; clear n0_ n1_ n2_ n3_ n4_; (try clear hb); (try clear hb2); (try clear hk); (try clear hi)))
       go_ret
       exact ⟨by first | rfl | (simp [errW_none, errW_some] <;> rfl) | (simp [*, errW_none, errW_some] <;> rfl), by repeat (first | (with_reducible first | exact HB.out | apply below_alloc | apply pw_below_drewN | apply below_drew1) | exact HB.out | exact Below.refl _ _)⟩
      ·
       replace c14 := Bool.eq_false_iff.mpr c14
       subst c14
       have H1 : (some false) = some r := by rw [if_neg (show ¬ (false = true) by decide)] at H; exact H
       clear H
       have H := H1
       clear H1
       exact absurd ((Option.some.inj H).trans hR_.out) (by decide)
     ·
      rw [if_neg c11] at H
      have c11b0 : ((t284.length : Int) == 0) = false := beq_eq_false_iff_ne.mpr c11
      have c11b1 : ((t284.length : Int) != 0) = true := bne_iff_ne.mpr c11
      have c11b2 : ¬ (t284 = []) := fun h_ => c11 (by rw [h_]; rfl)
      by_cases c23 : x9_1.length + t284.length < 4398046511104
      ·
       rw [if_pos c23] at H
       have LMc23 := Aside0.mk c23
       clear c23
       obtain ⟨y292, hy292⟩ : ∃ y_ : List (S47), y_ = (x9_1 ++ t284) := ⟨_, rfl⟩
       replace H : (if 0 ≤ (wrap64 ((t284.length : Int) - 1)) then (if (wrap64 ((t284.length : Int) - 1)) < (t284.length : Int) then (if ((rd_T47 t284 (wrap64 ((t284.length : Int) - 1))).f0).size + 1 ≤ 9223372036854775807 then (iceboxlaw15_MergePages.l0 k1 a1 t281 (wrap64 (1 + (Int.tmod (wrap64 (a2)) 6))) y292 (((rd_T47 t284 (wrap64 ((t284.length : Int) - 1))).f0) ++ (⟨#[0]⟩ : ByteArray)) (wrap64 (x11_1 + 1))) else (none)) else (none)) else (none)) = some r := by first | (rw [hy292]; with_reducible exact H) | (have H2_ := (Option.bind_some _ _).symm.trans H; rw [hy292]; with_reducible exact H2_) | (have H2_ := (Option.bind_some _ _).symm.trans H; with_reducible exact H2_) | with_reducible exact H | (rw [hy292]; exact H) | exact H
       have Ny292 := Aside0.mk hy292
       clear hy292
       obtain ⟨ji24, hji24⟩ : ∃ j_ : Int, (wrap64 ((t284.length : Int) - 1)) = j_ := ⟨_, rfl⟩
       replace H : (if 0 ≤ (ji24) then (if (ji24) < (t284.length : Int) then (if ((rd_T47 t284 (ji24)).f0).size + 1 ≤ 9223372036854775807 then (iceboxlaw15_MergePages.l0 k1 a1 t281 (wrap64 (1 + (Int.tmod (wrap64 (a2)) 6))) y292 (((rd_T47 t284 (ji24)).f0) ++ (⟨#[0]⟩ : ByteArray)) (wrap64 (x11_1 + 1))) else (none)) else (none)) else (none)) = some r := by first | (rw [hji24] at H; exact H) | (simp only [hji24] at H ⊢; exact H)
       (try rw [hji24] at A10)
       have hji24w : (IntKind.i64.wrap ((t284.length : Int) - 1)) = ji24 := (i64_w _).trans hji24
       by_cases c25 : 0 ≤ (ji24)
       ·
        rw [if_pos c25] at H
        have c25b0 : decide (0 ≤ (ji24)) = true := decide_eq_true c25
        clear c25
        by_cases c26 : (ji24) < (t284.length : Int)
        ·
         rw [if_pos c26] at H
         have c26b0 : decide ((ji24) < (t284.length : Int)) = true := decide_eq_true c26
         clear c26
         by_cases c27 : ((rd_T47 t284 (ji24)).f0).size + 1 ≤ 9223372036854775807
         ·
          rw [if_pos c27] at H
          have c27b0 := eq_true c27
          have c27b1 : decide (((rd_T47 t284 (ji24)).f0).size + 1 ≤ 9223372036854775807) = true := decide_eq_true c27
          try have c27b2 : (9223372036854775807 < ((rd_T47 t284 (ji24)).f0).size + 1) = False := eq_false (Nat.not_lt.2 c27)
          have H' := Aside0.mk H
          clear H
          obtain ⟨Ao28, co28, eo28⟩ := Kd.R_slice HO_7.out
          subst eo28
          go_wp2_with (first | ((with_reducible refine gate_callee (f := 27) rfl ?_); refine goesL_ (some 34) rfl rfl Try.func27 (by kernel_rfl) rfl #[.slice Ao28 t281.length co28, .int .i64 (wrap64 (a1)), .string x10_1, .string (⟨#[]⟩ : ByteArray), .bool false, .int .i64 (wrap64 (1 + (Int.tmod (wrap64 (a2)) 6)))] rfl (by (try simp only [List.map_toArray, List.map_cons, List.map_nil]); first | done | rfl | (simp only [List.length_drop, List.length_take]; rfl)) ?_; (with_reducible refine (merge_View.calls k1 _ _ t281 (wrap64 (a1)) x10_1 (⟨#[]⟩ : ByteArray) false (wrap64 (1 + (Int.tmod (wrap64 (a2)) 6))) t284 _ ?side1 ?side2 A10.out).mono ?_); (case side1 => repeat (first | exact (Kd.R_reads' HO_7.out).2.2 | (with_reducible refine Kd.C_alloc ?_ _) | (with_reducible refine Kd.C_drewN ?_ _) | (with_reducible refine Kd.C_drew ?_))); (case side2 => exact (Kd.R_reads' HO_7.out).2.1); rintro e w29 ⟨v285, rfl, ho0, hb⟩; refine ⟨_, rfl, ?_⟩; have n0_ := Aside0.mk (Kd.R_below (by (with_reducible repeat (first | apply Kd.R_alloc | apply Kd.R_drewN | apply Kd.R_drew)); exact HO_7.out) hb); have n1_ := Aside0.mk (Kd.R_elder' (by (with_reducible repeat (first | apply Kd.R_alloc | apply Kd.R_drewN | apply Kd.R_drew)); exact HO_9.out) (Kd.R_base ho0) hb); have n2_ := Aside0.mk (Kd.R_lower (Kd.R_new' ho0 (Kd.R_lt (by (with_reducible repeat (first | apply Kd.R_alloc | apply Kd.R_drewN | apply Kd.R_drew)); exact HO_9.out))) (below_size (by repeat (first | (with_reducible first | exact HB.out | apply below_alloc | apply pw_below_drewN | apply below_drew1) | exact HB.out | exact Below.refl _ _)))); have n3_ := Aside0.mk (below_step (by repeat (first | (with_reducible first | exact HB.out | apply below_alloc | apply pw_below_drewN | apply below_drew1) | exact HB.out | exact Below.refl _ _)) hb); clear HO_7; clear HO_9; clear HB; have HO_7 := n0_; have HO_9 := n1_; have HO286 := n2_; have HB := n3_; clear n0_ n1_ n2_ n3_; (try clear hb); (try clear hb2); (try clear hk); (try clear hi); (try clear ho0); obtain ⟨Ao30, co30, eo30⟩ := Kd.R_slice HO286.out; subst eo30) | ((with_reducible refine gate_builtin (b := .append) (xs := #[.tmp 38, .tmp 39]) rfl ?_); at_builtin; refine Kd.R_append_rows k47 (w0 := w) w.heap.size rfl (.tmp 38) (.tmp 39) 41 47 (.agg #[(.string ⟨#[]⟩), (.string ⟨#[]⟩)]) 32 rfl Try.underlying41 info47 rfl (by decide) (by omega) u9 x9_1 t284 _ _ _ (fun k_ => some k_ ≠ (.slice Ao30 t284.length co30 : Value).ownBlock) (fun _ => False) rfl rfl ?aO ?aR (fun _ _ h => h) (fun _ h => h.elim) ?aF ?aB ?aS ?aL ?_; (case aR => repeat (first | exact (Kd.R_reads' HO286.out).2.2 | (with_reducible refine Kd.C_alloc ?_ _) | (with_reducible refine Kd.C_drewN ?_ _) | (with_reducible refine Kd.C_drew ?_))); (case aB => exact (by repeat (first | (with_reducible first | exact HB.out | apply below_alloc | apply pw_below_drewN | apply below_drew1) | exact HB.out | exact Below.refl _ _))); (case aF => exact (fun k_ hk => Kd.fresh' (Kd.R_lt (by (with_reducible repeat (first | apply Kd.R_alloc | apply Kd.R_drewN | apply Kd.R_drew)); exact HO286.out)) k_ hk)); (case aO => exact (by (with_reducible repeat (first | apply Kd.R_alloc | apply Kd.R_drewN | apply Kd.R_drew)); exact Kd.R_mono HO_9.out (fun _ hk => hk.2))); (case aS => exact (below_size (by repeat (first | (with_reducible first | exact HB.out | apply below_alloc | apply pw_below_drewN | apply below_drew1) | exact HB.out | exact Below.refl _ _)))); (case aL => have := LMc23.out; omega); intro v293 w31 ho hb hg hat; rw [← Ny292.out] at ho; have n0_ := Aside0.mk (Kd.R_over' (by (with_reducible repeat (first | apply Kd.R_alloc | apply Kd.R_drewN | apply Kd.R_drew)); exact HO_7.out) (Kd.R_typed (by (with_reducible repeat (first | apply Kd.R_alloc | apply Kd.R_drewN | apply Kd.R_drew)); exact HO_9.out)) (by decide) hg); have n1_ := Aside0.mk (Kd.R_after (ok := (fun _ => True)) (by (with_reducible repeat (first | apply Kd.R_alloc | apply Kd.R_drewN | apply Kd.R_drew)); exact HO286.out) hg hat); have n2_ := Aside0.mk (hb); have n3_ := Aside0.mk (ho); clear HO_7; clear HO286; clear HB; clear HO_9; have HO_7 := n0_; have HO286 := n1_; have HB := n2_; have HO294 := n3_; clear n0_ n1_ n2_ n3_; clear ho hb hg hat; have p295 : 0 ≤ ((ji24) : Int) := of_decide_eq_true (by first | (with_reducible assumption) | assumption); have q295 : (ji24) < (t284.length : Int) := of_decide_eq_true (by first | (with_reducible assumption) | assumption); obtain ⟨ad295, e295, hx295_0, hx295_1⟩ := at_T47 (Kd.R_reads' HO286.out).2.2 (ji24) p295 q295; cases e295; replace p295 := eq_true p295; replace q295 := eq_true q295))
          go_roundg k1
          case measure => have := HK1.out; omega
          case rel => exact ⟨(y292), (((rd_T47 t284 (ji24)).f0) ++ (⟨#[0]⟩ : ByteArray)), (wrap64 (x11_1 + 1)), (by first | rfl | (simp; done) | (simp only [← hji24] <;> (first | rfl | simp)) | (simp [*]; done)), (by first | rfl | (simp; done) | (simp [*]; done)), (by first | exact H' | (simp only [hji24]; exact H')), ⟨by have := HK1.out; omega⟩, ⟨by (with_reducible repeat (first | apply Kd.R_alloc | apply Kd.R_drewN | apply Kd.R_drew)); exact HO_7.out⟩, ⟨by (with_reducible repeat (first | apply Kd.R_alloc | apply Kd.R_drewN | apply Kd.R_drew)); exact Kd.R_mono HO294.out (fun _ hk => trivial)⟩, ⟨by repeat (first | (with_reducible first | exact HB.out | apply below_alloc | apply pw_below_drewN | apply below_drew1) | exact HB.out | exact Below.refl _ _)⟩⟩
         ·
          rw [if_neg c27] at H
          exact absurd H (by simp)
        ·
         rw [if_neg c26] at H
         exact absurd H (by simp)
       ·
        rw [if_neg c25] at H
        exact absurd H (by simp)
      ·
       rw [if_neg c23] at H
       exact absurd H (by simp)
    ·
     rw [if_neg c9] at H
     have c9b0 : decide (x11_1 ≤ (t281.length : Int)) = false := decide_eq_false c9
     clear c9
     replace H := Option.bind_eq_some_iff.mp H
     obtain ⟨t296, A320, H⟩ := H
     replace H : ((iceboxref1_Pairs.f k1 x9_1 t296).bind fun t299 => (if t299 = true then ((iceboxlaw15_awake.f k1).bind fun t300 => (some t300)) else (some false))) = some r := H
     have A32 := Aside0.mk A320
     clear A320
     replace H := Option.bind_eq_some_iff.mp H
     obtain ⟨t299, A330, H⟩ := H
     replace H : (if t299 = true then ((iceboxlaw15_awake.f k1).bind fun t300 => (some t300)) else (some false)) = some r := H
     have A33 := Aside0.mk A330
     clear A330
     by_cases c34 : t299 = true
     ·
      subst c34
      have H1 : ((iceboxlaw15_awake.f k1).bind fun t300 => (some t300)) = some r := by rw [if_pos rfl] at H; exact H
      clear H
      have H := H1
      clear H1
      replace H := Option.bind_eq_some_iff.mp H
      obtain ⟨t300, A350, H⟩ := H
      replace H : (some t300) = some r := H
      have A35 := Aside0.mk A350
      clear A350
      obtain rfl := Option.some.inj H
      obtain ⟨Ao36, co36, eo36⟩ := Kd.R_slice HO_7.out
      subst eo36
      go_wp2_with (first | ((with_reducible refine gate_callee (f := 28) rfl ?_); refine goesL_ (some 53) rfl rfl Try.func28 (by kernel_rfl) rfl #[.slice Ao36 t281.length co36, .int .i64 (wrap64 (a1)), .string (⟨#[]⟩ : ByteArray), .string (⟨#[]⟩ : ByteArray), .bool false, .int .i64 1000] rfl (by (try simp only [List.map_toArray, List.map_cons, List.map_nil]); first | done | rfl | (simp only [List.length_drop, List.length_take]; rfl)) ?_; (with_reducible refine (iceboxref10_View.calls k1 _ _ t281 (wrap64 (a1)) (⟨#[]⟩ : ByteArray) (⟨#[]⟩ : ByteArray) false 1000 t296 _ ?side1 ?side2 A32.out).mono ?_); (case side1 => repeat (first | exact (Kd.R_reads' HO_7.out).2.2 | (with_reducible refine Kd.C_alloc ?_ _) | (with_reducible refine Kd.C_drewN ?_ _) | (with_reducible refine Kd.C_drew ?_))); (case side2 => exact (Kd.R_reads' HO_7.out).2.1); rintro e w37 ⟨v297, rfl, ho0, hb⟩; refine ⟨_, rfl, ?_⟩; have n0_ := Aside0.mk (Kd.R_below (by (with_reducible repeat (first | apply Kd.R_alloc | apply Kd.R_drewN | apply Kd.R_drew)); exact HO_7.out) hb); have n1_ := Aside0.mk (Kd.R_elder' (by (with_reducible repeat (first | apply Kd.R_alloc | apply Kd.R_drewN | apply Kd.R_drew)); exact HO_9.out) (Kd.R_base ho0) hb); have n2_ := Aside0.mk (Kd.R_lower (Kd.R_new' ho0 (Kd.R_lt (by (with_reducible repeat (first | apply Kd.R_alloc | apply Kd.R_drewN | apply Kd.R_drew)); exact HO_9.out))) (below_size (by repeat (first | (with_reducible first | exact HB.out | apply below_alloc | apply pw_below_drewN | apply below_drew1) | exact HB.out | exact Below.refl _ _)))); have n3_ := Aside0.mk (below_step (by repeat (first | (with_reducible first | exact HB.out | apply below_alloc | apply pw_below_drewN | apply below_drew1) | exact HB.out | exact Below.refl _ _)) hb); clear HO_7; clear HO_9; clear HB; have HO_7 := n0_; have HO_9 := n1_; have HO298 := n2_; have HB := n3_; clear n0_ n1_ n2_ n3_; (try clear hb); (try clear hb2); (try clear hk); (try clear hi); (try clear ho0); obtain ⟨Ao38, co38, eo38⟩ := Kd.R_slice HO_9.out; subst eo38; obtain ⟨Ao39, co39, eo39⟩ := Kd.R_slice HO298.out; subst eo39) | ((with_reducible refine gate_callee (f := 26) rfl ?_); refine goesL_ (some 54) rfl rfl Try.func26 (by kernel_rfl) rfl #[.slice Ao38 x9_1.length co38, .slice Ao39 t296.length co39] rfl (by (try simp only [List.map_toArray, List.map_cons, List.map_nil]); first | done | rfl | (simp only [List.length_drop, List.length_take]; rfl)) ?_; (with_reducible refine (iceboxref1_Pairs.calls k1 _ _ x9_1 _ _ t296 true _ ?side1 ?side2 ?side3 ?side4 A33.out).mono ?_); (case side1 => repeat (first | exact (Kd.R_reads' HO_9.out).2.2 | (with_reducible refine Kd.C_alloc ?_ _) | (with_reducible refine Kd.C_drewN ?_ _) | (with_reducible refine Kd.C_drew ?_))); (case side2 => exact (Kd.R_reads' HO_9.out).2.1); (case side3 => repeat (first | exact (Kd.R_reads' HO298.out).2.2 | (with_reducible refine Kd.C_alloc ?_ _) | (with_reducible refine Kd.C_drewN ?_ _) | (with_reducible refine Kd.C_drew ?_))); (case side4 => exact (Kd.R_reads' HO298.out).2.1); rintro e w' ⟨rfl, ⟨nd, rfl⟩⟩; refine ⟨_, rfl, ?_⟩) | (go_at_call 21; (with_reducible refine (iceboxlaw15_awake.calls k1  t300 _ A35.out).mono ?_); rintro e w40 ⟨rfl, hb⟩; have n0_ := Aside0.mk (Kd.R_below (by (with_reducible repeat (first | apply Kd.R_alloc | apply Kd.R_drewN | apply Kd.R_drew)); exact HO_7.out) hb); have n1_ := Aside0.mk (Kd.R_below (by (with_reducible repeat (first | apply Kd.R_alloc | apply Kd.R_drewN | apply Kd.R_drew)); exact HO_9.out) hb); have n2_ := Aside0.mk (Kd.R_below (by (with_reducible repeat (first | apply Kd.R_alloc | apply Kd.R_drewN | apply Kd.R_drew)); exact HO298.out) hb); have n3_ := Aside0.mk (below_step (by repeat (first | (with_reducible first | exact HB.out | apply below_alloc | apply pw_below_drewN | apply below_drew1) | exact HB.out | exact Below.refl _ _)) hb); clear HO_7; clear HO_9; clear HO298; clear HB; have HO_7 := n0_; have HO_9 := n1_; have HO298 := n2_; have HB := n3_; clear n0_ n1_ n2_ n3_; (try clear hb); (try clear hb2); (try clear hk); (try clear hi)))
      go_ret
      exact ⟨by first | rfl | (simp [errW_none, errW_some] <;> rfl) | (simp [*, errW_none, errW_some] <;> rfl), by repeat (first | (with_reducible first | exact HB.out | apply below_alloc | apply pw_below_drewN | apply below_drew1) | exact HB.out | exact Below.refl _ _)⟩
     ·
      replace c34 := Bool.eq_false_iff.mpr c34
      subst c34
      have H1 : (some false) = some r := by rw [if_neg (show ¬ (false = true) by decide)] at H; exact H
      clear H
      have H := H1
      clear H1
      exact absurd ((Option.some.inj H).trans hR_.out) (by decide)

/-- THE ONE PURE STATEMENT of iceboxlaw15_MergePages: yours. -/
def iceboxlaw15_MergePages.Pure : Prop := ∀ (l0 : List Int) (a1 : Int) (a2 : Int), l0.length ≤ maxLen → l0.length * 1 ≤ 140737488351232 → (∀ x ∈ l0, (Lit.int .u8 x).wf = true) → (Lit.int .u8 a1).wf = true → (Lit.int .u8 a2).wf = true → ∃ k, iceboxlaw15_MergePages.f k l0 a1 a2 = some true
theorem iceboxlaw15_MergePages.walk (P : iceboxlaw15_MergePages.Pure) (a0 : Option Addr) (len0 cap0 : Nat) (z0 : List Int) (a1 : Int) (a2 : Int) (w : World) (w0 : (a0 = none ∧ len0 = 0 ∧ cap0 = 0 ∧ z0 = []) ∨ ∃ x, a0 = some x ∧ len0 ≤ cap0 ∧ cap0 ≤ maxLen ∧ z0.length = cap0 ∧ (∀ i, i < z0.length → w.cell? (x.add i) = some (.int .u8 (z0.getD i 0))) ∧ ∀ n ∈ z0, (Lit.int .u8 n).wf = true) (y0 : len0 * 1 ≤ 140737488351232) (w1 : (Lit.int .u8 a1).wf = true) (w2 : (Lit.int .u8 a2).wf = true) :
 Calls Try.prog 10 #[.slice a0 len0 cap0, .int .u8 a1, .int .u8 a2] w fun e w' => e = .returned (.bool true) ∧ Below w.heap.size w w' := by
 obtain ⟨l0, rfl, hr0, hm0, hw0, hc0⟩ := ReadsInt.ofRowC w0
 obtain ⟨k, h⟩ := P l0 a1 a2 hm0 y0 hw0 w1 w2
 refine (iceboxlaw15_MergePages.calls k _ _ l0 a1 a2 true w ⟨rfl⟩ (Kd.C_of_reads (d := (0 : Int)) (h1 := fun _ => rfl) hr0) hc0 h).mono ?_
 rintro e w' ⟨rfl, hd⟩
 exact ⟨rfl, hd⟩

end Go.Proofs.Ytoomipmndapgnaa.PMergePages
