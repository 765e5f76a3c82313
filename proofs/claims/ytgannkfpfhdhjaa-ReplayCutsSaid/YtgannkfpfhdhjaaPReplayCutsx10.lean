/- The functions that a law reaches, as Lean functions, each with the contract that its Go code comes to just these answers. Written by a program of this claim's author (wip/mkprint.py). No conditions. -/
import Derived.Test.YtgannkfpfhdhjaaPReplayCutsx0
import Derived.Test.YtgannkfpfhdhjaaPReplayCutsx5
import Derived.Test.YtgannkfpfhdhjaaPReplayCutsx7
import Derived.Test.YtgannkfpfhdhjaaPReplayCutsx8
import Derived.Test.YtgannkfpfhdhjaaPReplayCutsx9
namespace Go.Proofs.Ytgannkfpfhdhjaa.PReplayCuts
open Go.RowKit Go.Proofs.YtgannkfpfhdhjaaW.PrintWords Go.Proofs.YtgannkfpfhdhjaaW.PrintLast Go.Proofs.YtgannkfpfhdhjaaW.PrintMore
attribute [local go_sem] max2_int min2_int max_two min_two max_three min_three max_four min_four   -- for this text's walks alone
set_option linter.unusedVariables false
set_option linter.unusedSimpArgs false

/-! ### iceboxlaw9_ReplayCuts: function 7 -/
mutual
def iceboxlaw9_ReplayCuts.l0 : Nat → Int → List (S37) → List Int → List Int → Int → Option (Bool)
 | 0, _, _, _, _, _ => none
 | k + 1, x2, x7, x8, x9, x10 => if x10 < (x7.length : Int) then (if 0 ≤ x10 then ((replay_Put.f k ((rd_T37 x7 x10).f0) ((rd_T37 x7 x10).f1)).bind fun t484 => (if x8.length + t484.length < 140737488355328 then ((some (x8 ++ t484 : List Int)).bind fun y487 => (if x9.length < 17592186044416 then (iceboxlaw9_ReplayCuts.l0 k x2 x7 y487 (x9 ++ [(y487.length : Int)]) (wrap64 (x10 + 1))) else (none))) else (none))) else (none)) else (if (wrap64 ((x8.length : Int) + 1)) = 0 then (none) else (iceboxlaw9_ReplayCuts.l1 k x7 x8 x9 (Int.tmod (wrap64 (x2)) (wrap64 ((x8.length : Int) + 1))) 0 0))
def iceboxlaw9_ReplayCuts.j2 : Nat → List (S37) → List Int → Int → Int → Int → Option (Bool)
 | 0, _, _, _, _, _ => none
 | k + 1, x7, x8, x11, x12, x13 => (replay_Scan.f k x8).bind fun bt495 => (if 0 ≤ x11 then (if x11 ≤ (x8.length : Int) then ((replay_Scan.f k (x8.take (x11 : Int).toNat)).bind fun bt503 => ((iceboxref1_Batches.f k bt495.1 x7).bind fun t507 => (if t507 = true then (if bt495.2 = (x8.length : Int) then (if 0 ≤ x12 then (if x12 ≤ (x7.length : Int) then ((iceboxref1_Batches.f k bt503.1 (x7.take (x12 : Int).toNat)).bind fun t512 => (if t512 = true then (if bt503.2 = x13 then ((iceboxlaw9_awake.f k).bind fun t513 => (some t513)) else (some false)) else (some false))) else (none)) else (none)) else (some false)) else (some false)))) else (none)) else (none))
def iceboxlaw9_ReplayCuts.l1 : Nat → List (S37) → List Int → List Int → Int → Int → Int → Option (Bool)
 | 0, _, _, _, _, _, _ => none
 | k + 1, x7, x8, x9, x11, x12, x13 => if x12 < (x9.length : Int) then (if 0 ≤ x12 then (if (rd x9 x12) ≤ x11 then (iceboxlaw9_ReplayCuts.l1 k x7 x8 x9 x11 (wrap64 (x12 + 1)) (rd x9 x12)) else (iceboxlaw9_ReplayCuts.j2 k x7 x8 x11 x12 x13)) else (none)) else (iceboxlaw9_ReplayCuts.j2 k x7 x8 x11 x12 x13)
end
def iceboxlaw9_ReplayCuts.f (k : Nat) (l0 : List Int) (a1 : Int) (a2 : Int) : Option (Bool) := if (l0.length : Int) > 40 then ((iceboxlaw9_awake.f k).bind fun t479 => (some t479)) else ((iceboxlaw9_Make.f k l0 (wrap64 (1 + (wrap64 (a1))))).bind fun t480 => (iceboxlaw9_ReplayCuts.l0 k a2 t480 ([] : List Int) ([] : List Int) 0))
theorem iceboxlaw9_ReplayCuts.mono_l : ∀ k, (∀ y0 y1 y2 y3 y4, LeO (iceboxlaw9_ReplayCuts.l0 k y0 y1 y2 y3 y4) (iceboxlaw9_ReplayCuts.l0 (k + 1) y0 y1 y2 y3 y4)) ∧ (∀ y0 y1 y2 y3 y4, LeO (iceboxlaw9_ReplayCuts.j2 k y0 y1 y2 y3 y4) (iceboxlaw9_ReplayCuts.j2 (k + 1) y0 y1 y2 y3 y4)) ∧ (∀ y0 y1 y2 y3 y4 y5, LeO (iceboxlaw9_ReplayCuts.l1 k y0 y1 y2 y3 y4 y5) (iceboxlaw9_ReplayCuts.l1 (k + 1) y0 y1 y2 y3 y4 y5))
 | 0 => ⟨fun _ _ _ _ _ r h => by simp [iceboxlaw9_ReplayCuts.l0] at h, fun _ _ _ _ _ r h => by simp [iceboxlaw9_ReplayCuts.j2] at h, fun _ _ _ _ _ _ r h => by simp [iceboxlaw9_ReplayCuts.l1] at h⟩
 | k + 1 => by
  obtain ⟨ih0, ih1, ih2⟩ := iceboxlaw9_ReplayCuts.mono_l k
  refine ⟨?_, ?_, ?_⟩
  ·
   intro y0 y1 y2 y3 y4
   unfold iceboxlaw9_ReplayCuts.l0
   repeat' first
   | (with_reducible exact ih0 _ _ _ _ _)
   | (with_reducible exact ih1 _ _ _ _ _)
   | (with_reducible exact ih2 _ _ _ _ _ _)
   | (with_reducible exact iceboxlaw9_Make.mono _ _ _)
   | (with_reducible exact iceboxlaw9_awake.mono _)
   | (with_reducible exact iceboxref1_Batches.mono _ _ _)
   | (with_reducible exact replay_Put.mono _ _ _)
   | (with_reducible exact replay_Scan.mono _ _)
   | (with_reducible exact LeO.refl _)
   | (with_reducible exact LeO.none _)
   | (with_reducible refine LeO.ite ?_ ?_)
   | (with_reducible refine LeO.bind ?_ (fun _ => ?_))
   | exact ih0 _ _ _ _ _
   | exact ih1 _ _ _ _ _
   | exact ih2 _ _ _ _ _ _
   | exact iceboxlaw9_Make.mono _ _ _
   | exact iceboxlaw9_awake.mono _
   | exact iceboxref1_Batches.mono _ _ _
   | exact replay_Put.mono _ _ _
   | exact replay_Scan.mono _ _
   | exact LeO.none _
   | refine LeO.ite ?_ ?_
   | refine LeO.bind ?_ (fun _ => ?_)
  ·
   intro y0 y1 y2 y3 y4
   unfold iceboxlaw9_ReplayCuts.j2
   repeat' first
   | (with_reducible exact ih0 _ _ _ _ _)
   | (with_reducible exact ih1 _ _ _ _ _)
   | (with_reducible exact ih2 _ _ _ _ _ _)
   | (with_reducible exact iceboxlaw9_Make.mono _ _ _)
   | (with_reducible exact iceboxlaw9_awake.mono _)
   | (with_reducible exact iceboxref1_Batches.mono _ _ _)
   | (with_reducible exact replay_Put.mono _ _ _)
   | (with_reducible exact replay_Scan.mono _ _)
   | (with_reducible exact LeO.refl _)
   | (with_reducible exact LeO.none _)
   | (with_reducible refine LeO.ite ?_ ?_)
   | (with_reducible refine LeO.bind ?_ (fun _ => ?_))
   | exact ih0 _ _ _ _ _
   | exact ih1 _ _ _ _ _
   | exact ih2 _ _ _ _ _ _
   | exact iceboxlaw9_Make.mono _ _ _
   | exact iceboxlaw9_awake.mono _
   | exact iceboxref1_Batches.mono _ _ _
   | exact replay_Put.mono _ _ _
   | exact replay_Scan.mono _ _
   | exact LeO.none _
   | refine LeO.ite ?_ ?_
   | refine LeO.bind ?_ (fun _ => ?_)
  ·
   intro y0 y1 y2 y3 y4 y5
   unfold iceboxlaw9_ReplayCuts.l1
   repeat' first
   | (with_reducible exact ih0 _ _ _ _ _)
   | (with_reducible exact ih1 _ _ _ _ _)
   | (with_reducible exact ih2 _ _ _ _ _ _)
   | (with_reducible exact iceboxlaw9_Make.mono _ _ _)
   | (with_reducible exact iceboxlaw9_awake.mono _)
   | (with_reducible exact iceboxref1_Batches.mono _ _ _)
   | (with_reducible exact replay_Put.mono _ _ _)
   | (with_reducible exact replay_Scan.mono _ _)
   | (with_reducible exact LeO.refl _)
   | (with_reducible exact LeO.none _)
   | (with_reducible refine LeO.ite ?_ ?_)
   | (with_reducible refine LeO.bind ?_ (fun _ => ?_))
   | exact ih0 _ _ _ _ _
   | exact ih1 _ _ _ _ _
   | exact ih2 _ _ _ _ _ _
   | exact iceboxlaw9_Make.mono _ _ _
   | exact iceboxlaw9_awake.mono _
   | exact iceboxref1_Batches.mono _ _ _
   | exact replay_Put.mono _ _ _
   | exact replay_Scan.mono _ _
   | exact LeO.none _
   | refine LeO.ite ?_ ?_
   | refine LeO.bind ?_ (fun _ => ?_)
theorem iceboxlaw9_ReplayCuts.mono : ∀ a0 a1 a2 k, LeO (iceboxlaw9_ReplayCuts.f k a0 a1 a2) (iceboxlaw9_ReplayCuts.f (k + 1) a0 a1 a2) := by
 intro a0 a1 a2 k
 obtain ⟨ih0, ih1, ih2⟩ := iceboxlaw9_ReplayCuts.mono_l k
 unfold iceboxlaw9_ReplayCuts.f
 repeat' first
  | (with_reducible exact ih0 _ _ _ _ _)
  | (with_reducible exact ih1 _ _ _ _ _)
  | (with_reducible exact ih2 _ _ _ _ _ _)
  | (with_reducible exact iceboxlaw9_Make.mono _ _ _)
  | (with_reducible exact iceboxlaw9_awake.mono _)
  | (with_reducible exact iceboxref1_Batches.mono _ _ _)
  | (with_reducible exact replay_Put.mono _ _ _)
  | (with_reducible exact replay_Scan.mono _ _)
  | (with_reducible exact LeO.refl _)
  | (with_reducible exact LeO.none _)
  | (with_reducible refine LeO.ite ?_ ?_)
  | (with_reducible refine LeO.bind ?_ (fun _ => ?_))
  | exact ih0 _ _ _ _ _
  | exact ih1 _ _ _ _ _
  | exact ih2 _ _ _ _ _ _
  | exact iceboxlaw9_Make.mono _ _ _
  | exact iceboxlaw9_awake.mono _
  | exact iceboxref1_Batches.mono _ _ _
  | exact replay_Put.mono _ _ _
  | exact replay_Scan.mono _ _
  | exact LeO.none _
  | refine LeO.ite ?_ ?_
  | refine LeO.bind ?_ (fun _ => ?_)
set_option maxHeartbeats 80000000 in
set_option maxRecDepth 100000 in
theorem iceboxlaw9_ReplayCuts.calls (k : Nat) (A0 : Option Addr) (c0 : Nat) (l0 : List Int) (a1 : Int) (a2 : Int) (r : Bool) (w : World) (hR_ : Aside0 (r = true)) (hr0 : Kd.C (Kd.int .u8) w A0 l0.length l0) (hc0 : l0.length ≤ c0) (h : iceboxlaw9_ReplayCuts.f k l0 a1 a2 = some r) :
 Calls Try.prog 7 #[.slice A0 l0.length c0, .int .u16 a1, .int .u16 a2] w fun e w' => e = .returned (.bool r) ∧ Below w.heap.size w w' := by
 have hu37 := Try.underlying37
 have HR0 := Aside0.mk hr0
 have HC0 := Aside0.mk hc0
 clear hr0 hc0
 have HB := Aside0.mk (Below.refl w.heap.size w)
 have H : (if (l0.length : Int) > 40 then ((iceboxlaw9_awake.f k).bind fun t479 => (some t479)) else ((iceboxlaw9_Make.f k l0 (wrap64 (1 + (wrap64 (a1))))).bind fun t480 => (iceboxlaw9_ReplayCuts.l0 k a2 t480 ([] : List Int) ([] : List Int) 0))) = some r := h
 clear h
 by_cases c4 : (l0.length : Int) > 40
 ·
  rw [if_pos c4] at H
  have c4b0 : decide (40 < (l0.length : Int)) = true := decide_eq_true c4
  have c4b1 : decide (40 < l0.length) = true := decide_eq_true (by omega)
  clear c4
  replace H := Option.bind_eq_some_iff.mp H
  obtain ⟨t479, A50, H⟩ := H
  replace H : (some t479) = some r := H
  have A5 := Aside0.mk A50
  clear A50
  obtain rfl := Option.some.inj H
  go_enter Try.func7, Try.ntmps7
  go_wp2_with (first | ((with_reducible refine gate_callee (f := 28) rfl ?_); refine goesL_ (some 21) rfl rfl Try.func28 (by kernel_rfl) rfl #[] rfl (by (try simp only [List.map_toArray, List.map_cons, List.map_nil]); first | done | rfl | (simp only [List.length_drop, List.length_take]; rfl)) ?_; (with_reducible refine (iceboxlaw9_awake.calls k  t479 _ A5.out).mono ?_); rintro e w6 ⟨rfl, hb⟩; refine ⟨_, rfl, ?_⟩; have n0_ := Aside0.mk (below_step (by repeat (first | (with_reducible first | exact HB.out | apply below_alloc | apply pw_below_drewN | apply below_drew1) | exact HB.out | exact Below.refl _ _)) hb); clear HB; have HB := n0_; clear n0_; (try clear hb); (try clear hb2); (try clear hk); (try clear hi)))
  go_ret
  exact ⟨by first | rfl | (simp [errW_none, errW_some] <;> rfl) | (simp [*, errW_none, errW_some] <;> rfl), by repeat (first | (with_reducible first | exact HB.out | apply below_alloc | apply pw_below_drewN | apply below_drew1) | exact HB.out | exact Below.refl _ _)⟩
 ·
  rw [if_neg c4] at H
  have c4b0 : decide (40 < (l0.length : Int)) = false := decide_eq_false c4
  have c4b1 : decide (40 < l0.length) = false := decide_eq_false (by omega)
  clear c4
  replace H := Option.bind_eq_some_iff.mp H
  obtain ⟨t480, A70, H⟩ := H
  replace H : (iceboxlaw9_ReplayCuts.l0 k a2 t480 ([] : List Int) ([] : List Int) 0) = some r := H
  have A7 := Aside0.mk A70
  clear A70
  have H' := Aside0.mk H
  clear H
  go_enter Try.func7, Try.ntmps7
  go_wp2_with (first | ((with_reducible refine gate_callee (f := 29) rfl ?_); refine goesL_ (some 26) rfl rfl Try.func29 (by kernel_rfl) rfl #[.slice A0 l0.length c0, .int .i64 (wrap64 (1 + (wrap64 (a1))))] rfl (by (try simp only [List.map_toArray, List.map_cons, List.map_nil]); first | done | rfl | (simp only [List.length_drop, List.length_take]; rfl)) ?_; (with_reducible refine (iceboxlaw9_Make.calls k _ _ l0 (wrap64 (1 + (wrap64 (a1)))) t480 _ ?side1 ?side2 A7.out).mono ?_); (case side1 => repeat (first | exact HR0.out | (with_reducible refine Kd.C_alloc ?_ _) | (with_reducible refine Kd.C_drewN ?_ _) | (with_reducible refine Kd.C_drew ?_))); (case side2 => exact HC0.out); rintro e w8 ⟨v481, rfl, ho0, hb⟩; refine ⟨_, rfl, ?_⟩; have n0_ := Aside0.mk (Kd.S_lower ho0 (below_size (by repeat (first | (with_reducible first | exact HB.out | apply below_alloc | apply pw_below_drewN | apply below_drew1) | exact HB.out | exact Below.refl _ _)))); have n1_ := Aside0.mk (below_step (by repeat (first | (with_reducible first | exact HB.out | apply below_alloc | apply pw_below_drewN | apply below_drew1) | exact HB.out | exact Below.refl _ _)) hb); clear HB; have HO482 := n0_; have HB := n1_; clear n0_ n1_; (try clear hb); (try clear hb2); (try clear hk); (try clear hi); (try clear ho0)))
  try simp only [Act.put, List.setIfInBounds_toArray, List.set_cons_zero, List.set_cons_succ]
  go_loopg [8, 9, 10] k (fun kq v8 v9 v10 w' => ∃ (x8_1 : List Int) (x9_1 : List Int) (x10_1 : Int), v10 = .int .i64 x10_1 ∧ Aside0 (iceboxlaw9_ReplayCuts.l0 kq a2 t480 x8_1 x9_1 x10_1 = some r) ∧ Aside0 (kq ≤ k) ∧ Aside0 (Kd.S k37 37 w' w.heap.size (fun _ => True) v481 t480) ∧ Aside0 (Kd.R (Kd.int .u8) 5 w' w.heap.size (fun _ => True) v8 x8_1) ∧ Aside0 (Kd.R (Kd.int .i64) 3 w' w.heap.size (fun _ => True) v9 x9_1) ∧ Aside0 (Below w.heap.size w w'))
  case atStart => exact ⟨(([] : List Int)), (([] : List Int)), (0), (by first | rfl | (simp; done) | (simp [*]; done)), H', ⟨Nat.le_refl _⟩, ⟨by (with_reducible repeat (first | apply Kd.S_alloc | apply Kd.S_drewN | apply Kd.S_drew)); exact HO482.out⟩, ⟨by first | exact Kd.R_nil _ _ _ _ _ | exact Kd.N_nil _ _ _ _ _ | exact Kd.V_nil _ _ _ _ _ | exact Kd.Q_nil _ _ _ _ _ | exact Kd.S_nil _ _ _ _ _⟩, ⟨by first | exact Kd.R_nil _ _ _ _ _ | exact Kd.N_nil _ _ _ _ _ | exact Kd.V_nil _ _ _ _ _ | exact Kd.Q_nil _ _ _ _ _ | exact Kd.S_nil _ _ _ _ _⟩, ⟨by repeat (first | (with_reducible first | exact HB.out | apply below_alloc | apply pw_below_drewN | apply below_drew1) | exact HB.out | exact Below.refl _ _)⟩⟩
  case round =>
   clear H'
   obtain ⟨x8_1, x9_1, x10_1, rfl, HA, HK1, HO_7, HO_8, HO_9, HB⟩ := hrel
   cases gk with
   | zero => exact absurd HA.out (by simp [iceboxlaw9_ReplayCuts.l0])
   | succ k1 =>
    have H := HA.out
    clear HA
    simp only [iceboxlaw9_ReplayCuts.l0] at H
    by_cases c9 : x10_1 < (t480.length : Int)
    ·
     rw [if_pos c9] at H
     have c9b0 : decide (x10_1 < (t480.length : Int)) = true := decide_eq_true c9
     clear c9
     by_cases c10 : 0 ≤ x10_1
     ·
      rw [if_pos c10] at H
      have c10b0 : decide (0 ≤ x10_1) = true := decide_eq_true c10
      clear c10
      replace H := Option.bind_eq_some_iff.mp H
      obtain ⟨t484, A110, H⟩ := H
      replace H : (if x8_1.length + t484.length < 140737488355328 then ((some (x8_1 ++ t484 : List Int)).bind fun y487 => (if x9_1.length < 17592186044416 then (iceboxlaw9_ReplayCuts.l0 k1 a2 t480 y487 (x9_1 ++ [(y487.length : Int)]) (wrap64 (x10_1 + 1))) else (none))) else (none)) = some r := H
      have A11 := Aside0.mk A110
      clear A110
      by_cases c12 : x8_1.length + t484.length < 140737488355328
      ·
       rw [if_pos c12] at H
       have LMc12 := Aside0.mk c12
       clear c12
       obtain ⟨y487, hy487⟩ : ∃ y_ : List Int, y_ = (x8_1 ++ t484) := ⟨_, rfl⟩
       replace H : (if x9_1.length < 17592186044416 then (iceboxlaw9_ReplayCuts.l0 k1 a2 t480 y487 (x9_1 ++ [(y487.length : Int)]) (wrap64 (x10_1 + 1))) else (none)) = some r := by first | (rw [hy487]; with_reducible exact H) | (have H2_ := (Option.bind_some _ _).symm.trans H; rw [hy487]; with_reducible exact H2_) | (have H2_ := (Option.bind_some _ _).symm.trans H; with_reducible exact H2_) | with_reducible exact H | (rw [hy487]; exact H) | exact H
       have Ny487 := Aside0.mk hy487
       clear hy487
       by_cases c13 : x9_1.length < 17592186044416
       ·
        rw [if_pos c13] at H
        have LMc13 := Aside0.mk c13
        clear c13
        obtain ⟨y490, hy490⟩ : ∃ y_ : List Int, y_ = (x9_1 ++ [(y487.length : Int)]) := ⟨_, rfl⟩
        replace H : (iceboxlaw9_ReplayCuts.l0 k1 a2 t480 y487 y490 (wrap64 (x10_1 + 1))) = some r := by first | (rw [hy490]; with_reducible exact H) | (have H2_ := (Option.bind_some _ _).symm.trans H; rw [hy490]; with_reducible exact H2_) | (have H2_ := (Option.bind_some _ _).symm.trans H; with_reducible exact H2_) | with_reducible exact H | (rw [hy490]; exact H) | exact H
        have Ny490 := Aside0.mk hy490
        clear hy490
        have H' := Aside0.mk H
        clear H
        obtain ⟨Ao14, co14, eo14⟩ := Kd.S_slice HO_7.out
        subst eo14
        have p483 : 0 ≤ (x10_1 : Int) := of_decide_eq_true (by first | (with_reducible assumption) | assumption)
        have q483 : x10_1 < (t480.length : Int) := of_decide_eq_true (by first | (with_reducible assumption) | assumption)
        obtain ⟨ad483, A483_1, c483_1, e483, hx483_0, hx483_1, hl483_1, hi483_1⟩ := at_T37 (Kd.S_reads' HO_7.out).2.2 x10_1 p483 q483
        cases e483
        obtain ⟨ce483, hce483, hMe483, hcc483⟩ := Kd.S_get HO_7.out z37 x10_1 p483 (by first | exact q483 | exact of_decide_eq_true (by first | (with_reducible assumption) | assumption) | (have e_ := (Kd.S_reads' HO_7.out).1; omega))
        obtain ⟨ve483_1, rfl, ge483_1⟩ := k37_openM hMe483
        have hv483_1 := hcc483 1 _ rfl
        rw [add_field _ _ 1 (by omega)] at hv483_1
        replace hv483_1 := Option.some.inj (hv483_1.symm.trans hx483_1)
        rw [hv483_1] at ge483_1
        have HL483_1 := Aside0.mk (show Kd.R k27 27 _ _ _ _ ((rd_T37 t480 x10_1).f1) from ge483_1)
        clear hv483_1 ge483_1
        clear hcc483 hce483
        have HR483_1 := Aside0.mk hi483_1
        have HC483_1 := Aside0.mk hl483_1
        clear hi483_1 hl483_1
        replace p483 := eq_true p483
        replace q483 := eq_true q483
        go_wp2_with (first | ((with_reducible refine gate_callee (f := 30) rfl ?_); refine goesL_ (some 38) rfl rfl Try.func30 (by kernel_rfl) rfl #[.agg #[.int .i64 ((rd_T37 t480 x10_1).f0), .slice A483_1 ((rd_T37 t480 x10_1).f1).length c483_1]] rfl (by (try simp only [List.map_toArray, List.map_cons, List.map_nil]); first | done | rfl | (simp only [List.length_drop, List.length_take]; rfl)) ?_; (with_reducible refine (replay_Put.calls k1 ((rd_T37 t480 x10_1).f0) _ _ ((rd_T37 t480 x10_1).f1) t484 _ ?side1 ?side2 A11.out).mono ?_); (case side1 => repeat (first | exact (by repeat (first | (with_reducible exact HR483_1.out) | (with_reducible refine Kd.C_alloc ?_ _) | (with_reducible refine Kd.C_drewN ?_ _) | (with_reducible refine Kd.C_drew ?_) | exact HR483_1.out)) | (with_reducible refine Kd.C_alloc ?_ _) | (with_reducible refine Kd.C_drewN ?_ _) | (with_reducible refine Kd.C_drew ?_))); (case side2 => exact HC483_1.out); rintro e w15 ⟨v485, rfl, ho0, hb⟩; refine ⟨_, rfl, ?_⟩; have n0_ := Aside0.mk (Kd.S_below (by (with_reducible repeat (first | apply Kd.S_alloc | apply Kd.S_drewN | apply Kd.S_drew)); exact HO_7.out) hb); have n1_ := Aside0.mk (Kd.R_elder' (by (with_reducible repeat (first | apply Kd.R_alloc | apply Kd.R_drewN | apply Kd.R_drew)); exact HO_8.out) (Kd.R_base ho0) hb); have n2_ := Aside0.mk (Kd.R_below (by (with_reducible repeat (first | apply Kd.R_alloc | apply Kd.R_drewN | apply Kd.R_drew)); exact HO_9.out) hb); have n3_ := Aside0.mk (Kd.R_below (by (with_reducible repeat (first | apply Kd.R_alloc | apply Kd.R_drewN | apply Kd.R_drew)); exact HL483_1.out) hb); have n4_ := Aside0.mk (Kd.R_lower (Kd.R_new' ho0 (Kd.R_lt (by (with_reducible repeat (first | apply Kd.R_alloc | apply Kd.R_drewN | apply Kd.R_drew)); exact HO_8.out))) (below_size (by repeat (first | (with_reducible first | exact HB.out | apply below_alloc | apply pw_below_drewN | apply below_drew1) | exact HB.out | exact Below.refl _ _)))); have n5_ := Aside0.mk (Kd.C_below (by repeat (first | (with_reducible exact HR483_1.out) | (with_reducible refine Kd.C_alloc ?_ _) | (with_reducible refine Kd.C_drewN ?_ _) | (with_reducible refine Kd.C_drew ?_) | exact HR483_1.out)) hb); have n6_ := Aside0.mk (below_step (by repeat (first | (with_reducible first | exact HB.out | apply below_alloc | apply pw_below_drewN | apply below_drew1) | exact HB.out | exact Below.refl _ _)) hb); clear HO_7; clear HO_8; clear HO_9; clear HL483_1; clear HR483_1; clear HB; have HO_7 := n0_; have HO_8 := n1_; have HO_9 := n2_; have HL483_1 := n3_; have HO486 := n4_; have HR483_1 := n5_; have HB := n6_; clear n0_ n1_ n2_ n3_ n4_ n5_ n6_; (try clear hb); (try clear hb2); (try clear hk); (try clear hi); (try clear ho0); obtain ⟨Ao17, co17, eo17⟩ := Kd.R_slice HO486.out; subst eo17) | ((with_reducible refine gate_builtin (b := .append) (xs := #[.tmp 33, .tmp 38]) rfl ?_); (try (refine gate_guard (by rfl) ?_; dsimp only)); at_builtin; refine Kd.R_append_rows (Kd.int .u8) (w0 := w) w.heap.size rfl (.tmp 33) (.tmp 38) 33 5 (.int .u8 0) 1 rfl Try.underlying33 info5 rfl (by decide) (by omega) u8 x8_1 t484 _ _ _ (fun k_ => some k_ ≠ (.slice Ao17 t484.length co17 : Value).ownBlock) (fun _ => False) rfl rfl ?aO ?aR (fun _ _ h => h) (fun _ h => h.elim) ?aF ?aB ?aS ?aL ?_; (case aR => repeat (first | exact (Kd.R_reads' HO486.out).2.2 | (with_reducible refine Kd.C_alloc ?_ _) | (with_reducible refine Kd.C_drewN ?_ _) | (with_reducible refine Kd.C_drew ?_))); (case aB => exact (by repeat (first | (with_reducible first | exact HB.out | apply below_alloc | apply pw_below_drewN | apply below_drew1) | exact HB.out | exact Below.refl _ _))); (case aF => exact (fun k_ hk => Kd.fresh' (Kd.R_lt (by (with_reducible repeat (first | apply Kd.R_alloc | apply Kd.R_drewN | apply Kd.R_drew)); exact HO486.out)) k_ hk)); (case aO => exact (by (with_reducible repeat (first | apply Kd.R_alloc | apply Kd.R_drewN | apply Kd.R_drew)); exact Kd.R_mono HO_8.out (fun _ hk => hk.2))); (case aS => exact (below_size (by repeat (first | (with_reducible first | exact HB.out | apply below_alloc | apply pw_below_drewN | apply below_drew1) | exact HB.out | exact Below.refl _ _)))); (case aL => have := LMc12.out; omega); intro v488 w16 ho hb hg hat; rw [← Ny487.out] at ho; have n0_ := Aside0.mk (Kd.S_over' (by (with_reducible repeat (first | apply Kd.S_alloc | apply Kd.S_drewN | apply Kd.S_drew)); exact HO_7.out) (Kd.R_typed (by (with_reducible repeat (first | apply Kd.R_alloc | apply Kd.R_drewN | apply Kd.R_drew)); exact HO_8.out)) (by decide) hg); have n1_ := Aside0.mk (Kd.R_over' (by (with_reducible repeat (first | apply Kd.R_alloc | apply Kd.R_drewN | apply Kd.R_drew)); exact HO_9.out) (Kd.R_typed (by (with_reducible repeat (first | apply Kd.R_alloc | apply Kd.R_drewN | apply Kd.R_drew)); exact HO_8.out)) (by decide) hg); have n2_ := Aside0.mk (Kd.R_over' (by (with_reducible repeat (first | apply Kd.R_alloc | apply Kd.R_drewN | apply Kd.R_drew)); exact HL483_1.out) (Kd.R_typed (by (with_reducible repeat (first | apply Kd.R_alloc | apply Kd.R_drewN | apply Kd.R_drew)); exact HO_8.out)) (by decide) hg); have n3_ := Aside0.mk (Kd.R_after (ok := (fun _ => True)) (by (with_reducible repeat (first | apply Kd.R_alloc | apply Kd.R_drewN | apply Kd.R_drew)); exact HO486.out) hg hat); have n4_ := Aside0.mk (hb); have n5_ := Aside0.mk (ho); clear HO_7; clear HO_9; clear HL483_1; clear HO486; clear HB; clear HO_8; have HO_7 := n0_; have HO_9 := n1_; have HL483_1 := n2_; have HO486 := n3_; have HB := n4_; have HO489 := n5_; clear n0_ n1_ n2_ n3_ n4_ n5_; clear ho hb hg hat; obtain ⟨Ao18, co18, eo18⟩ := Kd.R_slice HO489.out; subst eo18) | ((with_reducible refine gate_builtin (b := .append) (xs := #[.tmp 40, .tmp 43]) rfl ?_); (try (refine gate_guard (by rfl) ?_; dsimp only)); at_builtin; refine Kd.R_append (Kd.int .i64) (w0 := w) w.heap.size rfl (.tmp 40) (.tmp 43) 50 3 (.int .i64 0) 8 rfl Try.underlying50 info3 rfl (by decide) (by omega) u9 x9_1 (y487.length : Int) [.int .i64 (y487.length : Int)] (fun _ => True) (fun _ => False) rfl rfl ?aP (fun _ hk => hk.elim) ?aF ?aO ?aB ?aS ?aL ?_; (case aP => exact rfl); (case aB => exact (by repeat (first | (with_reducible first | exact HB.out | apply below_alloc | apply pw_below_drewN | apply below_drew1) | exact HB.out | exact Below.refl _ _))); (case aF => exact (fun _ _ => trivial)); (case aO => exact (by (with_reducible repeat (first | apply Kd.R_alloc | apply Kd.R_drewN | apply Kd.R_drew)); exact HO_9.out)); (case aS => exact (below_size (by repeat (first | (with_reducible first | exact HB.out | apply below_alloc | apply pw_below_drewN | apply below_drew1) | exact HB.out | exact Below.refl _ _)))); (case aL => have := LMc13.out; omega); intro v491 w19 ho hb hg hat; rw [← Ny490.out] at ho; have n0_ := Aside0.mk (Kd.S_over' (by (with_reducible repeat (first | apply Kd.S_alloc | apply Kd.S_drewN | apply Kd.S_drew)); exact HO_7.out) (Kd.R_typed (by (with_reducible repeat (first | apply Kd.R_alloc | apply Kd.R_drewN | apply Kd.R_drew)); exact HO_9.out)) (by decide) hg); have n1_ := Aside0.mk (Kd.R_over' (by (with_reducible repeat (first | apply Kd.R_alloc | apply Kd.R_drewN | apply Kd.R_drew)); exact HL483_1.out) (Kd.R_typed (by (with_reducible repeat (first | apply Kd.R_alloc | apply Kd.R_drewN | apply Kd.R_drew)); exact HO_9.out)) (by decide) hg); have n2_ := Aside0.mk (Kd.R_over' (by (with_reducible repeat (first | apply Kd.R_alloc | apply Kd.R_drewN | apply Kd.R_drew)); exact HO486.out) (Kd.R_typed (by (with_reducible repeat (first | apply Kd.R_alloc | apply Kd.R_drewN | apply Kd.R_drew)); exact HO_9.out)) (by decide) hg); have n3_ := Aside0.mk (Kd.R_over' (by (with_reducible repeat (first | apply Kd.R_alloc | apply Kd.R_drewN | apply Kd.R_drew)); exact HO489.out) (Kd.R_typed (by (with_reducible repeat (first | apply Kd.R_alloc | apply Kd.R_drewN | apply Kd.R_drew)); exact HO_9.out)) (by decide) hg); have n4_ := Aside0.mk (hb); have n5_ := Aside0.mk (ho); clear HO_7; clear HL483_1; clear HO486; clear HO489; clear HB; clear HO_9; have HO_7 := n0_; have HL483_1 := n1_; have HO486 := n2_; have HO489 := n3_; have HB := n4_; have HO492 := n5_; clear n0_ n1_ n2_ n3_ n4_ n5_; clear ho hb hg hat))
        go_roundg k1
        case measure => have := HK1.out; omega
        case rel => exact ⟨(y487), (y490), (wrap64 (x10_1 + 1)), (by first | rfl | (simp; done) | (simp [*]; done)), H', ⟨by have := HK1.out; omega⟩, ⟨by (with_reducible repeat (first | apply Kd.S_alloc | apply Kd.S_drewN | apply Kd.S_drew)); exact HO_7.out⟩, ⟨by (with_reducible repeat (first | apply Kd.R_alloc | apply Kd.R_drewN | apply Kd.R_drew)); exact Kd.R_mono HO489.out (fun _ hk => trivial)⟩, ⟨by (with_reducible repeat (first | apply Kd.R_alloc | apply Kd.R_drewN | apply Kd.R_drew)); exact HO492.out⟩, ⟨by repeat (first | (with_reducible first | exact HB.out | apply below_alloc | apply pw_below_drewN | apply below_drew1) | exact HB.out | exact Below.refl _ _)⟩⟩
       ·
        rw [if_neg c13] at H
        exact absurd H (by simp)
      ·
       rw [if_neg c12] at H
       exact absurd H (by simp)
     ·
      rw [if_neg c10] at H
      exact absurd H (by simp)
    ·
     rw [if_neg c9] at H
     have c9b0 : decide (x10_1 < (t480.length : Int)) = false := decide_eq_false c9
     clear c9
     by_cases c20 : (wrap64 ((x8_1.length : Int) + 1)) = 0
     ·
      rw [if_pos c20] at H
      exact absurd H (by simp)
     ·
      rw [if_neg c20] at H
      have c20b0 : ((wrap64 ((x8_1.length : Int) + 1)) == 0) = false := beq_eq_false_iff_ne.mpr c20
      have c20b1 : ((wrap64 ((x8_1.length : Int) + 1)) != 0) = true := bne_iff_ne.mpr c20
      have HC21 := Aside0.mk H
      clear H
      obtain ⟨Ao22, co22, eo22⟩ := Kd.S_slice HO_7.out
      subst eo22
      obtain ⟨Ao23, co23, eo23⟩ := Kd.R_slice HO_8.out
      subst eo23
      go_upto_block 2 with (fail)
      go_cut [12, 13] (fun v12 v13 wc => ∃ (kq : Nat) (x12_20 : Int) (x13_20 : Int), v12 = .int .i64 x12_20 ∧ v13 = .int .i64 x13_20 ∧ Aside0 (iceboxlaw9_ReplayCuts.j2 kq t480 x8_1 (Int.tmod (wrap64 (a2)) (wrap64 ((x8_1.length : Int) + 1))) x12_20 x13_20 = some r) ∧ Aside0 (kq ≤ k1) ∧ Aside0 (Kd.S k37 37 wc w.heap.size (fun _ => True) (.slice Ao22 t480.length co22) t480) ∧ Aside0 (Kd.R (Kd.int .u8) 5 wc w.heap.size (fun _ => True) (.slice Ao23 x8_1.length co23) x8_1) ∧ Aside0 (Below w.heap.size w wc))
      case first =>
       have H := HC21.out
       clear HC21
       have H' := Aside0.mk H
       clear H
       go_wp2
       go_loopg [12, 13] k1 (fun kq v12 v13 w' => ∃ (x12_2 : Int) (x13_2 : Int), v12 = .int .i64 x12_2 ∧ v13 = .int .i64 x13_2 ∧ Aside0 (iceboxlaw9_ReplayCuts.l1 kq t480 x8_1 x9_1 (Int.tmod (wrap64 (a2)) (wrap64 ((x8_1.length : Int) + 1))) x12_2 x13_2 = some r) ∧ Aside0 (kq ≤ k1) ∧ Aside0 (Kd.S k37 37 w' w.heap.size (fun _ => True) (.slice Ao22 t480.length co22) t480) ∧ Aside0 (Kd.R (Kd.int .u8) 5 w' w.heap.size (fun _ => True) (.slice Ao23 x8_1.length co23) x8_1) ∧ Aside0 (Kd.R (Kd.int .i64) 3 w' w.heap.size (fun _ => True) u9 x9_1) ∧ Aside0 (Below w.heap.size w w'))
       case atStart => exact ⟨(0), (0), (by first | rfl | (simp; done) | (simp [*]; done)), (by first | rfl | (simp; done) | (simp [*]; done)), H', ⟨Nat.le_refl _⟩, ⟨by (with_reducible repeat (first | apply Kd.S_alloc | apply Kd.S_drewN | apply Kd.S_drew)); exact HO_7.out⟩, ⟨by (with_reducible repeat (first | apply Kd.R_alloc | apply Kd.R_drewN | apply Kd.R_drew)); exact HO_8.out⟩, ⟨by (with_reducible repeat (first | apply Kd.R_alloc | apply Kd.R_drewN | apply Kd.R_drew)); exact HO_9.out⟩, ⟨by repeat (first | (with_reducible first | exact HB.out | apply below_alloc | apply pw_below_drewN | apply below_drew1) | exact HB.out | exact Below.refl _ _)⟩⟩
       case round =>
        clear H'
        obtain ⟨x12_2, x13_2, rfl, rfl, HA, HK2, HO_7, HO_8, HO_9, HB⟩ := hrel
        cases gk with
        | zero => exact absurd HA.out (by simp [iceboxlaw9_ReplayCuts.l1])
        | succ k2 =>
         have H := HA.out
         clear HA
         simp only [iceboxlaw9_ReplayCuts.l1] at H
         by_cases c24 : x12_2 < (x9_1.length : Int)
         ·
          rw [if_pos c24] at H
          have c24b0 : decide (x12_2 < (x9_1.length : Int)) = true := decide_eq_true c24
          clear c24
          (first | rw [c24b0] | (simp only [i64_w, i32_w]; rw [c24b0]) | skip)
          by_cases c25 : 0 ≤ x12_2
          ·
           rw [if_pos c25] at H
           have c25b0 : decide (0 ≤ x12_2) = true := decide_eq_true c25
           clear c25
           by_cases c26 : (rd x9_1 x12_2) ≤ (Int.tmod (wrap64 (a2)) (wrap64 ((x8_1.length : Int) + 1)))
           ·
            rw [if_pos c26] at H
            have c26b0 : decide ((rd x9_1 x12_2) ≤ (Int.tmod (wrap64 (a2)) (wrap64 ((x8_1.length : Int) + 1)))) = true := decide_eq_true c26
            clear c26
            have H' := Aside0.mk H
            clear H
            obtain ⟨Ao27, co27, eo27⟩ := Kd.R_slice HO_9.out
            subst eo27
            have p493 : 0 ≤ (x12_2 : Int) := of_decide_eq_true (by first | (with_reducible assumption) | assumption)
            have q493 : x12_2 < (x9_1.length : Int) := of_decide_eq_true (by first | (with_reducible assumption) | assumption)
            obtain ⟨ad493, e493, hx493_0⟩ := Kd.at_int (Kd.R_reads' HO_9.out).2.2 x12_2 p493 q493
            cases e493
            replace p493 := eq_true p493
            replace q493 := eq_true q493
            have p494 : 0 ≤ (x12_2 : Int) := of_decide_eq_true (by first | (with_reducible assumption) | assumption)
            have q494 : x12_2 < (x9_1.length : Int) := of_decide_eq_true (by first | (with_reducible assumption) | assumption)
            obtain ⟨ad494, e494, hx494_0⟩ := Kd.at_int (Kd.R_reads' HO_9.out).2.2 x12_2 p494 q494
            obtain rfl : ad493 = ad494 := (by injection e494)
            replace p494 := eq_true p494
            replace q494 := eq_true q494
            go_wp2
            go_roundg k2
            case measure => have := HK1.out; have := HK2.out; omega
            case rel => exact ⟨(wrap64 (x12_2 + 1)), (rd x9_1 x12_2), (by first | rfl | (simp; done) | (simp [*]; done)), (by first | rfl | (simp; done) | (simp [*]; done)), H', ⟨by have := HK1.out; have := HK2.out; omega⟩, ⟨by (with_reducible repeat (first | apply Kd.S_alloc | apply Kd.S_drewN | apply Kd.S_drew)); exact HO_7.out⟩, ⟨by (with_reducible repeat (first | apply Kd.R_alloc | apply Kd.R_drewN | apply Kd.R_drew)); exact HO_8.out⟩, ⟨by (with_reducible repeat (first | apply Kd.R_alloc | apply Kd.R_drewN | apply Kd.R_drew)); exact HO_9.out⟩, ⟨by repeat (first | (with_reducible first | exact HB.out | apply below_alloc | apply pw_below_drewN | apply below_drew1) | exact HB.out | exact Below.refl _ _)⟩⟩
           ·
            rw [if_neg c26] at H
            have c26b0 : decide ((rd x9_1 x12_2) ≤ (Int.tmod (wrap64 (a2)) (wrap64 ((x8_1.length : Int) + 1)))) = false := decide_eq_false c26
            clear c26
            have H' := Aside0.mk H
            clear H
            obtain ⟨Ao28, co28, eo28⟩ := Kd.R_slice HO_9.out
            subst eo28
            have p493 : 0 ≤ (x12_2 : Int) := of_decide_eq_true (by first | (with_reducible assumption) | assumption)
            have q493 : x12_2 < (x9_1.length : Int) := of_decide_eq_true (by first | (with_reducible assumption) | assumption)
            obtain ⟨ad493, e493, hx493_0⟩ := Kd.at_int (Kd.R_reads' HO_9.out).2.2 x12_2 p493 q493
            cases e493
            replace p493 := eq_true p493
            replace q493 := eq_true q493
            go_wp2
            go_meet
            case rel => exact ⟨_, (x12_2), (x13_2), (by first | rfl | (simp; done) | (simp [*]; done)), (by first | rfl | (simp; done) | (simp [*]; done)), H', ⟨by have := HK1.out; have := HK2.out; first | omega | exact Nat.le_refl _⟩, ⟨by (with_reducible repeat (first | apply Kd.S_alloc | apply Kd.S_drewN | apply Kd.S_drew)); exact HO_7.out⟩, ⟨by (with_reducible repeat (first | apply Kd.R_alloc | apply Kd.R_drewN | apply Kd.R_drew)); exact HO_8.out⟩, ⟨by repeat (first | (with_reducible first | exact HB.out | apply below_alloc | apply pw_below_drewN | apply below_drew1) | exact HB.out | exact Below.refl _ _)⟩⟩
          ·
           rw [if_neg c25] at H
           exact absurd H (by simp)
         ·
          rw [if_neg c24] at H
          have c24b0 : decide (x12_2 < (x9_1.length : Int)) = false := decide_eq_false c24
          clear c24
          (first | rw [c24b0] | (simp only [i64_w, i32_w]; rw [c24b0]) | skip)
          have H' := Aside0.mk H
          clear H
          obtain ⟨Ao29, co29, eo29⟩ := Kd.R_slice HO_9.out
          subst eo29
          go_wp2
          go_meet
          case rel => exact ⟨_, (x12_2), (x13_2), (by first | rfl | (simp; done) | (simp [*]; done)), (by first | rfl | (simp; done) | (simp [*]; done)), H', ⟨by have := HK1.out; have := HK2.out; first | omega | exact Nat.le_refl _⟩, ⟨by (with_reducible repeat (first | apply Kd.S_alloc | apply Kd.S_drewN | apply Kd.S_drew)); exact HO_7.out⟩, ⟨by (with_reducible repeat (first | apply Kd.R_alloc | apply Kd.R_drewN | apply Kd.R_drew)); exact HO_8.out⟩, ⟨by repeat (first | (with_reducible first | exact HB.out | apply below_alloc | apply pw_below_drewN | apply below_drew1) | exact HB.out | exact Below.refl _ _)⟩⟩
      case rest =>
       as_aux_lemma =>
        clear HC21
        obtain ⟨kq, x12_20, x13_20, rfl, rfl, HA, HJ20, HO_7, HO_8, HB⟩ := hcut
        cases kq with
        | zero => exact absurd HA.out (by simp [iceboxlaw9_ReplayCuts.j2])
        | succ kj20 =>
         have H := HA.out
         clear HA
         simp only [iceboxlaw9_ReplayCuts.j2] at H
         replace H := Option.bind_eq_some_iff.mp H
         obtain ⟨⟨t495, t496⟩, A300, H⟩ := H
         replace H : (if 0 ≤ (Int.tmod (wrap64 (a2)) (wrap64 ((x8_1.length : Int) + 1))) then (if (Int.tmod (wrap64 (a2)) (wrap64 ((x8_1.length : Int) + 1))) ≤ (x8_1.length : Int) then ((replay_Scan.f kj20 (x8_1.take ((Int.tmod (wrap64 (a2)) (wrap64 ((x8_1.length : Int) + 1))) : Int).toNat)).bind fun bt503 => ((iceboxref1_Batches.f kj20 t495 t480).bind fun t507 => (if t507 = true then (if t496 = (x8_1.length : Int) then (if 0 ≤ x12_20 then (if x12_20 ≤ (t480.length : Int) then ((iceboxref1_Batches.f kj20 bt503.1 (t480.take (x12_20 : Int).toNat)).bind fun t512 => (if t512 = true then (if bt503.2 = x13_20 then ((iceboxlaw9_awake.f kj20).bind fun t513 => (some t513)) else (some false)) else (some false))) else (none)) else (none)) else (some false)) else (some false)))) else (none)) else (none)) = some r := H
         have A30 := Aside0.mk A300
         clear A300
         obtain ⟨ji31, hji31⟩ : ∃ j_ : Int, (Int.tmod (wrap64 (a2)) (wrap64 ((x8_1.length : Int) + 1))) = j_ := ⟨_, rfl⟩
         replace H : (if 0 ≤ (ji31) then (if (ji31) ≤ (x8_1.length : Int) then ((replay_Scan.f kj20 (x8_1.take ((ji31) : Int).toNat)).bind fun bt503 => ((iceboxref1_Batches.f kj20 t495 t480).bind fun t507 => (if t507 = true then (if t496 = (x8_1.length : Int) then (if 0 ≤ x12_20 then (if x12_20 ≤ (t480.length : Int) then ((iceboxref1_Batches.f kj20 bt503.1 (t480.take (x12_20 : Int).toNat)).bind fun t512 => (if t512 = true then (if bt503.2 = x13_20 then ((iceboxlaw9_awake.f kj20).bind fun t513 => (some t513)) else (some false)) else (some false))) else (none)) else (none)) else (some false)) else (some false)))) else (none)) else (none)) = some r := by first | (rw [hji31] at H; exact H) | (simp only [hji31] at H ⊢; exact H)
         (try rw [hji31] at A30)
         by_cases c32 : 0 ≤ (ji31)
         ·
          rw [if_pos c32] at H
          have c32b0 := eq_true c32
          have c32b1 : decide (0 ≤ (ji31)) = true := decide_eq_true c32
          clear c32
          by_cases c33 : (ji31) ≤ (x8_1.length : Int)
          ·
           rw [if_pos c33] at H
           have c33b0 := eq_true c33
           have c33b1 : decide ((ji31) ≤ (x8_1.length : Int)) = true := decide_eq_true c33
           clear c33
           obtain ⟨y499, hy499⟩ : ∃ y_ : List Int, y_ = (x8_1.take ((ji31) : Int).toNat) := ⟨_, rfl⟩
           replace H : ((replay_Scan.f kj20 y499).bind fun bt503 => ((iceboxref1_Batches.f kj20 t495 t480).bind fun t507 => (if t507 = true then (if t496 = (x8_1.length : Int) then (if 0 ≤ x12_20 then (if x12_20 ≤ (t480.length : Int) then ((iceboxref1_Batches.f kj20 bt503.1 (t480.take (x12_20 : Int).toNat)).bind fun t512 => (if t512 = true then (if bt503.2 = x13_20 then ((iceboxlaw9_awake.f kj20).bind fun t513 => (some t513)) else (some false)) else (some false))) else (none)) else (none)) else (some false)) else (some false)))) = some r := by first | (rw [hy499]; with_reducible exact H) | (have H2_ := (Option.bind_some _ _).symm.trans H; rw [hy499]; with_reducible exact H2_) | (have H2_ := (Option.bind_some _ _).symm.trans H; with_reducible exact H2_) | with_reducible exact H | (rw [hy499]; exact H) | exact H
           have Ny499 := Aside0.mk hy499
           clear hy499
           replace H := Option.bind_eq_some_iff.mp H
           obtain ⟨⟨t503, t504⟩, A340, H⟩ := H
           replace H : ((iceboxref1_Batches.f kj20 t495 t480).bind fun t507 => (if t507 = true then (if t496 = (x8_1.length : Int) then (if 0 ≤ x12_20 then (if x12_20 ≤ (t480.length : Int) then ((iceboxref1_Batches.f kj20 t503 (t480.take (x12_20 : Int).toNat)).bind fun t512 => (if t512 = true then (if t504 = x13_20 then ((iceboxlaw9_awake.f kj20).bind fun t513 => (some t513)) else (some false)) else (some false))) else (none)) else (none)) else (some false)) else (some false))) = some r := H
           have A34 := Aside0.mk A340
           clear A340
           replace H := Option.bind_eq_some_iff.mp H
           obtain ⟨t507, A350, H⟩ := H
           replace H : (if t507 = true then (if t496 = (x8_1.length : Int) then (if 0 ≤ x12_20 then (if x12_20 ≤ (t480.length : Int) then ((iceboxref1_Batches.f kj20 t503 (t480.take (x12_20 : Int).toNat)).bind fun t512 => (if t512 = true then (if t504 = x13_20 then ((iceboxlaw9_awake.f kj20).bind fun t513 => (some t513)) else (some false)) else (some false))) else (none)) else (none)) else (some false)) else (some false)) = some r := H
           have A35 := Aside0.mk A350
           clear A350
           by_cases c36 : t507 = true
           ·
            subst c36
            have H1 : (if t496 = (x8_1.length : Int) then (if 0 ≤ x12_20 then (if x12_20 ≤ (t480.length : Int) then ((iceboxref1_Batches.f kj20 t503 (t480.take (x12_20 : Int).toNat)).bind fun t512 => (if t512 = true then (if t504 = x13_20 then ((iceboxlaw9_awake.f kj20).bind fun t513 => (some t513)) else (some false)) else (some false))) else (none)) else (none)) else (some false)) = some r := by rw [if_pos rfl] at H; exact H
            clear H
            have H := H1
            clear H1
            by_cases c37 : t496 = (x8_1.length : Int)
            ·
             rw [if_pos c37] at H
             have c37b0 : (t496 == (x8_1.length : Int)) = true := beq_iff_eq.mpr c37
             have c37b1 : (t496 != (x8_1.length : Int)) = false := bne_eq_false_iff_eq.mpr c37
             clear c37
             by_cases c38 : 0 ≤ x12_20
             ·
              rw [if_pos c38] at H
              have c38b0 := eq_true c38
              have c38b1 : decide (0 ≤ x12_20) = true := decide_eq_true c38
              clear c38
              by_cases c39 : x12_20 ≤ (t480.length : Int)
              ·
               rw [if_pos c39] at H
               have c39b0 := eq_true c39
               have c39b1 : decide (x12_20 ≤ (t480.length : Int)) = true := decide_eq_true c39
               clear c39
               obtain ⟨y508, hy508⟩ : ∃ y_ : List (S37), y_ = (t480.take (x12_20 : Int).toNat) := ⟨_, rfl⟩
               replace H : ((iceboxref1_Batches.f kj20 t503 y508).bind fun t512 => (if t512 = true then (if t504 = x13_20 then ((iceboxlaw9_awake.f kj20).bind fun t513 => (some t513)) else (some false)) else (some false))) = some r := by first | (rw [hy508]; with_reducible exact H) | (have H2_ := (Option.bind_some _ _).symm.trans H; rw [hy508]; with_reducible exact H2_) | (have H2_ := (Option.bind_some _ _).symm.trans H; with_reducible exact H2_) | with_reducible exact H | (rw [hy508]; exact H) | exact H
               have Ny508 := Aside0.mk hy508
               clear hy508
               replace H := Option.bind_eq_some_iff.mp H
               obtain ⟨t512, A400, H⟩ := H
               replace H : (if t512 = true then (if t504 = x13_20 then ((iceboxlaw9_awake.f kj20).bind fun t513 => (some t513)) else (some false)) else (some false)) = some r := H
               have A40 := Aside0.mk A400
               clear A400
               by_cases c41 : t512 = true
               ·
                subst c41
                have H1 : (if t504 = x13_20 then ((iceboxlaw9_awake.f kj20).bind fun t513 => (some t513)) else (some false)) = some r := by rw [if_pos rfl] at H; exact H
                clear H
                have H := H1
                clear H1
                by_cases c42 : t504 = x13_20
                ·
                 rw [if_pos c42] at H
                 have c42b0 : (t504 == x13_20) = true := beq_iff_eq.mpr c42
                 have c42b1 : (t504 != x13_20) = false := bne_eq_false_iff_eq.mpr c42
                 clear c42
                 replace H := Option.bind_eq_some_iff.mp H
                 obtain ⟨t513, A430, H⟩ := H
                 replace H : (some t513) = some r := H
                 have A43 := Aside0.mk A430
                 clear A430
                 obtain rfl := Option.some.inj H
                 go_wp2_with (first | ((with_reducible refine gate_callee (f := 31) rfl ?_); refine goesL_ (some 71) rfl rfl Try.func31 (by kernel_rfl) rfl #[.slice Ao23 x8_1.length co23] rfl (by (try simp only [List.map_toArray, List.map_cons, List.map_nil]); first | done | rfl | (simp only [List.length_drop, List.length_take]; rfl)) ?_; (with_reducible refine (replay_Scan.calls kj20 _ _ x8_1 t495 t496 _ ?side1 ?side2 A30.out).mono ?_); (case side1 => repeat (first | exact (Kd.R_reads' HO_8.out).2.2 | (with_reducible refine Kd.C_alloc ?_ _) | (with_reducible refine Kd.C_drewN ?_ _) | (with_reducible refine Kd.C_drew ?_))); (case side2 => exact (Kd.R_reads' HO_8.out).2.1); rintro e w44 ⟨v497, rfl, ho0, hb⟩; refine ⟨_, rfl, ?_⟩; have n0_ := Aside0.mk (Kd.S_elder' (by (with_reducible repeat (first | apply Kd.S_alloc | apply Kd.S_drewN | apply Kd.S_drew)); exact HO_7.out) (Kd.S_base ho0) hb); have n1_ := Aside0.mk (Kd.R_below (by (with_reducible repeat (first | apply Kd.R_alloc | apply Kd.R_drewN | apply Kd.R_drew)); exact HO_8.out) hb); have n2_ := Aside0.mk (Kd.S_lower (Kd.S_new' ho0 (Kd.S_lt (by (with_reducible repeat (first | apply Kd.S_alloc | apply Kd.S_drewN | apply Kd.S_drew)); exact HO_7.out))) (below_size (by repeat (first | (with_reducible first | exact HB.out | apply below_alloc | apply pw_below_drewN | apply below_drew1) | exact HB.out | exact Below.refl _ _)))); have n3_ := Aside0.mk (below_step (by repeat (first | (with_reducible first | exact HB.out | apply below_alloc | apply pw_below_drewN | apply below_drew1) | exact HB.out | exact Below.refl _ _)) hb); clear HO_7; clear HO_8; clear HB; have HO_7 := n0_; have HO_8 := n1_; have HO498 := n2_; have HB := n3_; clear n0_ n1_ n2_ n3_; (try clear hb); (try clear hb2); (try clear hk); (try clear hi); (try clear ho0); have q45 : ((ji31) : Int) ≤ ((x8_1.length : Int) : Int) := of_decide_eq_true (by first | (with_reducible assumption) | assumption); obtain ⟨i045, hi045, _, hsz45, _⟩ := info_parts info5; have hroom45 : x8_1.length ≤ co23 := (Kd.R_reads' HO_8.out).2.1; have hC45 : Kd.C (Kd.int .u8) _ Ao23 x8_1.length x8_1 := (Kd.R_reads' HO_8.out).2.2; have hcut45 := cut_to (P := Try.prog) 33 5 .i64 Try.underlying33 hi045 Ao23 x8_1.length co23 (ji31) (of_decide_eq_true (by first | (with_reducible assumption) | assumption)) q45 hroom45; have hr45 := Kd.C_take (m := ((ji31) : Int).toNat) hC45 (by omega); have hy45 : y499.length = ((ji31) : Int).toNat := (by rw [Ny499.out, List.length_take]; omega); rw [← Ny499.out] at hr45; rw [← hy45] at hcut45; have HR502 := Aside0.mk hr45; have HC502 := Aside0.mk (show y499.length ≤ co23 from by omega); clear hr45 hC45 hroom45 hi045 hsz45; have KY45 := Aside0.mk hy45; clear hy45; have KL45 := Aside0.mk (show ((ji31) : Int).toNat ≤ x8_1.length from by omega); replace q45 := eq_true q45) | ((with_reducible refine gate_callee (f := 31) rfl ?_); refine goesL_ (some 78) rfl rfl Try.func31 (by kernel_rfl) rfl #[.slice Ao23 y499.length co23] rfl (by (try simp only [List.map_toArray, List.map_cons, List.map_nil]); first | done | rfl | (simp only [List.length_drop, List.length_take]; rfl)) ?_; (with_reducible refine (replay_Scan.calls kj20 _ _ y499 t503 t504 _ ?side1 ?side2 A34.out).mono ?_); (case side1 => repeat (first | exact (by repeat (first | (with_reducible exact HR502.out) | (with_reducible refine Kd.C_alloc ?_ _) | (with_reducible refine Kd.C_drewN ?_ _) | (with_reducible refine Kd.C_drew ?_) | exact HR502.out)) | (with_reducible refine Kd.C_alloc ?_ _) | (with_reducible refine Kd.C_drewN ?_ _) | (with_reducible refine Kd.C_drew ?_))); (case side2 => exact HC502.out); rintro e w46 ⟨v505, rfl, ho0, hb⟩; refine ⟨_, rfl, ?_⟩; have n0_ := Aside0.mk (Kd.S_elder' (by (with_reducible repeat (first | apply Kd.S_alloc | apply Kd.S_drewN | apply Kd.S_drew)); exact HO_7.out) (Kd.S_base ho0) hb); have n1_ := Aside0.mk (Kd.R_below (by (with_reducible repeat (first | apply Kd.R_alloc | apply Kd.R_drewN | apply Kd.R_drew)); exact HO_8.out) hb); have n2_ := Aside0.mk (Kd.S_elder' (by (with_reducible repeat (first | apply Kd.S_alloc | apply Kd.S_drewN | apply Kd.S_drew)); exact HO498.out) (Kd.S_base ho0) hb); have n3_ := Aside0.mk (Kd.S_lower (Kd.S_new' (Kd.S_new' ho0 (Kd.S_lt (by (with_reducible repeat (first | apply Kd.S_alloc | apply Kd.S_drewN | apply Kd.S_drew)); exact HO_7.out))) (Kd.S_lt (by (with_reducible repeat (first | apply Kd.S_alloc | apply Kd.S_drewN | apply Kd.S_drew)); exact HO498.out))) (below_size (by repeat (first | (with_reducible first | exact HB.out | apply below_alloc | apply pw_below_drewN | apply below_drew1) | exact HB.out | exact Below.refl _ _)))); have n4_ := Aside0.mk (Kd.C_below (by repeat (first | (with_reducible exact HR502.out) | (with_reducible refine Kd.C_alloc ?_ _) | (with_reducible refine Kd.C_drewN ?_ _) | (with_reducible refine Kd.C_drew ?_) | exact HR502.out)) hb); have n5_ := Aside0.mk (below_step (by repeat (first | (with_reducible first | exact HB.out | apply below_alloc | apply pw_below_drewN | apply below_drew1) | exact HB.out | exact Below.refl _ _)) hb); clear HO_7; clear HO_8; clear HO498; clear HR502; clear HB; have HO_7 := n0_; have HO_8 := n1_; have HO498 := n2_; have HO506 := n3_; have HR502 := n4_; have HB := n5_; clear n0_ n1_ n2_ n3_ n4_ n5_; (try clear hb); (try clear hb2); (try clear hk); (try clear hi); (try clear ho0); obtain ⟨Ao47, co47, eo47⟩ := Kd.S_slice HO498.out; subst eo47) | ((with_reducible refine gate_callee (f := 32) rfl ?_); refine goesL_ (some 83) rfl rfl Try.func32 (by kernel_rfl) rfl #[.slice Ao47 t495.length co47, .slice Ao22 t480.length co22] rfl (by (try simp only [List.map_toArray, List.map_cons, List.map_nil]); first | done | rfl | (simp only [List.length_drop, List.length_take]; rfl)) ?_; (with_reducible refine (iceboxref1_Batches.calls kj20 _ _ t495 _ _ t480 true _ ?side1 ?side2 ?side3 ?side4 A35.out).mono ?_); (case side1 => repeat (first | exact (Kd.S_reads' HO498.out).2.2 | (with_reducible refine Kd.C_alloc ?_ _) | (with_reducible refine Kd.C_drewN ?_ _) | (with_reducible refine Kd.C_drew ?_))); (case side2 => exact (Kd.S_reads' HO498.out).2.1); (case side3 => repeat (first | exact (Kd.S_reads' HO_7.out).2.2 | (with_reducible refine Kd.C_alloc ?_ _) | (with_reducible refine Kd.C_drewN ?_ _) | (with_reducible refine Kd.C_drew ?_))); (case side4 => exact (Kd.S_reads' HO_7.out).2.1); rintro e w48 ⟨rfl, hb⟩; refine ⟨_, rfl, ?_⟩; have n0_ := Aside0.mk (Kd.S_below (by (with_reducible repeat (first | apply Kd.S_alloc | apply Kd.S_drewN | apply Kd.S_drew)); exact HO_7.out) hb); have n1_ := Aside0.mk (Kd.R_below (by (with_reducible repeat (first | apply Kd.R_alloc | apply Kd.R_drewN | apply Kd.R_drew)); exact HO_8.out) hb); have n2_ := Aside0.mk (Kd.S_below (by (with_reducible repeat (first | apply Kd.S_alloc | apply Kd.S_drewN | apply Kd.S_drew)); exact HO498.out) hb); have n3_ := Aside0.mk (Kd.S_below (by (with_reducible repeat (first | apply Kd.S_alloc | apply Kd.S_drewN | apply Kd.S_drew)); exact HO506.out) hb); have n4_ := Aside0.mk (Kd.C_below (by repeat (first | (with_reducible exact HR502.out) | (with_reducible refine Kd.C_alloc ?_ _) | (with_reducible refine Kd.C_drewN ?_ _) | (with_reducible refine Kd.C_drew ?_) | exact HR502.out)) hb); have n5_ := Aside0.mk (below_step (by repeat (first | (with_reducible first | exact HB.out | apply below_alloc | apply pw_below_drewN | apply below_drew1) | exact HB.out | exact Below.refl _ _)) hb); clear HO_7; clear HO_8; clear HO498; clear HO506; clear HR502; clear HB; have HO_7 := n0_; have HO_8 := n1_; have HO498 := n2_; have HO506 := n3_; have HR502 := n4_; have HB := n5_; clear n0_ n1_ n2_ n3_ n4_ n5_; (try clear hb); (try clear hb2); (try clear hk); (try clear hi); have q49 : (x12_20 : Int) ≤ ((t480.length : Int) : Int) := of_decide_eq_true (by first | (with_reducible assumption) | assumption); obtain ⟨i049, hi049, _, hsz49, _⟩ := info_parts info37; have hroom49 : t480.length ≤ co22 := (Kd.S_reads' HO_7.out).2.1; have hC49 : Kd.C k37 _ Ao22 t480.length t480 := (Kd.S_reads' HO_7.out).2.2; have hcut49 := cut_to (P := Try.prog) 48 37 .i64 Try.underlying48 hi049 Ao22 t480.length co22 x12_20 (of_decide_eq_true (by first | (with_reducible assumption) | assumption)) q49 hroom49; have hr49 := Kd.C_take (m := (x12_20 : Int).toNat) hC49 (by omega); have hy49 : y508.length = (x12_20 : Int).toNat := (by rw [Ny508.out, List.length_take]; omega); rw [← Ny508.out] at hr49; rw [← hy49] at hcut49; have HR511 := Aside0.mk hr49; have HC511 := Aside0.mk (show y508.length ≤ co22 from by omega); clear hr49 hC49 hroom49 hi049 hsz49; have KY49 := Aside0.mk hy49; clear hy49; have KL49 := Aside0.mk (show (x12_20 : Int).toNat ≤ t480.length from by omega); replace q49 := eq_true q49; obtain ⟨Ao50, co50, eo50⟩ := Kd.S_slice HO506.out; subst eo50) | (go_at_call 32; (with_reducible refine (iceboxref1_Batches.calls kj20 _ _ t503 _ _ y508 true _ ?side1 ?side2 ?side3 ?side4 A40.out).mono ?_); (case side1 => repeat (first | exact (Kd.S_reads' HO506.out).2.2 | (with_reducible refine Kd.C_alloc ?_ _) | (with_reducible refine Kd.C_drewN ?_ _) | (with_reducible refine Kd.C_drew ?_))); (case side2 => exact (Kd.S_reads' HO506.out).2.1); (case side3 => repeat (first | exact (by repeat (first | (with_reducible exact HR511.out) | (with_reducible refine Kd.C_alloc ?_ _) | (with_reducible refine Kd.C_drewN ?_ _) | (with_reducible refine Kd.C_drew ?_) | exact HR511.out)) | (with_reducible refine Kd.C_alloc ?_ _) | (with_reducible refine Kd.C_drewN ?_ _) | (with_reducible refine Kd.C_drew ?_))); (case side4 => exact HC511.out); rintro e w51 ⟨rfl, hb⟩; have n0_ := Aside0.mk (Kd.S_below (by (with_reducible repeat (first | apply Kd.S_alloc | apply Kd.S_drewN | apply Kd.S_drew)); exact HO_7.out) hb); have n1_ := Aside0.mk (Kd.R_below (by (with_reducible repeat (first | apply Kd.R_alloc | apply Kd.R_drewN | apply Kd.R_drew)); exact HO_8.out) hb); have n2_ := Aside0.mk (Kd.S_below (by (with_reducible repeat (first | apply Kd.S_alloc | apply Kd.S_drewN | apply Kd.S_drew)); exact HO498.out) hb); have n3_ := Aside0.mk (Kd.S_below (by (with_reducible repeat (first | apply Kd.S_alloc | apply Kd.S_drewN | apply Kd.S_drew)); exact HO506.out) hb); have n4_ := Aside0.mk (Kd.C_below (by repeat (first | (with_reducible exact HR502.out) | (with_reducible refine Kd.C_alloc ?_ _) | (with_reducible refine Kd.C_drewN ?_ _) | (with_reducible refine Kd.C_drew ?_) | exact HR502.out)) hb); have n5_ := Aside0.mk (Kd.C_below (by repeat (first | (with_reducible exact HR511.out) | (with_reducible refine Kd.C_alloc ?_ _) | (with_reducible refine Kd.C_drewN ?_ _) | (with_reducible refine Kd.C_drew ?_) | exact HR511.out)) hb); have n6_ := Aside0.mk (below_step (by repeat (first | (with_reducible first | exact HB.out | apply below_alloc | apply pw_below_drewN | apply below_drew1) | exact HB.out | exact Below.refl _ _)) hb); clear HO_7; clear HO_8; clear HO498; clear HO506; clear HR502; clear HR511; clear HB; have HO_7 := n0_; have HO_8 := n1_; have HO498 := n2_; have HO506 := n3_; have HR502 := n4_; have HR511 := n5_; have HB := n6_; clear n0_ n1_ n2_ n3_ n4_ n5_ n6_; (try clear hb); (try clear hb2); (try clear hk); (try clear hi)) | (go_at_call 28; (with_reducible refine (iceboxlaw9_awake.calls kj20  t513 _ A43.out).mono ?_); rintro e w52 ⟨rfl, hb⟩; have n0_ := Aside0.mk (Kd.S_below (by (with_reducible repeat (first | apply Kd.S_alloc | apply Kd.S_drewN | apply Kd.S_drew)); exact HO_7.out) hb); have n1_ := Aside0.mk (Kd.R_below (by (with_reducible repeat (first | apply Kd.R_alloc | apply Kd.R_drewN | apply Kd.R_drew)); exact HO_8.out) hb); have n2_ := Aside0.mk (Kd.S_below (by (with_reducible repeat (first | apply Kd.S_alloc | apply Kd.S_drewN | apply Kd.S_drew)); exact HO498.out) hb); have n3_ := Aside0.mk (Kd.S_below (by (with_reducible repeat (first | apply Kd.S_alloc | apply Kd.S_drewN | apply Kd.S_drew)); exact HO506.out) hb); have n4_ := Aside0.mk (Kd.C_below (by repeat (first | (with_reducible exact HR502.out) | (with_reducible refine Kd.C_alloc ?_ _) | (with_reducible refine Kd.C_drewN ?_ _) | (with_reducible refine Kd.C_drew ?_) | exact HR502.out)) hb); have n5_ := Aside0.mk (Kd.C_below (by repeat (first | (with_reducible exact HR511.out) | (with_reducible refine Kd.C_alloc ?_ _) | (with_reducible refine Kd.C_drewN ?_ _) | (with_reducible refine Kd.C_drew ?_) | exact HR511.out)) hb); have n6_ := Aside0.mk (below_step (by repeat (first | (with_reducible first | exact HB.out | apply below_alloc | apply pw_below_drewN | apply below_drew1) | exact HB.out | exact Below.refl _ _)) hb); clear HO_7; clear HO_8; clear HO498; clear HO506; clear HR502; clear HR511; clear HB; have HO_7 := n0_; have HO_8 := n1_; have HO498 := n2_; have HO506 := n3_; have HR502 := n4_; have HR511 := n5_; have HB := n6_; clear n0_ n1_ n2_ n3_ n4_ n5_ n6_; (try clear hb); (try clear hb2); (try clear hk); (try clear hi)))
                 go_ret
                 exact ⟨by first | rfl | (simp [errW_none, errW_some] <;> rfl) | (simp only [← hji31]; first | rfl | (simp [errW_none, errW_some] <;> rfl)) | (simp [*, errW_none, errW_some] <;> rfl), by repeat (first | (with_reducible first | exact HB.out | apply below_alloc | apply pw_below_drewN | apply below_drew1) | exact HB.out | exact Below.refl _ _)⟩
                ·
                 rw [if_neg c42] at H
                 have c42b0 : (t504 == x13_20) = false := beq_eq_false_iff_ne.mpr c42
                 have c42b1 : (t504 != x13_20) = true := bne_iff_ne.mpr c42
                 exact absurd ((Option.some.inj H).trans hR_.out) (by decide)
               ·
                replace c41 := Bool.eq_false_iff.mpr c41
                subst c41
                have H1 : (some false) = some r := by rw [if_neg (show ¬ (false = true) by decide)] at H; exact H
                clear H
                have H := H1
                clear H1
                exact absurd ((Option.some.inj H).trans hR_.out) (by decide)
              ·
               rw [if_neg c39] at H
               exact absurd H (by simp)
             ·
              rw [if_neg c38] at H
              exact absurd H (by simp)
            ·
             rw [if_neg c37] at H
             have c37b0 : (t496 == (x8_1.length : Int)) = false := beq_eq_false_iff_ne.mpr c37
             have c37b1 : (t496 != (x8_1.length : Int)) = true := bne_iff_ne.mpr c37
             exact absurd ((Option.some.inj H).trans hR_.out) (by decide)
           ·
            replace c36 := Bool.eq_false_iff.mpr c36
            subst c36
            have H1 : (some false) = some r := by rw [if_neg (show ¬ (false = true) by decide)] at H; exact H
            clear H
            have H := H1
            clear H1
            exact absurd ((Option.some.inj H).trans hR_.out) (by decide)
          ·
           rw [if_neg c33] at H
           exact absurd H (by simp)
         ·
          rw [if_neg c32] at H
          exact absurd H (by simp)

/-- THE ONE PURE STATEMENT of iceboxlaw9_ReplayCuts: yours. -/
def iceboxlaw9_ReplayCuts.Pure : Prop := ∀ (l0 : List Int) (a1 : Int) (a2 : Int), l0.length ≤ maxLen → l0.length * 1 ≤ 140737488351232 → (∀ x ∈ l0, (Lit.int .u8 x).wf = true) → (Lit.int .u16 a1).wf = true → (Lit.int .u16 a2).wf = true → ∃ k, iceboxlaw9_ReplayCuts.f k l0 a1 a2 = some true
theorem iceboxlaw9_ReplayCuts.walk (P : iceboxlaw9_ReplayCuts.Pure) (a0 : Option Addr) (len0 cap0 : Nat) (z0 : List Int) (a1 : Int) (a2 : Int) (w : World) (w0 : (a0 = none ∧ len0 = 0 ∧ cap0 = 0 ∧ z0 = []) ∨ ∃ x, a0 = some x ∧ len0 ≤ cap0 ∧ cap0 ≤ maxLen ∧ z0.length = cap0 ∧ (∀ i, i < z0.length → w.cell? (x.add i) = some (.int .u8 (z0.getD i 0))) ∧ ∀ n ∈ z0, (Lit.int .u8 n).wf = true) (y0 : len0 * 1 ≤ 140737488351232) (w1 : (Lit.int .u16 a1).wf = true) (w2 : (Lit.int .u16 a2).wf = true) :
 Calls Try.prog 7 #[.slice a0 len0 cap0, .int .u16 a1, .int .u16 a2] w fun e w' => e = .returned (.bool true) ∧ Below w.heap.size w w' := by
 obtain ⟨l0, rfl, hr0, hm0, hw0, hc0⟩ := ReadsInt.ofRowC w0
 obtain ⟨k, h⟩ := P l0 a1 a2 hm0 y0 hw0 w1 w2
 refine (iceboxlaw9_ReplayCuts.calls k _ _ l0 a1 a2 true w ⟨rfl⟩ (Kd.C_of_reads (d := (0 : Int)) (h1 := fun _ => rfl) hr0) hc0 h).mono ?_
 rintro e w' ⟨rfl, hd⟩
 exact ⟨rfl, hd⟩

end Go.Proofs.Ytgannkfpfhdhjaa.PReplayCuts
