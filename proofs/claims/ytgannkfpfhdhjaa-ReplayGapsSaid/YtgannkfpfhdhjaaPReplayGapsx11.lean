/- The functions that a law reaches, as Lean functions, each with the contract that its Go code comes to just these answers. Written by a program of this claim's author (wip/mkprint.py). No conditions. -/
import Derived.Test.YtgannkfpfhdhjaaPReplayGapsx0
import Derived.Test.YtgannkfpfhdhjaaPReplayGapsx5
import Derived.Test.YtgannkfpfhdhjaaPReplayGapsx7
import Derived.Test.YtgannkfpfhdhjaaPReplayGapsx8
import Derived.Test.YtgannkfpfhdhjaaPReplayGapsx9
import Derived.Test.YtgannkfpfhdhjaaPReplayGapsx10
namespace Go.Proofs.Ytgannkfpfhdhjaa.PReplayGaps
open Go.RowKit Go.Proofs.YtgannkfpfhdhjaaW.PrintWords Go.Proofs.YtgannkfpfhdhjaaW.PrintLast Go.Proofs.YtgannkfpfhdhjaaW.PrintMore
attribute [local go_sem] max2_int min2_int max_two min_two max_three min_three max_four min_four   -- for this text's walks alone
set_option linter.unusedVariables false
set_option linter.unusedSimpArgs false

/-! ### iceboxlaw9_ReplayGaps: function 11 -/
mutual
def iceboxlaw9_ReplayGaps.j0 : Nat → List Int → Int → Int → Bool → Option (Bool)
 | 0, _, _, _, _ => none
 | k + 1, x0, x1, x2, x26 => if x26 = true then ((iceboxlaw9_awake.f k).bind fun t489 => (some t489)) else ((iceboxlaw9_Make.f k x0 1).bind fun t490 => (if (wrap64 ((t490.length : Int) - 1)) = 0 then (none) else (iceboxlaw9_ReplayGaps.l0 k x2 t490 (wrap64 (1 + (Int.tmod (wrap64 (x1)) (wrap64 ((t490.length : Int) - 1))))) (wrap64 (1 + (Int.tmod (wrap64 (x1)) (wrap64 ((t490.length : Int) - 1))))))))
def iceboxlaw9_ReplayGaps.l0 : Nat → Int → List (S37) → Int → Int → Option (Bool)
 | 0, _, _, _, _ => none
 | k + 1, x2, x7, x8, x9 => if x9 < (x7.length : Int) then (if 0 ≤ x9 then (iceboxlaw9_ReplayGaps.l0 k x2 (x7.set (x9 : Int).toNat (⟨wrap64 (((rd_T37 x7 x9).f0) + (wrap64 (x2))), (rd_T37 x7 x9).f1⟩ : S37)) x8 (wrap64 (x9 + 1))) else (none)) else (iceboxlaw9_ReplayGaps.l1 k x7 x8 ([] : List Int) 0)
def iceboxlaw9_ReplayGaps.l1 : Nat → List (S37) → Int → List Int → Int → Option (Bool)
 | 0, _, _, _, _ => none
 | k + 1, x7, x8, x10, x11 => if x11 < (x7.length : Int) then (if 0 ≤ x11 then ((replay_Put.f k ((rd_T37 x7 x11).f0) ((rd_T37 x7 x11).f1)).bind fun t496 => (if x10.length + t496.length < 140737488355328 then (iceboxlaw9_ReplayGaps.l1 k x7 x8 (x10 ++ t496) (wrap64 (x11 + 1))) else (none))) else (none)) else ((replay_Scan.f k x10).bind fun bt502 => ((replay_Join.f k (([x10] : List (List Int))) 0).bind fun t509 => (if 0 ≤ x8 then (if x8 ≤ (x7.length : Int) then ((iceboxref1_Batches.f k bt502.1 (x7.take (x8 : Int).toNat)).bind fun t517 => (if t517 = true then ((iceboxref1_Batches.f k t509 (x7.take (x8 : Int).toNat)).bind fun t523 => (if t523 = true then ((replay_Put.f k 0 ([] : List (S27))).bind fun t524 => (if (t524.length : Int) = 0 then ((iceboxlaw9_awake.f k).bind fun t527 => (some t527)) else (some false))) else (some false))) else (some false))) else (none)) else (none))))
end
def iceboxlaw9_ReplayGaps.f (k : Nat) (l0 : List Int) (a1 : Int) (a2 : Int) : Option (Bool) := if (l0.length : Int) < 2 then (iceboxlaw9_ReplayGaps.j0 k l0 a1 a2 true) else (if (l0.length : Int) > 30 then (iceboxlaw9_ReplayGaps.j0 k l0 a1 a2 true) else (iceboxlaw9_ReplayGaps.j0 k l0 a1 a2 (a2 == 0)))
theorem iceboxlaw9_ReplayGaps.mono_l : ∀ k, (∀ y0 y1 y2 y3, LeO (iceboxlaw9_ReplayGaps.j0 k y0 y1 y2 y3) (iceboxlaw9_ReplayGaps.j0 (k + 1) y0 y1 y2 y3)) ∧ (∀ y0 y1 y2 y3, LeO (iceboxlaw9_ReplayGaps.l0 k y0 y1 y2 y3) (iceboxlaw9_ReplayGaps.l0 (k + 1) y0 y1 y2 y3)) ∧ (∀ y0 y1 y2 y3, LeO (iceboxlaw9_ReplayGaps.l1 k y0 y1 y2 y3) (iceboxlaw9_ReplayGaps.l1 (k + 1) y0 y1 y2 y3))
 | 0 => ⟨fun _ _ _ _ r h => by simp [iceboxlaw9_ReplayGaps.j0] at h, fun _ _ _ _ r h => by simp [iceboxlaw9_ReplayGaps.l0] at h, fun _ _ _ _ r h => by simp [iceboxlaw9_ReplayGaps.l1] at h⟩
 | k + 1 => by
  obtain ⟨ih0, ih1, ih2⟩ := iceboxlaw9_ReplayGaps.mono_l k
  refine ⟨?_, ?_, ?_⟩
  ·
   intro y0 y1 y2 y3
   unfold iceboxlaw9_ReplayGaps.j0
   repeat' first
   | (with_reducible exact ih0 _ _ _ _)
   | (with_reducible exact ih1 _ _ _ _)
   | (with_reducible exact ih2 _ _ _ _)
   | (with_reducible exact iceboxlaw9_Make.mono _ _ _)
   | (with_reducible exact iceboxlaw9_awake.mono _)
   | (with_reducible exact iceboxref1_Batches.mono _ _ _)
   | (with_reducible exact replay_Join.mono _ _ _)
   | (with_reducible exact replay_Put.mono _ _ _)
   | (with_reducible exact replay_Scan.mono _ _)
   | (with_reducible exact LeO.refl _)
   | (with_reducible exact LeO.none _)
   | (with_reducible refine LeO.ite ?_ ?_)
   | (with_reducible refine LeO.bind ?_ (fun _ => ?_))
   | exact ih0 _ _ _ _
   | exact ih1 _ _ _ _
   | exact ih2 _ _ _ _
   | exact iceboxlaw9_Make.mono _ _ _
   | exact iceboxlaw9_awake.mono _
   | exact iceboxref1_Batches.mono _ _ _
   | exact replay_Join.mono _ _ _
   | exact replay_Put.mono _ _ _
   | exact replay_Scan.mono _ _
   | exact LeO.none _
   | refine LeO.ite ?_ ?_
   | refine LeO.bind ?_ (fun _ => ?_)
  ·
   intro y0 y1 y2 y3
   unfold iceboxlaw9_ReplayGaps.l0
   repeat' first
   | (with_reducible exact ih0 _ _ _ _)
   | (with_reducible exact ih1 _ _ _ _)
   | (with_reducible exact ih2 _ _ _ _)
   | (with_reducible exact iceboxlaw9_Make.mono _ _ _)
   | (with_reducible exact iceboxlaw9_awake.mono _)
   | (with_reducible exact iceboxref1_Batches.mono _ _ _)
   | (with_reducible exact replay_Join.mono _ _ _)
   | (with_reducible exact replay_Put.mono _ _ _)
   | (with_reducible exact replay_Scan.mono _ _)
   | (with_reducible exact LeO.refl _)
   | (with_reducible exact LeO.none _)
   | (with_reducible refine LeO.ite ?_ ?_)
   | (with_reducible refine LeO.bind ?_ (fun _ => ?_))
   | exact ih0 _ _ _ _
   | exact ih1 _ _ _ _
   | exact ih2 _ _ _ _
   | exact iceboxlaw9_Make.mono _ _ _
   | exact iceboxlaw9_awake.mono _
   | exact iceboxref1_Batches.mono _ _ _
   | exact replay_Join.mono _ _ _
   | exact replay_Put.mono _ _ _
   | exact replay_Scan.mono _ _
   | exact LeO.none _
   | refine LeO.ite ?_ ?_
   | refine LeO.bind ?_ (fun _ => ?_)
  ·
   intro y0 y1 y2 y3
   unfold iceboxlaw9_ReplayGaps.l1
   repeat' first
   | (with_reducible exact ih0 _ _ _ _)
   | (with_reducible exact ih1 _ _ _ _)
   | (with_reducible exact ih2 _ _ _ _)
   | (with_reducible exact iceboxlaw9_Make.mono _ _ _)
   | (with_reducible exact iceboxlaw9_awake.mono _)
   | (with_reducible exact iceboxref1_Batches.mono _ _ _)
   | (with_reducible exact replay_Join.mono _ _ _)
   | (with_reducible exact replay_Put.mono _ _ _)
   | (with_reducible exact replay_Scan.mono _ _)
   | (with_reducible exact LeO.refl _)
   | (with_reducible exact LeO.none _)
   | (with_reducible refine LeO.ite ?_ ?_)
   | (with_reducible refine LeO.bind ?_ (fun _ => ?_))
   | exact ih0 _ _ _ _
   | exact ih1 _ _ _ _
   | exact ih2 _ _ _ _
   | exact iceboxlaw9_Make.mono _ _ _
   | exact iceboxlaw9_awake.mono _
   | exact iceboxref1_Batches.mono _ _ _
   | exact replay_Join.mono _ _ _
   | exact replay_Put.mono _ _ _
   | exact replay_Scan.mono _ _
   | exact LeO.none _
   | refine LeO.ite ?_ ?_
   | refine LeO.bind ?_ (fun _ => ?_)
theorem iceboxlaw9_ReplayGaps.mono : ∀ a0 a1 a2 k, LeO (iceboxlaw9_ReplayGaps.f k a0 a1 a2) (iceboxlaw9_ReplayGaps.f (k + 1) a0 a1 a2) := by
 intro a0 a1 a2 k
 obtain ⟨ih0, ih1, ih2⟩ := iceboxlaw9_ReplayGaps.mono_l k
 unfold iceboxlaw9_ReplayGaps.f
 repeat' first
  | (with_reducible exact ih0 _ _ _ _)
  | (with_reducible exact ih1 _ _ _ _)
  | (with_reducible exact ih2 _ _ _ _)
  | (with_reducible exact iceboxlaw9_Make.mono _ _ _)
  | (with_reducible exact iceboxlaw9_awake.mono _)
  | (with_reducible exact iceboxref1_Batches.mono _ _ _)
  | (with_reducible exact replay_Join.mono _ _ _)
  | (with_reducible exact replay_Put.mono _ _ _)
  | (with_reducible exact replay_Scan.mono _ _)
  | (with_reducible exact LeO.refl _)
  | (with_reducible exact LeO.none _)
  | (with_reducible refine LeO.ite ?_ ?_)
  | (with_reducible refine LeO.bind ?_ (fun _ => ?_))
  | exact ih0 _ _ _ _
  | exact ih1 _ _ _ _
  | exact ih2 _ _ _ _
  | exact iceboxlaw9_Make.mono _ _ _
  | exact iceboxlaw9_awake.mono _
  | exact iceboxref1_Batches.mono _ _ _
  | exact replay_Join.mono _ _ _
  | exact replay_Put.mono _ _ _
  | exact replay_Scan.mono _ _
  | exact LeO.none _
  | refine LeO.ite ?_ ?_
  | refine LeO.bind ?_ (fun _ => ?_)
set_option maxHeartbeats 80000000 in
set_option maxRecDepth 100000 in
theorem iceboxlaw9_ReplayGaps.calls (k : Nat) (A0 : Option Addr) (c0 : Nat) (l0 : List Int) (a1 : Int) (a2 : Int) (r : Bool) (w : World) (hR_ : Aside0 (r = true)) (hr0 : Kd.C (Kd.int .u8) w A0 l0.length l0) (hc0 : l0.length ≤ c0) (h : iceboxlaw9_ReplayGaps.f k l0 a1 a2 = some r) :
 Calls Try.prog 11 #[.slice A0 l0.length c0, .int .u8 a1, .int .u8 a2] w fun e w' => e = .returned (.bool r) ∧ Below w.heap.size w w' := by
 have hu37 := Try.underlying37
 have HR0 := Aside0.mk hr0
 have HC0 := Aside0.mk hc0
 clear hr0 hc0
 have HB := Aside0.mk (Below.refl w.heap.size w)
 have H : (if (l0.length : Int) < 2 then (iceboxlaw9_ReplayGaps.j0 k l0 a1 a2 true) else (if (l0.length : Int) > 30 then (iceboxlaw9_ReplayGaps.j0 k l0 a1 a2 true) else (iceboxlaw9_ReplayGaps.j0 k l0 a1 a2 (a2 == 0)))) = some r := h
 clear h
 have HC4 := Aside0.mk H
 clear H
 go_enter Try.func11, Try.ntmps11
 go_upto_region 1 with (fail)
 go_cut [26] (fun v26 wc => ∃ (kq : Nat) (x26_3 : Bool), v26 = .bool x26_3 ∧ Aside0 (iceboxlaw9_ReplayGaps.j0 kq l0 a1 a2 x26_3 = some r) ∧ Aside0 (kq ≤ k) ∧ Aside0 (Below w.heap.size w wc))
 case first =>
  have H := HC4.out
  clear HC4
  by_cases c5 : (l0.length : Int) < 2
  ·
   rw [if_pos c5] at H
   have c5b0 : decide ((l0.length : Int) < 2) = true := decide_eq_true c5
   have c5b1 : decide (l0.length < 2) = true := decide_eq_true (by omega)
   clear c5
   (first | rw [c5b0] | (simp only [i64_w, i32_w]; rw [c5b0]) | skip)
   have H' := Aside0.mk H
   clear H
   go_wp2
   go_meet
   case rel => exact ⟨_, (true), (by first | rfl | (simp; done) | (simp [*]; done)), H', ⟨by first | omega | exact Nat.le_refl _⟩, ⟨by repeat (first | (with_reducible first | exact HB.out | apply below_alloc | apply pw_below_drewN | apply below_drew1) | exact HB.out | exact Below.refl _ _)⟩⟩
  ·
   rw [if_neg c5] at H
   have c5b0 : decide ((l0.length : Int) < 2) = false := decide_eq_false c5
   have c5b1 : decide (l0.length < 2) = false := decide_eq_false (by omega)
   clear c5
   (first | rw [c5b0] | (simp only [i64_w, i32_w]; rw [c5b0]) | skip)
   by_cases c6 : (l0.length : Int) > 30
   ·
    rw [if_pos c6] at H
    have c6b0 : decide (30 < (l0.length : Int)) = true := decide_eq_true c6
    have c6b1 : decide (30 < l0.length) = true := decide_eq_true (by omega)
    clear c6
    have H' := Aside0.mk H
    clear H
    go_wp2
    go_meet
    case rel => exact ⟨_, (true), (by first | rfl | (simp; done) | (simp [*]; done)), H', ⟨by first | omega | exact Nat.le_refl _⟩, ⟨by repeat (first | (with_reducible first | exact HB.out | apply below_alloc | apply pw_below_drewN | apply below_drew1) | exact HB.out | exact Below.refl _ _)⟩⟩
   ·
    rw [if_neg c6] at H
    have c6b0 : decide (30 < (l0.length : Int)) = false := decide_eq_false c6
    have c6b1 : decide (30 < l0.length) = false := decide_eq_false (by omega)
    clear c6
    have H' := Aside0.mk H
    clear H
    go_wp2
    go_meet
    case rel => exact ⟨_, ((a2 == 0)), (by first | rfl | (simp; done) | (simp [*]; done)), H', ⟨by first | omega | exact Nat.le_refl _⟩, ⟨by repeat (first | (with_reducible first | exact HB.out | apply below_alloc | apply pw_below_drewN | apply below_drew1) | exact HB.out | exact Below.refl _ _)⟩⟩
 case rest =>
  as_aux_lemma =>
   clear HC4
   obtain ⟨kq, x26_3, rfl, HA, HJ3, HB⟩ := hcut
   cases kq with
   | zero => exact absurd HA.out (by simp [iceboxlaw9_ReplayGaps.j0])
   | succ kj3 =>
    have H := HA.out
    clear HA
    simp only [iceboxlaw9_ReplayGaps.j0] at H
    by_cases c7 : x26_3 = true
    ·
     subst c7
     have H1 : ((iceboxlaw9_awake.f kj3).bind fun t489 => (some t489)) = some r := by rw [if_pos rfl] at H; exact H
     clear H
     have H := H1
     clear H1
     replace H := Option.bind_eq_some_iff.mp H
     obtain ⟨t489, A80, H⟩ := H
     replace H : (some t489) = some r := H
     have A8 := Aside0.mk A80
     clear A80
     obtain rfl := Option.some.inj H
     go_wp2_with (first | ((with_reducible refine gate_callee (f := 28) rfl ?_); refine goesL_ (some 27) rfl rfl Try.func28 (by kernel_rfl) rfl #[] rfl (by (try simp only [List.map_toArray, List.map_cons, List.map_nil]); first | done | rfl | (simp only [List.length_drop, List.length_take]; rfl)) ?_; (with_reducible refine (iceboxlaw9_awake.calls kj3  t489 _ A8.out).mono ?_); rintro e w9 ⟨rfl, hb⟩; refine ⟨_, rfl, ?_⟩; have n0_ := Aside0.mk (below_step (by repeat (first | (with_reducible first | exact HB.out | apply below_alloc | apply pw_below_drewN | apply below_drew1) | exact HB.out | exact Below.refl _ _)) hb); clear HB; have HB := n0_; clear n0_; (try clear hb); (try clear hb2); (try clear hk); (try clear hi)))
     go_ret
     exact ⟨by first | rfl | (simp [errW_none, errW_some] <;> rfl) | (simp [*, errW_none, errW_some] <;> rfl), by repeat (first | (with_reducible first | exact HB.out | apply below_alloc | apply pw_below_drewN | apply below_drew1) | exact HB.out | exact Below.refl _ _)⟩
    ·
     replace c7 := Bool.eq_false_iff.mpr c7
     subst c7
     have H1 : ((iceboxlaw9_Make.f kj3 l0 1).bind fun t490 => (if (wrap64 ((t490.length : Int) - 1)) = 0 then (none) else (iceboxlaw9_ReplayGaps.l0 kj3 a2 t490 (wrap64 (1 + (Int.tmod (wrap64 (a1)) (wrap64 ((t490.length : Int) - 1))))) (wrap64 (1 + (Int.tmod (wrap64 (a1)) (wrap64 ((t490.length : Int) - 1)))))))) = some r := by rw [if_neg (show ¬ (false = true) by decide)] at H; exact H
     clear H
     have H := H1
     clear H1
     replace H := Option.bind_eq_some_iff.mp H
     obtain ⟨t490, A100, H⟩ := H
     replace H : (if (wrap64 ((t490.length : Int) - 1)) = 0 then (none) else (iceboxlaw9_ReplayGaps.l0 kj3 a2 t490 (wrap64 (1 + (Int.tmod (wrap64 (a1)) (wrap64 ((t490.length : Int) - 1))))) (wrap64 (1 + (Int.tmod (wrap64 (a1)) (wrap64 ((t490.length : Int) - 1))))))) = some r := H
     have A10 := Aside0.mk A100
     clear A100
     by_cases c11 : (wrap64 ((t490.length : Int) - 1)) = 0
     ·
      rw [if_pos c11] at H
      exact absurd H (by simp)
     ·
      rw [if_neg c11] at H
      have c11b0 : ((wrap64 ((t490.length : Int) - 1)) == 0) = false := beq_eq_false_iff_ne.mpr c11
      have c11b1 : ((wrap64 ((t490.length : Int) - 1)) != 0) = true := bne_iff_ne.mpr c11
      have H' := Aside0.mk H
      clear H
      go_wp2_with (first | ((with_reducible refine gate_callee (f := 29) rfl ?_); refine goesL_ (some 29) rfl rfl Try.func29 (by kernel_rfl) rfl #[.slice A0 l0.length c0, .int .i64 1] rfl (by (try simp only [List.map_toArray, List.map_cons, List.map_nil]); first | done | rfl | (simp only [List.length_drop, List.length_take]; rfl)) ?_; (with_reducible refine (iceboxlaw9_Make.calls kj3 _ _ l0 1 t490 _ ?side1 ?side2 A10.out).mono ?_); (case side1 => repeat (first | exact (Kd.C_below HR0.out HB.out) | (with_reducible refine Kd.C_alloc ?_ _) | (with_reducible refine Kd.C_drewN ?_ _) | (with_reducible refine Kd.C_drew ?_))); (case side2 => exact HC0.out); rintro e w12 ⟨v491, rfl, ho0, hb⟩; refine ⟨_, rfl, ?_⟩; have n0_ := Aside0.mk (Kd.N_lower (Kd.N_mono (ok' := fun k_ => True) (Kd.S_N (Kd.S_bound ho0)) (fun k_ hk_ => trivial)) (below_size (by repeat (first | (with_reducible first | exact HB.out | apply below_alloc | apply pw_below_drewN | apply below_drew1) | exact HB.out | exact Below.refl _ _)))); have n1_ := Aside0.mk (below_step (by repeat (first | (with_reducible first | exact HB.out | apply below_alloc | apply pw_below_drewN | apply below_drew1) | exact HB.out | exact Below.refl _ _)) hb); clear HB; have HO492 := n0_; have HB := n1_; clear n0_ n1_; (try clear hb); (try clear hb2); (try clear hk); (try clear hi); (try clear ho0); obtain ⟨Ao13, co13, eo13⟩ := Kd.N_slice HO492.out; subst eo13))
      try simp only [Act.put, List.setIfInBounds_toArray, List.set_cons_zero, List.set_cons_succ]
      go_loopg [9] kj3 (fun kq v9 w' => ∃ (x7_2 : List (S37)) (x9_2 : Int), v9 = .int .i64 x9_2 ∧ Aside0 (iceboxlaw9_ReplayGaps.l0 kq a2 x7_2 (wrap64 (1 + (Int.tmod (wrap64 (a1)) (wrap64 ((t490.length : Int) - 1))))) x9_2 = some r) ∧ Aside0 (kq ≤ kj3) ∧ Aside0 (Kd.N k37 37 w' w.heap.size (fun _ => True) (.slice Ao13 t490.length co13) x7_2) ∧ Aside0 (Below w.heap.size w w'))
      case atStart => exact ⟨(t490), (wrap64 (1 + (Int.tmod (wrap64 (a1)) (wrap64 ((t490.length : Int) - 1))))), (by first | rfl | (simp; done) | (simp [*]; done)), H', ⟨Nat.le_refl _⟩, ⟨by (with_reducible repeat (first | apply Kd.N_alloc | apply Kd.N_drewN | apply Kd.N_drew)); exact HO492.out⟩, ⟨by repeat (first | (with_reducible first | exact HB.out | apply below_alloc | apply pw_below_drewN | apply below_drew1) | exact HB.out | exact Below.refl _ _)⟩⟩
      case round =>
       clear H'
       obtain ⟨x7_2, x9_2, rfl, HA, HK2, HO_7, HB⟩ := hrel
       have hl7_2 := (Kd.N_reads' HO_7.out).1
       rw [hl7_2] at HO_7
       (try simp only [hl7_2])
       cases gk with
       | zero => exact absurd HA.out (by simp [iceboxlaw9_ReplayGaps.l0])
       | succ k2 =>
        have H := HA.out
        clear HA
        simp only [iceboxlaw9_ReplayGaps.l0] at H
        by_cases c14 : x9_2 < (x7_2.length : Int)
        ·
         rw [if_pos c14] at H
         have c14b0 : decide (x9_2 < (x7_2.length : Int)) = true := decide_eq_true c14
         clear c14
         by_cases c15 : 0 ≤ x9_2
         ·
          rw [if_pos c15] at H
          have c15b0 : decide (0 ≤ x9_2) = true := decide_eq_true c15
          clear c15
          obtain ⟨y494, hy494⟩ : ∃ y_ : List (S37), y_ = (x7_2.set (x9_2 : Int).toNat (⟨wrap64 (((rd_T37 x7_2 x9_2).f0) + (wrap64 (a2))), (rd_T37 x7_2 x9_2).f1⟩ : S37)) := ⟨_, rfl⟩
          replace H : (iceboxlaw9_ReplayGaps.l0 k2 a2 y494 (wrap64 (1 + (Int.tmod (wrap64 (a1)) (wrap64 ((t490.length : Int) - 1))))) (wrap64 (x9_2 + 1))) = some r := by first | (rw [hy494]; with_reducible exact H) | (have H2_ := (Option.bind_some _ _).symm.trans H; rw [hy494]; with_reducible exact H2_) | (have H2_ := (Option.bind_some _ _).symm.trans H; with_reducible exact H2_) | with_reducible exact H | (rw [hy494]; exact H) | exact H
          have Ny494 := Aside0.mk hy494
          clear hy494
          have H' := Aside0.mk H
          clear H
          have p493 : 0 ≤ (x9_2 : Int) := of_decide_eq_true (by first | (with_reducible assumption) | assumption)
          have q493 : x9_2 < (x7_2.length : Int) := of_decide_eq_true (by first | (with_reducible assumption) | assumption)
          obtain ⟨ad493, A493_1, c493_1, e493, hx493_0, hx493_1, hl493_1, hi493_1⟩ := at_T37 (Kd.N_reads' HO_7.out).2.2 x9_2 p493 q493
          cases e493
          obtain ⟨ce493, hce493, hMe493, hcc493⟩ := Kd.N_get HO_7.out z37 x9_2 p493 (by first | exact q493 | exact of_decide_eq_true (by first | (with_reducible assumption) | assumption) | (have e_ := (Kd.N_reads' HO_7.out).1; omega))
          obtain ⟨ua493_1, uc493_1, rfl, ul493_1, ge493_1⟩ := k37_openF hMe493
          have hv493_1 := hcc493 1 _ rfl
          rw [add_field _ _ 1 (by omega)] at hv493_1
          replace hv493_1 := Option.some.inj (hv493_1.symm.trans hx493_1)
          injection hv493_1 with hva_ hvn_ hvc_
          rw [hva_] at ge493_1
          rw [hvc_] at ul493_1
          have HL493_1 := Aside0.mk (show Kd.V k27 27 _ w.heap.size _ _ ((rd_T37 x7_2 x9_2).f1) from Kd.V_mk ul493_1 ge493_1)
          clear hva_ hvn_ hvc_ ge493_1 ul493_1
          clear hcc493 hce493
          have HR493_1 := Aside0.mk hi493_1
          have HC493_1 := Aside0.mk hl493_1
          clear hi493_1 hl493_1
          replace p493 := eq_true p493
          replace q493 := eq_true q493
          have p16 : 0 ≤ (x9_2 : Int) := of_decide_eq_true (by first | (with_reducible assumption) | assumption)
          have q16 : (x9_2 : Int) < ((x7_2.length : Int) : Int) := of_decide_eq_true (by first | (with_reducible assumption) | assumption)
          obtain ⟨go16, co16, eo16, gb16, gl16, cl16, HG16⟩ := Kd.N_form HO_7.out (by omega)
          (first | cases eo16 | (injection eo16 with ea_ en_ ec_; (first | subst ea_ | (injection ea_ with ea_; subst ea_)); subst ec_; clear en_))
          have GB16 := Aside0.mk gb16
          have GG16 := Aside0.mk HG16
          clear gb16 gl16 HG16
          (first | simp only [add_plain] at hx493_0 | skip)
          (first | simp only [add_plain] at hx493_1 | skip)
          obtain ⟨ce16, hcl16, hM16, hcc16, hfr16⟩ := Kd.N_elem HO_7.out z37 (x9_2 : Int) p16 q16
          obtain ⟨ua16_1, uc16_1, rfl, ul16_1, ge16_1⟩ := k37_openF hM16
          have hx16_0 : wr.cell? ⟨go16, (x9_2 : Int).toNat * 2, none⟩ = some (.int .i64 ((rd_T37 x7_2 x9_2).f0)) := hcc16 0 _ rfl
          have hx16_1 : wr.cell? ⟨go16, (x9_2 : Int).toNat * 2 + 1, none⟩ = some (.slice ua16_1 ((rd_T37 x7_2 x9_2).f1).length uc16_1) := hcc16 1 _ rfl
          have hf16_0 : wr.frozen? ⟨go16, (x9_2 : Int).toNat * 2, none⟩ = false := hfr16 0
          have hf16_1 : wr.frozen? ⟨go16, (x9_2 : Int).toNat * 2 + 1, none⟩ = false := hfr16 1
          clear hcl16 hcc16 hfr16 hM16
          replace p16 := eq_true p16
          replace q16 := eq_true q16
          have HX17 := Aside0.mk (show Kd.N k37 37 wr w.heap.size (fun _ => True) (.slice (some ⟨go16, 0, none⟩) x7_2.length co13) x7_2 from (by (with_reducible repeat (first | apply Kd.N_alloc | apply Kd.N_drewN | apply Kd.N_drew)); exact HO_7.out))
          obtain ⟨ce17, hcl17, hM17, hcc17, hfr17⟩ := Kd.N_elem HX17.out z37 (x9_2 : Int) (of_decide_eq_true (by first | (with_reducible assumption) | assumption)) (by have h_ : (x9_2 : Int) < ((x7_2.length : Int) : Int) := of_decide_eq_true (by first | (with_reducible assumption) | assumption); first | exact h_ | (have e_ := (Kd.N_reads' HO_7.out).1; omega) | simpa using h_)
          obtain ⟨ua17_1, uc17_1, rfl, ul17_1, ge17_1⟩ := k37_openF hM17
          have HP17 := Kd.N_seg HX17.out (x9_2 : Int) (of_decide_eq_true (by first | (with_reducible assumption) | assumption)) (by have h_ : (x9_2 : Int) < ((x7_2.length : Int) : Int) := of_decide_eq_true (by first | (with_reducible assumption) | assumption); first | exact h_ | (have e_ := (Kd.N_reads' HO_7.out).1; omega) | simpa using h_) (seg := [.int .i64 (wrap64 (((rd_T37 x7_2 x9_2).f0) + (wrap64 (a2))))]) (j := 0) hcl17 hcc17 (show 1 ≤ 2 from by decide) (x' := (⟨wrap64 (((rd_T37 x7_2 x9_2).f0) + (wrap64 (a2))), (rd_T37 x7_2 x9_2).f1⟩ : S37)) (k37_mkF _ _ (⟨wrap64 (((rd_T37 x7_2 x9_2).f0) + (wrap64 (a2))), (rd_T37 x7_2 x9_2).f1⟩ : S37) ul17_1 ge17_1) (fun _ hk => hk)
          have hx17_0 := hcc17 0 _ rfl
          (try simp only [show (k37).sz = 2 from rfl, Nat.mul_one, Nat.add_zero] at hx17_0)
          have hf17_0 := hfr17 0
          (try simp only [show (k37).sz = 2 from rfl, Nat.mul_one, Nat.add_zero] at hf17_0)
          clear hcl17 hcc17 hfr17 hM17
          go_wp2_with (first | ((with_reducible refine gate_store (t := 3) (p := 55) rfl ?_); refine store_event (t := 3) (p := 55) (v := ?vo_w18) (w1 := (wr.setCell ⟨go16, (x9_2 : Int).toNat * 2, none⟩ (.int .i64 (wrap64 (((rd_T37 x7_2 x9_2).f0) + (wrap64 (a2))))))) ?hg ?ho ?hn ?hr ?_; (case ho => rfl); (case hg => rfl); (case hn => rfl); (case hr => first | (go_simp; done) | (go_simp; rfl)); intro w18 hw; have hg : wr.grownBy w18 (some go16) := (by rw [hw]; exact HP17.2); have hp_ : Kd.N k37 37 w18 w.heap.size (fun _ => True) (.slice (some ⟨go16, 0, none⟩) x7_2.length co13) y494 := (by rw [hw, Ny494.out]; exact HP17.1); clear HP17; have n0_ := Aside0.mk (hp_); have n1_ := Aside0.mk (Kd.V_afterv (v := (.slice (some ⟨go16, 0, none⟩) x7_2.length co13)) (v1 := (.slice (some ⟨go16, 0, none⟩) x7_2.length co13)) (ok := (fun _ => True)) (by (with_reducible repeat (first | apply Kd.V_alloc | apply Kd.V_drewN | apply Kd.V_drew)); exact HL493_1.out) hg (.inl rfl)); have n2_ := Aside0.mk ((by rw [hw]; exact below_set (HB.out) GB16.out : Below w.heap.size w w18)); clear HO_7; clear HL493_1; clear HB; have HO_7 := n0_; have HL493_1 := n1_; have HB := n2_; clear n0_ n1_ n2_; clear hg hw hp_))
          (try simp only [← hl7_2])
          go_roundg k2
          case measure => have := HJ3.out; have := HK2.out; omega
          case rel => exact ⟨(y494), (wrap64 (x9_2 + 1)), (by first | rfl | (simp; done) | (simp [*]; done)), H', ⟨by have := HJ3.out; have := HK2.out; omega⟩, ⟨by (try simp only [hl7_2]); (with_reducible repeat (first | apply Kd.N_alloc | apply Kd.N_drewN | apply Kd.N_drew)); exact HO_7.out⟩, ⟨by repeat (first | (with_reducible first | exact HB.out | apply below_alloc | apply pw_below_drewN | apply below_drew1) | exact HB.out | exact Below.refl _ _)⟩⟩
         ·
          rw [if_neg c15] at H
          exact absurd H (by simp)
        ·
         rw [if_neg c14] at H
         have c14b0 : decide (x9_2 < (x7_2.length : Int)) = false := decide_eq_false c14
         clear c14
         have H' := Aside0.mk H
         clear H
         go_wp2
         go_loopg [10, 11] k2 (fun kq v10 v11 w' => ∃ (x10_3 : List Int) (x11_3 : Int), v11 = .int .i64 x11_3 ∧ Aside0 (iceboxlaw9_ReplayGaps.l1 kq x7_2 (wrap64 (1 + (Int.tmod (wrap64 (a1)) (wrap64 ((t490.length : Int) - 1))))) x10_3 x11_3 = some r) ∧ Aside0 (kq ≤ k2) ∧ Aside0 (Kd.N k37 37 w' w.heap.size (fun k_ => some k_ ≠ (v10 : Value).ownBlock) (.slice Ao13 x7_2.length co13) x7_2) ∧ Aside0 (Kd.R (Kd.int .u8) 5 w' w.heap.size (fun _ => True) v10 x10_3) ∧ Aside0 (Below w.heap.size w w'))
         case atStart => exact ⟨(([] : List Int)), (0), (by first | rfl | (simp; done) | (simp [*]; done)), H', ⟨Nat.le_refl _⟩, ⟨by (try simp only [hl7_2]); (with_reducible repeat (first | apply Kd.N_alloc | apply Kd.N_drewN | apply Kd.N_drew)); exact Kd.N_mono HO_7.out (fun _ hk => (by simp [Value.ownBlock]))⟩, ⟨by (try simp only [hl7_2]); first | exact Kd.R_nil _ _ _ _ _ | exact Kd.N_nil _ _ _ _ _ | exact Kd.V_nil _ _ _ _ _ | exact Kd.Q_nil _ _ _ _ _ | exact Kd.S_nil _ _ _ _ _⟩, ⟨by repeat (first | (with_reducible first | exact HB.out | apply below_alloc | apply pw_below_drewN | apply below_drew1) | exact HB.out | exact Below.refl _ _)⟩⟩
         case round =>
          clear H'
          obtain ⟨x10_3, x11_3, rfl, HA, HK3, HO_7, HO_10, HB⟩ := hrel
          cases gk with
          | zero => exact absurd HA.out (by simp [iceboxlaw9_ReplayGaps.l1])
          | succ k3 =>
           have H := HA.out
           clear HA
           simp only [iceboxlaw9_ReplayGaps.l1] at H
           by_cases c19 : x11_3 < (x7_2.length : Int)
           ·
            rw [if_pos c19] at H
            have c19b0 : decide (x11_3 < (x7_2.length : Int)) = true := decide_eq_true c19
            clear c19
            by_cases c20 : 0 ≤ x11_3
            ·
             rw [if_pos c20] at H
             have c20b0 : decide (0 ≤ x11_3) = true := decide_eq_true c20
             clear c20
             replace H := Option.bind_eq_some_iff.mp H
             obtain ⟨t496, A210, H⟩ := H
             replace H : (if x10_3.length + t496.length < 140737488355328 then (iceboxlaw9_ReplayGaps.l1 k3 x7_2 (wrap64 (1 + (Int.tmod (wrap64 (a1)) (wrap64 ((t490.length : Int) - 1))))) (x10_3 ++ t496) (wrap64 (x11_3 + 1))) else (none)) = some r := H
             have A21 := Aside0.mk A210
             clear A210
             by_cases c22 : x10_3.length + t496.length < 140737488355328
             ·
              rw [if_pos c22] at H
              have LMc22 := Aside0.mk c22
              clear c22
              obtain ⟨y499, hy499⟩ : ∃ y_ : List Int, y_ = (x10_3 ++ t496) := ⟨_, rfl⟩
              replace H : (iceboxlaw9_ReplayGaps.l1 k3 x7_2 (wrap64 (1 + (Int.tmod (wrap64 (a1)) (wrap64 ((t490.length : Int) - 1))))) y499 (wrap64 (x11_3 + 1))) = some r := by first | (rw [hy499]; with_reducible exact H) | (have H2_ := (Option.bind_some _ _).symm.trans H; rw [hy499]; with_reducible exact H2_) | (have H2_ := (Option.bind_some _ _).symm.trans H; with_reducible exact H2_) | with_reducible exact H | (rw [hy499]; exact H) | exact H
              have Ny499 := Aside0.mk hy499
              clear hy499
              have H' := Aside0.mk H
              clear H
              have p495 : 0 ≤ (x11_3 : Int) := of_decide_eq_true (by first | (with_reducible assumption) | assumption)
              have q495 : x11_3 < (x7_2.length : Int) := of_decide_eq_true (by first | (with_reducible assumption) | assumption)
              obtain ⟨ad495, A495_1, c495_1, e495, hx495_0, hx495_1, hl495_1, hi495_1⟩ := at_T37 (Kd.N_reads' HO_7.out).2.2 x11_3 p495 q495
              cases e495
              obtain ⟨ce495, hce495, hMe495, hcc495⟩ := Kd.N_get HO_7.out z37 x11_3 p495 (by first | exact q495 | exact of_decide_eq_true (by first | (with_reducible assumption) | assumption) | (have e_ := (Kd.N_reads' HO_7.out).1; omega))
              obtain ⟨ua495_1, uc495_1, rfl, ul495_1, ge495_1⟩ := k37_openF hMe495
              have hv495_1 := hcc495 1 _ rfl
              rw [add_field _ _ 1 (by omega)] at hv495_1
              replace hv495_1 := Option.some.inj (hv495_1.symm.trans hx495_1)
              injection hv495_1 with hva_ hvn_ hvc_
              rw [hva_] at ge495_1
              rw [hvc_] at ul495_1
              have HL495_1 := Aside0.mk (show Kd.V k27 27 _ w.heap.size _ _ ((rd_T37 x7_2 x11_3).f1) from Kd.V_mk ul495_1 ge495_1)
              clear hva_ hvn_ hvc_ ge495_1 ul495_1
              clear hcc495 hce495
              have HR495_1 := Aside0.mk hi495_1
              have HC495_1 := Aside0.mk hl495_1
              clear hi495_1 hl495_1
              replace p495 := eq_true p495
              replace q495 := eq_true q495
              go_wp2_with (first | ((with_reducible refine gate_callee (f := 30) rfl ?_); refine goesL_ (some 67) rfl rfl Try.func30 (by kernel_rfl) rfl #[.agg #[.int .i64 ((rd_T37 x7_2 x11_3).f0), .slice A495_1 ((rd_T37 x7_2 x11_3).f1).length c495_1]] rfl (by (try simp only [List.map_toArray, List.map_cons, List.map_nil]); first | done | rfl | (simp only [List.length_drop, List.length_take]; rfl)) ?_; (with_reducible refine (replay_Put.calls k3 ((rd_T37 x7_2 x11_3).f0) _ _ ((rd_T37 x7_2 x11_3).f1) t496 _ ?side1 ?side2 A21.out).mono ?_); (case side1 => repeat (first | exact (by repeat (first | (with_reducible exact HR495_1.out) | (with_reducible refine Kd.C_alloc ?_ _) | (with_reducible refine Kd.C_drewN ?_ _) | (with_reducible refine Kd.C_drew ?_) | exact HR495_1.out)) | (with_reducible refine Kd.C_alloc ?_ _) | (with_reducible refine Kd.C_drewN ?_ _) | (with_reducible refine Kd.C_drew ?_))); (case side2 => exact HC495_1.out); rintro e w23 ⟨v497, rfl, ho0, hb⟩; refine ⟨_, rfl, ?_⟩; have n0_ := Aside0.mk (Kd.N_elder' (by (with_reducible repeat (first | apply Kd.N_alloc | apply Kd.N_drewN | apply Kd.N_drew)); exact HO_7.out) (Kd.R_base ho0) hb); have n1_ := Aside0.mk (Kd.R_elder' (by (with_reducible repeat (first | apply Kd.R_alloc | apply Kd.R_drewN | apply Kd.R_drew)); exact HO_10.out) (Kd.R_base ho0) hb); have n2_ := Aside0.mk (Kd.V_elder' (by (with_reducible repeat (first | apply Kd.V_alloc | apply Kd.V_drewN | apply Kd.V_drew)); exact HL495_1.out) (Kd.R_base ho0) hb); have n3_ := Aside0.mk (Kd.R_lower (Kd.R_new' ho0 (Kd.R_lt (by (with_reducible repeat (first | apply Kd.R_alloc | apply Kd.R_drewN | apply Kd.R_drew)); exact HO_10.out))) (below_size (by repeat (first | (with_reducible first | exact HB.out | apply below_alloc | apply pw_below_drewN | apply below_drew1) | exact HB.out | exact Below.refl _ _)))); have n4_ := Aside0.mk (Kd.C_below (by repeat (first | (with_reducible exact HR495_1.out) | (with_reducible refine Kd.C_alloc ?_ _) | (with_reducible refine Kd.C_drewN ?_ _) | (with_reducible refine Kd.C_drew ?_) | exact HR495_1.out)) hb); have n5_ := Aside0.mk (below_step (by repeat (first | (with_reducible first | exact HB.out | apply below_alloc | apply pw_below_drewN | apply below_drew1) | exact HB.out | exact Below.refl _ _)) hb); clear HO_7; clear HO_10; clear HL495_1; clear HR495_1; clear HB; have HO_7 := n0_; have HO_10 := n1_; have HL495_1 := n2_; have HO498 := n3_; have HR495_1 := n4_; have HB := n5_; clear n0_ n1_ n2_ n3_ n4_ n5_; (try clear hb); (try clear hb2); (try clear hk); (try clear hi); (try clear ho0); obtain ⟨Ao25, co25, eo25⟩ := Kd.R_slice HO498.out; subst eo25) | ((with_reducible refine gate_builtin (b := .append) (xs := #[.tmp 62, .tmp 67]) rfl ?_); (try (refine gate_guard (by rfl) ?_; dsimp only)); at_builtin; refine Kd.R_append_rows (Kd.int .u8) (w0 := w) w.heap.size rfl (.tmp 62) (.tmp 67) 33 5 (.int .u8 0) 1 rfl Try.underlying33 info5 rfl (by decide) (by omega) u10 x10_3 t496 _ _ _ (fun k_ => some k_ ≠ (.slice Ao25 t496.length co25 : Value).ownBlock) (fun _ => False) rfl rfl ?aO ?aR (fun _ _ h => h) (fun _ h => h.elim) ?aF ?aB ?aS ?aL ?_; (case aR => repeat (first | exact (Kd.R_reads' HO498.out).2.2 | (with_reducible refine Kd.C_alloc ?_ _) | (with_reducible refine Kd.C_drewN ?_ _) | (with_reducible refine Kd.C_drew ?_))); (case aB => exact (by repeat (first | (with_reducible first | exact HB.out | apply below_alloc | apply pw_below_drewN | apply below_drew1) | exact HB.out | exact Below.refl _ _))); (case aF => exact (fun k_ hk => Kd.fresh' (Kd.R_lt (by (with_reducible repeat (first | apply Kd.R_alloc | apply Kd.R_drewN | apply Kd.R_drew)); exact HO498.out)) k_ hk)); (case aO => exact (by (with_reducible repeat (first | apply Kd.R_alloc | apply Kd.R_drewN | apply Kd.R_drew)); exact Kd.R_mono HO_10.out (fun _ hk => hk.2))); (case aS => exact (below_size (by repeat (first | (with_reducible first | exact HB.out | apply below_alloc | apply pw_below_drewN | apply below_drew1) | exact HB.out | exact Below.refl _ _)))); (case aL => have := LMc22.out; omega); intro v500 w24 ho hb hg hat; rw [← Ny499.out] at ho; have n0_ := Aside0.mk (Kd.N_afterv (ok := (fun k_ => some k_ ≠ (.slice Ao25 t496.length co25 : Value).ownBlock)) (by (with_reducible repeat (first | apply Kd.N_alloc | apply Kd.N_drewN | apply Kd.N_drew)); exact Kd.N_mono HO_7.out (fun _ hk => ⟨hk.2, hk.1⟩)) hg hat); have n1_ := Aside0.mk (Kd.V_afterv (ok := (fun k_ => some k_ ≠ (.slice (some ad495) x7_2.length co13 : Value).ownBlock ∧ some k_ ≠ (.slice Ao25 t496.length co25 : Value).ownBlock)) (by (with_reducible repeat (first | apply Kd.V_alloc | apply Kd.V_drewN | apply Kd.V_drew)); exact Kd.V_mono HL495_1.out (fun _ hk => ⟨⟨hk.1.2, hk.2⟩, hk.1.1⟩)) hg hat); have n2_ := Aside0.mk (Kd.R_after (ok := (fun _ => True)) (by (with_reducible repeat (first | apply Kd.R_alloc | apply Kd.R_drewN | apply Kd.R_drew)); exact HO498.out) hg hat); have n3_ := Aside0.mk (hb); have n4_ := Aside0.mk (ho); clear HO_7; clear HL495_1; clear HO498; clear HB; clear HO_10; have HO_7 := n0_; have HL495_1 := n1_; have HO498 := n2_; have HB := n3_; have HO501 := n4_; clear n0_ n1_ n2_ n3_ n4_; clear ho hb hg hat))
              go_roundg k3
              case measure => have := HJ3.out; have := HK2.out; have := HK3.out; omega
              case rel => exact ⟨(y499), (wrap64 (x11_3 + 1)), (by first | rfl | (simp; done) | (simp [*]; done)), H', ⟨by have := HJ3.out; have := HK2.out; have := HK3.out; omega⟩, ⟨by (try simp only [hl7_2]); (with_reducible repeat (first | apply Kd.N_alloc | apply Kd.N_drewN | apply Kd.N_drew)); exact Kd.N_mono HO_7.out (fun _ hk => hk.2)⟩, ⟨by (try simp only [hl7_2]); (with_reducible repeat (first | apply Kd.R_alloc | apply Kd.R_drewN | apply Kd.R_drew)); exact Kd.R_mono HO501.out (fun _ hk => trivial)⟩, ⟨by repeat (first | (with_reducible first | exact HB.out | apply below_alloc | apply pw_below_drewN | apply below_drew1) | exact HB.out | exact Below.refl _ _)⟩⟩
             ·
              rw [if_neg c22] at H
              exact absurd H (by simp)
            ·
             rw [if_neg c20] at H
             exact absurd H (by simp)
           ·
            rw [if_neg c19] at H
            have c19b0 : decide (x11_3 < (x7_2.length : Int)) = false := decide_eq_false c19
            clear c19
            replace H := Option.bind_eq_some_iff.mp H
            obtain ⟨⟨t502, t503⟩, A260, H⟩ := H
            replace H : ((replay_Join.f k3 (([x10_3] : List (List Int))) 0).bind fun t509 => (if 0 ≤ (wrap64 (1 + (Int.tmod (wrap64 (a1)) (wrap64 ((t490.length : Int) - 1))))) then (if (wrap64 (1 + (Int.tmod (wrap64 (a1)) (wrap64 ((t490.length : Int) - 1))))) ≤ (x7_2.length : Int) then ((iceboxref1_Batches.f k3 t502 (x7_2.take ((wrap64 (1 + (Int.tmod (wrap64 (a1)) (wrap64 ((t490.length : Int) - 1))))) : Int).toNat)).bind fun t517 => (if t517 = true then ((iceboxref1_Batches.f k3 t509 (x7_2.take ((wrap64 (1 + (Int.tmod (wrap64 (a1)) (wrap64 ((t490.length : Int) - 1))))) : Int).toNat)).bind fun t523 => (if t523 = true then ((replay_Put.f k3 0 ([] : List (S27))).bind fun t524 => (if (t524.length : Int) = 0 then ((iceboxlaw9_awake.f k3).bind fun t527 => (some t527)) else (some false))) else (some false))) else (some false))) else (none)) else (none))) = some r := H
            have A26 := Aside0.mk A260
            clear A260
            obtain ⟨y506, hy506⟩ : ∃ y_ : List (List Int), y_ = (([x10_3] : List (List Int))) := ⟨_, rfl⟩
            replace H : ((replay_Join.f k3 y506 0).bind fun t509 => (if 0 ≤ (wrap64 (1 + (Int.tmod (wrap64 (a1)) (wrap64 ((t490.length : Int) - 1))))) then (if (wrap64 (1 + (Int.tmod (wrap64 (a1)) (wrap64 ((t490.length : Int) - 1))))) ≤ (x7_2.length : Int) then ((iceboxref1_Batches.f k3 t502 (x7_2.take ((wrap64 (1 + (Int.tmod (wrap64 (a1)) (wrap64 ((t490.length : Int) - 1))))) : Int).toNat)).bind fun t517 => (if t517 = true then ((iceboxref1_Batches.f k3 t509 (x7_2.take ((wrap64 (1 + (Int.tmod (wrap64 (a1)) (wrap64 ((t490.length : Int) - 1))))) : Int).toNat)).bind fun t523 => (if t523 = true then ((replay_Put.f k3 0 ([] : List (S27))).bind fun t524 => (if (t524.length : Int) = 0 then ((iceboxlaw9_awake.f k3).bind fun t527 => (some t527)) else (some false))) else (some false))) else (some false))) else (none)) else (none))) = some r := by first | (rw [hy506]; with_reducible exact H) | (have H2_ := (Option.bind_some _ _).symm.trans H; rw [hy506]; with_reducible exact H2_) | (have H2_ := (Option.bind_some _ _).symm.trans H; with_reducible exact H2_) | with_reducible exact H | (rw [hy506]; exact H) | exact H
            have Ny506 := Aside0.mk hy506
            clear hy506
            replace H := Option.bind_eq_some_iff.mp H
            obtain ⟨t509, A270, H⟩ := H
            replace H : (if 0 ≤ (wrap64 (1 + (Int.tmod (wrap64 (a1)) (wrap64 ((t490.length : Int) - 1))))) then (if (wrap64 (1 + (Int.tmod (wrap64 (a1)) (wrap64 ((t490.length : Int) - 1))))) ≤ (x7_2.length : Int) then ((iceboxref1_Batches.f k3 t502 (x7_2.take ((wrap64 (1 + (Int.tmod (wrap64 (a1)) (wrap64 ((t490.length : Int) - 1))))) : Int).toNat)).bind fun t517 => (if t517 = true then ((iceboxref1_Batches.f k3 t509 (x7_2.take ((wrap64 (1 + (Int.tmod (wrap64 (a1)) (wrap64 ((t490.length : Int) - 1))))) : Int).toNat)).bind fun t523 => (if t523 = true then ((replay_Put.f k3 0 ([] : List (S27))).bind fun t524 => (if (t524.length : Int) = 0 then ((iceboxlaw9_awake.f k3).bind fun t527 => (some t527)) else (some false))) else (some false))) else (some false))) else (none)) else (none)) = some r := H
            have A27 := Aside0.mk A270
            clear A270
            obtain ⟨ji28, hji28⟩ : ∃ j_ : Int, (wrap64 (1 + (Int.tmod (wrap64 (a1)) (wrap64 ((t490.length : Int) - 1))))) = j_ := ⟨_, rfl⟩
            replace H : (if 0 ≤ (ji28) then (if (ji28) ≤ (x7_2.length : Int) then ((iceboxref1_Batches.f k3 t502 (x7_2.take ((ji28) : Int).toNat)).bind fun t517 => (if t517 = true then ((iceboxref1_Batches.f k3 t509 (x7_2.take ((ji28) : Int).toNat)).bind fun t523 => (if t523 = true then ((replay_Put.f k3 0 ([] : List (S27))).bind fun t524 => (if (t524.length : Int) = 0 then ((iceboxlaw9_awake.f k3).bind fun t527 => (some t527)) else (some false))) else (some false))) else (some false))) else (none)) else (none)) = some r := by first | (rw [hji28] at H; exact H) | (simp only [hji28] at H ⊢; exact H)
            (try rw [hji28] at A26)
            (try rw [hji28] at A27)
            have hji28w : (IntKind.i64.wrap (1 + (Int.tmod (wrap64 (a1)) (wrap64 ((t490.length : Int) - 1))))) = ji28 := (i64_w _).trans hji28
            have hji28x := hji28
            (try simp only [hl7_2] at hji28x)
            have hji28wx := hji28w
            (try simp only [hl7_2] at hji28wx)
            by_cases c29 : 0 ≤ (ji28)
            ·
             rw [if_pos c29] at H
             have c29b0 := eq_true c29
             have c29b1 : decide (0 ≤ (ji28)) = true := decide_eq_true c29
             clear c29
             by_cases c30 : (ji28) ≤ (x7_2.length : Int)
             ·
              rw [if_pos c30] at H
              have c30b0 := eq_true c30
              have c30b1 : decide ((ji28) ≤ (x7_2.length : Int)) = true := decide_eq_true c30
              clear c30
              obtain ⟨y512, hy512⟩ : ∃ y_ : List (S37), y_ = (x7_2.take ((ji28) : Int).toNat) := ⟨_, rfl⟩
              replace H : ((iceboxref1_Batches.f k3 t502 y512).bind fun t517 => (if t517 = true then ((iceboxref1_Batches.f k3 t509 (x7_2.take ((ji28) : Int).toNat)).bind fun t523 => (if t523 = true then ((replay_Put.f k3 0 ([] : List (S27))).bind fun t524 => (if (t524.length : Int) = 0 then ((iceboxlaw9_awake.f k3).bind fun t527 => (some t527)) else (some false))) else (some false))) else (some false))) = some r := by first | (rw [hy512]; with_reducible exact H) | (have H2_ := (Option.bind_some _ _).symm.trans H; rw [hy512]; with_reducible exact H2_) | (have H2_ := (Option.bind_some _ _).symm.trans H; with_reducible exact H2_) | with_reducible exact H | (rw [hy512]; exact H) | exact H
              have Ny512 := Aside0.mk hy512
              clear hy512
              replace H := Option.bind_eq_some_iff.mp H
              obtain ⟨t517, A310, H⟩ := H
              replace H : (if t517 = true then ((iceboxref1_Batches.f k3 t509 (x7_2.take ((ji28) : Int).toNat)).bind fun t523 => (if t523 = true then ((replay_Put.f k3 0 ([] : List (S27))).bind fun t524 => (if (t524.length : Int) = 0 then ((iceboxlaw9_awake.f k3).bind fun t527 => (some t527)) else (some false))) else (some false))) else (some false)) = some r := H
              have A31 := Aside0.mk A310
              clear A310
              by_cases c32 : t517 = true
              ·
               subst c32
               have H1 : ((iceboxref1_Batches.f k3 t509 (x7_2.take ((ji28) : Int).toNat)).bind fun t523 => (if t523 = true then ((replay_Put.f k3 0 ([] : List (S27))).bind fun t524 => (if (t524.length : Int) = 0 then ((iceboxlaw9_awake.f k3).bind fun t527 => (some t527)) else (some false))) else (some false))) = some r := by rw [if_pos rfl] at H; exact H
               clear H
               have H := H1
               clear H1
               have c33b0 := eq_true (of_decide_eq_true (by first | (with_reducible assumption) | assumption) : 0 ≤ (ji28))
               have c34b0 := eq_true (of_decide_eq_true (by first | (with_reducible assumption) | assumption) : (ji28) ≤ (x7_2.length : Int))
               obtain ⟨y518, hy518⟩ : ∃ y_ : List (S37), y_ = (x7_2.take ((ji28) : Int).toNat) := ⟨_, rfl⟩
               replace H : ((iceboxref1_Batches.f k3 t509 y518).bind fun t523 => (if t523 = true then ((replay_Put.f k3 0 ([] : List (S27))).bind fun t524 => (if (t524.length : Int) = 0 then ((iceboxlaw9_awake.f k3).bind fun t527 => (some t527)) else (some false))) else (some false))) = some r := by first | (rw [hy518]; with_reducible exact H) | (have H2_ := (Option.bind_some _ _).symm.trans H; rw [hy518]; with_reducible exact H2_) | (have H2_ := (Option.bind_some _ _).symm.trans H; with_reducible exact H2_) | with_reducible exact H | (rw [hy518]; exact H) | exact H
               have Ny518 := Aside0.mk hy518
               clear hy518
               replace H := Option.bind_eq_some_iff.mp H
               obtain ⟨t523, A350, H⟩ := H
               replace H : (if t523 = true then ((replay_Put.f k3 0 ([] : List (S27))).bind fun t524 => (if (t524.length : Int) = 0 then ((iceboxlaw9_awake.f k3).bind fun t527 => (some t527)) else (some false))) else (some false)) = some r := H
               have A35 := Aside0.mk A350
               clear A350
               by_cases c36 : t523 = true
               ·
                subst c36
                have H1 : ((replay_Put.f k3 0 ([] : List (S27))).bind fun t524 => (if (t524.length : Int) = 0 then ((iceboxlaw9_awake.f k3).bind fun t527 => (some t527)) else (some false))) = some r := by rw [if_pos rfl] at H; exact H
                clear H
                have H := H1
                clear H1
                replace H := Option.bind_eq_some_iff.mp H
                obtain ⟨t524, A370, H⟩ := H
                replace H : (if (t524.length : Int) = 0 then ((iceboxlaw9_awake.f k3).bind fun t527 => (some t527)) else (some false)) = some r := H
                have A37 := Aside0.mk A370
                clear A370
                by_cases c38 : (t524.length : Int) = 0
                ·
                 rw [if_pos c38] at H
                 have c38b0 : ((t524.length : Int) == 0) = true := beq_iff_eq.mpr c38
                 have c38b1 : ((t524.length : Int) != 0) = false := bne_eq_false_iff_eq.mpr c38
                 clear c38
                 replace H := Option.bind_eq_some_iff.mp H
                 obtain ⟨t527, A390, H⟩ := H
                 replace H : (some t527) = some r := H
                 have A39 := Aside0.mk A390
                 clear A390
                 obtain rfl := Option.some.inj H
                 obtain ⟨Ao40, co40, eo40⟩ := Kd.R_slice HO_10.out
                 subst eo40
                 have E518 : y518 = y512 := Ny518.out.trans Ny512.out.symm
                 (try rw [E518] at A35)
                 go_wp2_with (first | ((with_reducible refine gate_callee (f := 31) rfl ?_); refine goesL_ (some 71) rfl rfl Try.func31 (by kernel_rfl) rfl #[.slice Ao40 x10_3.length co40] rfl (by (try simp only [List.map_toArray, List.map_cons, List.map_nil]); first | done | rfl | (simp only [List.length_drop, List.length_take]; rfl)) ?_; (with_reducible refine (replay_Scan.calls k3 _ _ x10_3 t502 t503 _ ?side1 ?side2 A26.out).mono ?_); (case side1 => repeat (first | exact (Kd.R_reads' HO_10.out).2.2 | (with_reducible refine Kd.C_alloc ?_ _) | (with_reducible refine Kd.C_drewN ?_ _) | (with_reducible refine Kd.C_drew ?_))); (case side2 => exact (Kd.R_reads' HO_10.out).2.1); rintro e w41 ⟨v504, rfl, ho0, hb⟩; refine ⟨_, rfl, ?_⟩; have n0_ := Aside0.mk (Kd.N_elder' (by (with_reducible repeat (first | apply Kd.N_alloc | apply Kd.N_drewN | apply Kd.N_drew)); exact HO_7.out) (by first | exact Kd.N_base ho0 | exact Kd.N_base (Kd.S_N ho0)) hb); have n1_ := Aside0.mk (Kd.R_below (by (with_reducible repeat (first | apply Kd.R_alloc | apply Kd.R_drewN | apply Kd.R_drew)); exact HO_10.out) hb); have n2_ := Aside0.mk (Kd.N_lower (Kd.N_mono (ok' := fun k_ => some k_ ≠ (.slice Ao13 x7_2.length co13 : Value).ownBlock ∧ some k_ ≠ (.slice Ao40 x10_3.length co40 : Value).ownBlock) (Kd.S_N (Kd.S_bound ho0)) (fun k_ hk_ => ⟨(Kd.fresh' (Kd.N_lt (by (with_reducible repeat (first | apply Kd.N_alloc | apply Kd.N_drewN | apply Kd.N_drew)); exact HO_7.out)) k_ hk_.2.1), (Kd.fresh' (Kd.R_lt (by (with_reducible repeat (first | apply Kd.R_alloc | apply Kd.R_drewN | apply Kd.R_drew)); exact HO_10.out)) k_ hk_.2.1)⟩)) (below_size (by repeat (first | (with_reducible first | exact HB.out | apply below_alloc | apply pw_below_drewN | apply below_drew1) | exact HB.out | exact Below.refl _ _)))); have n3_ := Aside0.mk (below_step (by repeat (first | (with_reducible first | exact HB.out | apply below_alloc | apply pw_below_drewN | apply below_drew1) | exact HB.out | exact Below.refl _ _)) hb); clear HO_7; clear HO_10; clear HB; have HO_7 := n0_; have HO_10 := n1_; have HO505 := n2_; have HB := n3_; clear n0_ n1_ n2_ n3_; (try clear hb); (try clear hb2); (try clear hk); (try clear hi); (try clear ho0)) | ((with_reducible refine gate_dst (N := 75) rfl ?_); (try (refine gate_guard (by rfl) ?_; dsimp only)); refine Kd.N_lit (Kd.slice 5 (Kd.int .u8)) _ 33 ?hg (N' := 75) ?hd (xs := ([x10_3] : List (List Int))) (inner := [.slice Ao40 x10_3.length co40]) (ok := (fun k_ => some k_ ≠ (.slice Ao13 x7_2.length co13 : Value).ownBlock ∧ some k_ ≠ (v504 : Value).ownBlock)) (okp := (fun k_ => some k_ ≠ (.slice Ao13 x7_2.length co13 : Value).ownBlock ∧ some k_ ≠ (v504 : Value).ownBlock)) ?hr ?hp (fun _ hk => hk) ((show ∀ k_, w41.heap.size ≤ k_ → (fun k_ => some k_ ≠ (.slice Ao13 x7_2.length co13 : Value).ownBlock ∧ some k_ ≠ (v504 : Value).ownBlock) k_ from fun k_ hk => ⟨Kd.fresh' (Kd.N_lt (by (with_reducible repeat (first | apply Kd.N_alloc | apply Kd.N_drewN | apply Kd.N_drew)); exact HO_7.out)) k_ hk, Kd.fresh' (Kd.N_lt (by (with_reducible repeat (first | apply Kd.N_alloc | apply Kd.N_drewN | apply Kd.N_drew)); exact HO505.out)) k_ hk⟩) _ (Nat.le_refl _)) (Below.refl _ _) (Nat.le_refl _) (by simp) ?_; (case hd => rfl); (case hg => rfl); (case hr => first | (go_simp; done) | (go_simp; rfl)); (case hp => exact (Reps.one (show Kd.FK (Kd.slice 5 (Kd.int .u8)) _ _ x10_3 [.slice Ao40 x10_3.length co40] from (Kd.FK_slice_mk (Kd.R_reads' (Kd.R_mono (ok' := (fun k_ => some k_ ≠ (.slice Ao13 x7_2.length co13 : Value).ownBlock ∧ some k_ ≠ (v504 : Value).ownBlock)) (Kd.R_apart' (Kd.R_apart' (HO_10.out) (Kd.N_typed HO_7.out) (by decide)) (Kd.N_typed HO505.out) (by decide)) (fun k_ hk => ⟨hk.1.2, hk.2⟩))).2.1 (Kd.R_F (Kd.R_mono (ok' := (fun k_ => some k_ ≠ (.slice Ao13 x7_2.length co13 : Value).ownBlock ∧ some k_ ≠ (v504 : Value).ownBlock)) (Kd.R_apart' (Kd.R_apart' (HO_10.out) (Kd.N_typed HO_7.out) (by decide)) (Kd.N_typed HO505.out) (by decide)) (fun k_ hk => ⟨hk.1.2, hk.2⟩))))) (Reps.none _ _))); intro v507 w42 ho43 hb hg_ hnew_; clear hg_ hnew_; (first | rw [← Ny506.out] at ho43 | (simp only [Int.reduceToNat] at ho43; rw [← Ny506.out] at ho43)); have n0_ := Aside0.mk (Kd.N_elder' (by (with_reducible repeat (first | apply Kd.N_alloc | apply Kd.N_drewN | apply Kd.N_drew)); exact HO_7.out) (Kd.N_base ho43) hb); have n1_ := Aside0.mk (Kd.N_elder' (by (with_reducible repeat (first | apply Kd.N_alloc | apply Kd.N_drewN | apply Kd.N_drew)); exact HO505.out) (Kd.N_base ho43) hb); have n2_ := Aside0.mk (Kd.N_lower ho43 (below_size (by repeat (first | (with_reducible first | exact HB.out | apply below_alloc | apply pw_below_drewN | apply below_drew1) | exact HB.out | exact Below.refl _ _)))); have n3_ := Aside0.mk (below_step (by repeat (first | (with_reducible first | exact HB.out | apply below_alloc | apply pw_below_drewN | apply below_drew1) | exact HB.out | exact Below.refl _ _)) hb); clear HO_7; clear HO505; clear HB; clear HO_10; have HO_7 := n0_; have HO505 := n1_; have HO508 := n2_; have HB := n3_; clear n0_ n1_ n2_ n3_; clear hb ho43; obtain ⟨Ao44, co44, eo44⟩ := Kd.N_slice HO508.out; subst eo44) | ((with_reducible refine gate_callee (f := 35) rfl ?_); refine goesL_ (some 76) rfl rfl Try.func35 (by kernel_rfl) rfl #[.slice Ao44 y506.length co44, .int .i64 0] rfl (by (try simp only [List.map_toArray, List.map_cons, List.map_nil]); first | done | rfl | (simp only [List.length_drop, List.length_take]; rfl)) ?_; (with_reducible refine (replay_Join.calls k3 _ _ y506 0 t509 _ ?side1 ?side2 A27.out).mono ?_); (case side1 => repeat (first | exact (Kd.N_reads' HO508.out).2.2 | (with_reducible refine Kd.C_alloc ?_ _) | (with_reducible refine Kd.C_drewN ?_ _) | (with_reducible refine Kd.C_drew ?_))); (case side2 => exact (Kd.N_reads' HO508.out).2.1); rintro e w45 ⟨v510, rfl, ho0, hb⟩; refine ⟨_, rfl, ?_⟩; have n0_ := Aside0.mk (Kd.N_elder' (by (with_reducible repeat (first | apply Kd.N_alloc | apply Kd.N_drewN | apply Kd.N_drew)); exact HO_7.out) (by first | exact Kd.N_base ho0 | exact Kd.N_base (Kd.S_N ho0)) hb); have n1_ := Aside0.mk (Kd.N_elder' (by (with_reducible repeat (first | apply Kd.N_alloc | apply Kd.N_drewN | apply Kd.N_drew)); exact HO505.out) (by first | exact Kd.N_base ho0 | exact Kd.N_base (Kd.S_N ho0)) hb); have n2_ := Aside0.mk (Kd.N_elder' (by (with_reducible repeat (first | apply Kd.N_alloc | apply Kd.N_drewN | apply Kd.N_drew)); exact HO508.out) (by first | exact Kd.N_base ho0 | exact Kd.N_base (Kd.S_N ho0)) hb); have n3_ := Aside0.mk (Kd.N_lower (Kd.N_mono (ok' := fun k_ => some k_ ≠ (.slice Ao13 x7_2.length co13 : Value).ownBlock ∧ some k_ ≠ (v504 : Value).ownBlock ∧ some k_ ≠ (.slice Ao44 y506.length co44 : Value).ownBlock) ho0 (fun k_ hk_ => ⟨(Kd.fresh' (Kd.N_lt (by (with_reducible repeat (first | apply Kd.N_alloc | apply Kd.N_drewN | apply Kd.N_drew)); exact HO_7.out)) k_ hk_), (Kd.fresh' (Kd.N_lt (by (with_reducible repeat (first | apply Kd.N_alloc | apply Kd.N_drewN | apply Kd.N_drew)); exact HO505.out)) k_ hk_), (Kd.fresh' (Kd.N_lt (by (with_reducible repeat (first | apply Kd.N_alloc | apply Kd.N_drewN | apply Kd.N_drew)); exact HO508.out)) k_ hk_)⟩)) (below_size (by repeat (first | (with_reducible first | exact HB.out | apply below_alloc | apply pw_below_drewN | apply below_drew1) | exact HB.out | exact Below.refl _ _)))); have n4_ := Aside0.mk (below_step (by repeat (first | (with_reducible first | exact HB.out | apply below_alloc | apply pw_below_drewN | apply below_drew1) | exact HB.out | exact Below.refl _ _)) hb); clear HO_7; clear HO505; clear HO508; clear HB; have HO_7 := n0_; have HO505 := n1_; have HO508 := n2_; have HO511 := n3_; have HB := n4_; clear n0_ n1_ n2_ n3_ n4_; (try clear hb); (try clear hb2); (try clear hk); (try clear hi); (try clear ho0); have q46 : ((ji28) : Int) ≤ ((x7_2.length : Int) : Int) := of_decide_eq_true (by first | (with_reducible assumption) | assumption); obtain ⟨i046, hi046, _, hsz46, _⟩ := info_parts info37; have hroom46 : x7_2.length ≤ co13 := (Kd.N_reads' HO_7.out).2.1; have hC46 : Kd.F k37 _ _ Ao13 x7_2.length x7_2 := (Kd.V_at (base := w.heap.size) (Kd.N_V HO_7.out)).2.2; have hcut46 := cut_to (P := Try.prog) 48 37 .i64 Try.underlying48 hi046 Ao13 x7_2.length co13 (ji28) (of_decide_eq_true (by first | (with_reducible assumption) | assumption)) q46 hroom46; have hr46 := Kd.F_take (m := ((ji28) : Int).toNat) hC46 (by omega); have hy46 : y512.length = ((ji28) : Int).toNat := (by rw [Ny512.out, List.length_take]; omega); rw [← Ny512.out] at hr46; rw [← hy46] at hcut46; have HO516 := Aside0.mk (show Kd.V k37 37 _ w.heap.size _ (.slice Ao13 y512.length co13) y512 from Kd.V_mk (by omega) hr46); have HC516 := Aside0.mk (show y512.length ≤ co13 from by omega); clear hr46 hC46 hroom46 hi046 hsz46; have KY46 := Aside0.mk hy46; clear hy46; replace q46 := eq_true q46; obtain ⟨Ao47, co47, eo47⟩ := Kd.N_slice HO505.out; subst eo47) | ((with_reducible refine gate_callee (f := 32) rfl ?_); refine goesL_ (some 81) rfl rfl Try.func32 (by kernel_rfl) rfl #[.slice Ao47 t502.length co47, .slice Ao13 y512.length co13] rfl (by (try simp only [List.map_toArray, List.map_cons, List.map_nil]); first | done | rfl | (simp only [List.length_drop, List.length_take]; rfl)) ?_; (with_reducible refine (iceboxref1_Batches.calls k3 _ _ t502 _ _ y512 true _ ?side1 ?side2 ?side3 ?side4 A31.out).mono ?_); (case side1 => repeat (first | exact (Kd.N_reads' HO505.out).2.2 | (with_reducible refine Kd.C_alloc ?_ _) | (with_reducible refine Kd.C_drewN ?_ _) | (with_reducible refine Kd.C_drew ?_))); (case side2 => exact (Kd.N_reads' HO505.out).2.1); (case side3 => repeat (first | exact (Kd.V_reads' HO516.out).2.2 | (with_reducible refine Kd.C_alloc ?_ _) | (with_reducible refine Kd.C_drewN ?_ _) | (with_reducible refine Kd.C_drew ?_))); (case side4 => exact (Kd.V_reads' HO516.out).2.1); rintro e w48 ⟨rfl, hb⟩; refine ⟨_, rfl, ?_⟩; have n0_ := Aside0.mk (Kd.N_below (by (with_reducible repeat (first | apply Kd.N_alloc | apply Kd.N_drewN | apply Kd.N_drew)); exact HO_7.out) hb); have n1_ := Aside0.mk (Kd.N_below (by (with_reducible repeat (first | apply Kd.N_alloc | apply Kd.N_drewN | apply Kd.N_drew)); exact HO505.out) hb); have n2_ := Aside0.mk (Kd.N_below (by (with_reducible repeat (first | apply Kd.N_alloc | apply Kd.N_drewN | apply Kd.N_drew)); exact HO508.out) hb); have n3_ := Aside0.mk (Kd.N_below (by (with_reducible repeat (first | apply Kd.N_alloc | apply Kd.N_drewN | apply Kd.N_drew)); exact HO511.out) hb); have n4_ := Aside0.mk (Kd.V_below (by (with_reducible repeat (first | apply Kd.V_alloc | apply Kd.V_drewN | apply Kd.V_drew)); exact HO516.out) hb); have n5_ := Aside0.mk (below_step (by repeat (first | (with_reducible first | exact HB.out | apply below_alloc | apply pw_below_drewN | apply below_drew1) | exact HB.out | exact Below.refl _ _)) hb); clear HO_7; clear HO505; clear HO508; clear HO511; clear HO516; clear HB; have HO_7 := n0_; have HO505 := n1_; have HO508 := n2_; have HO511 := n3_; have HO516 := n4_; have HB := n5_; clear n0_ n1_ n2_ n3_ n4_ n5_; (try clear hb); (try clear hb2); (try clear hk); (try clear hi); have q49 : ((ji28) : Int) ≤ ((x7_2.length : Int) : Int) := of_decide_eq_true (by first | (with_reducible assumption) | assumption); obtain ⟨i049, hi049, _, hsz49, _⟩ := info_parts info37; have hroom49 : x7_2.length ≤ co13 := (Kd.N_reads' HO_7.out).2.1; have hC49 : Kd.F k37 _ _ Ao13 x7_2.length x7_2 := (Kd.V_at (base := w.heap.size) (Kd.N_V HO_7.out)).2.2; have hcut49 := cut_to (P := Try.prog) 48 37 .i64 Try.underlying48 hi049 Ao13 x7_2.length co13 (ji28) (of_decide_eq_true (by first | (with_reducible assumption) | assumption)) q49 hroom49; have hr49 := Kd.F_take (m := ((ji28) : Int).toNat) hC49 (by omega); have hy49 : y512.length = ((ji28) : Int).toNat := (by rw [Ny512.out, List.length_take]; omega); rw [← Ny512.out] at hr49; rw [← hy49] at hcut49; have HO522 := Aside0.mk (show Kd.V k37 37 _ w.heap.size _ (.slice Ao13 y512.length co13) y512 from Kd.V_mk (by omega) hr49); have HC522 := Aside0.mk (show y512.length ≤ co13 from by omega); clear hr49 hC49 hroom49 hi049 hsz49; have KY49 := Aside0.mk hy49; clear hy49; replace q49 := eq_true q49; obtain ⟨Ao50, co50, eo50⟩ := Kd.N_slice HO511.out; subst eo50) | (go_at_call 32; (with_reducible refine (iceboxref1_Batches.calls k3 _ _ t509 _ _ y512 true _ ?side1 ?side2 ?side3 ?side4 A35.out).mono ?_); (case side1 => repeat (first | exact (Kd.N_reads' HO511.out).2.2 | (with_reducible refine Kd.C_alloc ?_ _) | (with_reducible refine Kd.C_drewN ?_ _) | (with_reducible refine Kd.C_drew ?_))); (case side2 => exact (Kd.N_reads' HO511.out).2.1); (case side3 => repeat (first | exact (Kd.V_reads' HO522.out).2.2 | (with_reducible refine Kd.C_alloc ?_ _) | (with_reducible refine Kd.C_drewN ?_ _) | (with_reducible refine Kd.C_drew ?_))); (case side4 => exact (Kd.V_reads' HO522.out).2.1); rintro e w51 ⟨rfl, hb⟩; have n0_ := Aside0.mk (Kd.N_below (by (with_reducible repeat (first | apply Kd.N_alloc | apply Kd.N_drewN | apply Kd.N_drew)); exact HO_7.out) hb); have n1_ := Aside0.mk (Kd.N_below (by (with_reducible repeat (first | apply Kd.N_alloc | apply Kd.N_drewN | apply Kd.N_drew)); exact HO505.out) hb); have n2_ := Aside0.mk (Kd.N_below (by (with_reducible repeat (first | apply Kd.N_alloc | apply Kd.N_drewN | apply Kd.N_drew)); exact HO508.out) hb); have n3_ := Aside0.mk (Kd.N_below (by (with_reducible repeat (first | apply Kd.N_alloc | apply Kd.N_drewN | apply Kd.N_drew)); exact HO511.out) hb); have n4_ := Aside0.mk (Kd.V_below (by (with_reducible repeat (first | apply Kd.V_alloc | apply Kd.V_drewN | apply Kd.V_drew)); exact HO516.out) hb); have n5_ := Aside0.mk (Kd.V_below (by (with_reducible repeat (first | apply Kd.V_alloc | apply Kd.V_drewN | apply Kd.V_drew)); exact HO522.out) hb); have n6_ := Aside0.mk (below_step (by repeat (first | (with_reducible first | exact HB.out | apply below_alloc | apply pw_below_drewN | apply below_drew1) | exact HB.out | exact Below.refl _ _)) hb); clear HO_7; clear HO505; clear HO508; clear HO511; clear HO516; clear HO522; clear HB; have HO_7 := n0_; have HO505 := n1_; have HO508 := n2_; have HO511 := n3_; have HO516 := n4_; have HO522 := n5_; have HB := n6_; clear n0_ n1_ n2_ n3_ n4_ n5_ n6_; (try clear hb); (try clear hb2); (try clear hk); (try clear hi)) | (go_at_call 30; (refine (replay_Put.calls k3 0 _ _ ([] : List (S27)) t524 _ ?side1 ?side2 A37.out).mono ?_); (case side1 => exact Kd.C_nil _ _); (case side2 => exact Nat.le_refl _); rintro e w52 ⟨v525, rfl, ho0, hb⟩; have n0_ := Aside0.mk (Kd.N_elder' (by (with_reducible repeat (first | apply Kd.N_alloc | apply Kd.N_drewN | apply Kd.N_drew)); exact HO_7.out) (Kd.R_base ho0) hb); have n1_ := Aside0.mk (Kd.N_elder' (by (with_reducible repeat (first | apply Kd.N_alloc | apply Kd.N_drewN | apply Kd.N_drew)); exact HO505.out) (Kd.R_base ho0) hb); have n2_ := Aside0.mk (Kd.N_elder' (by (with_reducible repeat (first | apply Kd.N_alloc | apply Kd.N_drewN | apply Kd.N_drew)); exact HO508.out) (Kd.R_base ho0) hb); have n3_ := Aside0.mk (Kd.N_elder' (by (with_reducible repeat (first | apply Kd.N_alloc | apply Kd.N_drewN | apply Kd.N_drew)); exact HO511.out) (Kd.R_base ho0) hb); have n4_ := Aside0.mk (Kd.V_elder' (by (with_reducible repeat (first | apply Kd.V_alloc | apply Kd.V_drewN | apply Kd.V_drew)); exact HO516.out) (Kd.R_base ho0) hb); have n5_ := Aside0.mk (Kd.V_elder' (by (with_reducible repeat (first | apply Kd.V_alloc | apply Kd.V_drewN | apply Kd.V_drew)); exact HO522.out) (Kd.R_base ho0) hb); have n6_ := Aside0.mk (Kd.R_lower ho0 (below_size (by repeat (first | (with_reducible first | exact HB.out | apply below_alloc | apply pw_below_drewN | apply below_drew1) | exact HB.out | exact Below.refl _ _)))); have n7_ := Aside0.mk (below_step (by repeat (first | (with_reducible first | exact HB.out | apply below_alloc | apply pw_below_drewN | apply below_drew1) | exact HB.out | exact Below.refl _ _)) hb); clear HO_7; clear HO505; clear HO508; clear HO511; clear HO516; clear HO522; clear HB; have HO_7 := n0_; have HO505 := n1_; have HO508 := n2_; have HO511 := n3_; have HO516 := n4_; have HO522 := n5_; have HO526 := n6_; have HB := n7_; clear n0_ n1_ n2_ n3_ n4_ n5_ n6_ n7_; (try clear hb); (try clear hb2); (try clear hk); (try clear hi); (try clear ho0); obtain ⟨Ao53, co53, eo53⟩ := Kd.R_slice HO526.out; subst eo53) | (go_at_call 28; (with_reducible refine (iceboxlaw9_awake.calls k3  t527 _ A39.out).mono ?_); rintro e w54 ⟨rfl, hb⟩; have n0_ := Aside0.mk (Kd.N_below (by (with_reducible repeat (first | apply Kd.N_alloc | apply Kd.N_drewN | apply Kd.N_drew)); exact HO_7.out) hb); have n1_ := Aside0.mk (Kd.N_below (by (with_reducible repeat (first | apply Kd.N_alloc | apply Kd.N_drewN | apply Kd.N_drew)); exact HO505.out) hb); have n2_ := Aside0.mk (Kd.N_below (by (with_reducible repeat (first | apply Kd.N_alloc | apply Kd.N_drewN | apply Kd.N_drew)); exact HO508.out) hb); have n3_ := Aside0.mk (Kd.N_below (by (with_reducible repeat (first | apply Kd.N_alloc | apply Kd.N_drewN | apply Kd.N_drew)); exact HO511.out) hb); have n4_ := Aside0.mk (Kd.V_below (by (with_reducible repeat (first | apply Kd.V_alloc | apply Kd.V_drewN | apply Kd.V_drew)); exact HO516.out) hb); have n5_ := Aside0.mk (Kd.V_below (by (with_reducible repeat (first | apply Kd.V_alloc | apply Kd.V_drewN | apply Kd.V_drew)); exact HO522.out) hb); have n6_ := Aside0.mk (Kd.R_below (by (with_reducible repeat (first | apply Kd.R_alloc | apply Kd.R_drewN | apply Kd.R_drew)); exact HO526.out) hb); have n7_ := Aside0.mk (below_step (by repeat (first | (with_reducible first | exact HB.out | apply below_alloc | apply pw_below_drewN | apply below_drew1) | exact HB.out | exact Below.refl _ _)) hb); clear HO_7; clear HO505; clear HO508; clear HO511; clear HO516; clear HO522; clear HO526; clear HB; have HO_7 := n0_; have HO505 := n1_; have HO508 := n2_; have HO511 := n3_; have HO516 := n4_; have HO522 := n5_; have HO526 := n6_; have HB := n7_; clear n0_ n1_ n2_ n3_ n4_ n5_ n6_ n7_; (try clear hb); (try clear hb2); (try clear hk); (try clear hi)))
                 go_ret
                 exact ⟨by first | rfl | (simp [errW_none, errW_some] <;> rfl) | (simp only [← hji28]; first | rfl | (simp [errW_none, errW_some] <;> rfl)) | (simp [*, errW_none, errW_some] <;> rfl), by repeat (first | (with_reducible first | exact HB.out | apply below_alloc | apply pw_below_drewN | apply below_drew1) | exact HB.out | exact Below.refl _ _)⟩
                ·
                 rw [if_neg c38] at H
                 have c38b0 : ((t524.length : Int) == 0) = false := beq_eq_false_iff_ne.mpr c38
                 have c38b1 : ((t524.length : Int) != 0) = true := bne_iff_ne.mpr c38
                 have c38b2 : ¬ (t524 = []) := fun h_ => c38 (by rw [h_]; rfl)
                 exact absurd ((Option.some.inj H).trans hR_.out) (by decide)
               ·
                replace c36 := Bool.eq_false_iff.mpr c36
                subst c36
                have H1 : (some false) = some r := by rw [if_neg (show ¬ (false = true) by decide)] at H; exact H
                clear H
                have H := H1
                clear H1
                exact absurd ((Option.some.inj H).trans hR_.out) (by decide)
              ·
               replace c32 := Bool.eq_false_iff.mpr c32
               subst c32
               have H1 : (some false) = some r := by rw [if_neg (show ¬ (false = true) by decide)] at H; exact H
               clear H
               have H := H1
               clear H1
               exact absurd ((Option.some.inj H).trans hR_.out) (by decide)
             ·
              rw [if_neg c30] at H
              exact absurd H (by simp)
            ·
             rw [if_neg c29] at H
             exact absurd H (by simp)

/-- THE ONE PURE STATEMENT of iceboxlaw9_ReplayGaps: yours. -/
def iceboxlaw9_ReplayGaps.Pure : Prop := ∀ (l0 : List Int) (a1 : Int) (a2 : Int), l0.length ≤ maxLen → l0.length * 1 ≤ 140737488351232 → (∀ x ∈ l0, (Lit.int .u8 x).wf = true) → (Lit.int .u8 a1).wf = true → (Lit.int .u8 a2).wf = true → ∃ k, iceboxlaw9_ReplayGaps.f k l0 a1 a2 = some true
theorem iceboxlaw9_ReplayGaps.walk (P : iceboxlaw9_ReplayGaps.Pure) (a0 : Option Addr) (len0 cap0 : Nat) (z0 : List Int) (a1 : Int) (a2 : Int) (w : World) (w0 : (a0 = none ∧ len0 = 0 ∧ cap0 = 0 ∧ z0 = []) ∨ ∃ x, a0 = some x ∧ len0 ≤ cap0 ∧ cap0 ≤ maxLen ∧ z0.length = cap0 ∧ (∀ i, i < z0.length → w.cell? (x.add i) = some (.int .u8 (z0.getD i 0))) ∧ ∀ n ∈ z0, (Lit.int .u8 n).wf = true) (y0 : len0 * 1 ≤ 140737488351232) (w1 : (Lit.int .u8 a1).wf = true) (w2 : (Lit.int .u8 a2).wf = true) :
 Calls Try.prog 11 #[.slice a0 len0 cap0, .int .u8 a1, .int .u8 a2] w fun e w' => e = .returned (.bool true) ∧ Below w.heap.size w w' := by
 obtain ⟨l0, rfl, hr0, hm0, hw0, hc0⟩ := ReadsInt.ofRowC w0
 obtain ⟨k, h⟩ := P l0 a1 a2 hm0 y0 hw0 w1 w2
 refine (iceboxlaw9_ReplayGaps.calls k _ _ l0 a1 a2 true w ⟨rfl⟩ (Kd.C_of_reads (d := (0 : Int)) (h1 := fun _ => rfl) hr0) hc0 h).mono ?_
 rintro e w' ⟨rfl, hd⟩
 exact ⟨rfl, hd⟩

end Go.Proofs.Ytgannkfpfhdhjaa.PReplayGaps
