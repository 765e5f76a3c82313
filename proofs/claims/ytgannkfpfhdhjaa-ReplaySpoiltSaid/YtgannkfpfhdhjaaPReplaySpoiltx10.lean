/- The functions that a law reaches, as Lean functions, each with the contract that its Go code comes to just these answers. Written by a program of this claim's author (wip/mkprint.py). No conditions. -/
import Derived.Test.YtgannkfpfhdhjaaPReplaySpoiltx0
import Derived.Test.YtgannkfpfhdhjaaPReplaySpoiltx5
import Derived.Test.YtgannkfpfhdhjaaPReplaySpoiltx7
import Derived.Test.YtgannkfpfhdhjaaPReplaySpoiltx8
import Derived.Test.YtgannkfpfhdhjaaPReplaySpoiltx9
namespace Go.Proofs.Ytgannkfpfhdhjaa.PReplaySpoilt
open Go.RowKit Go.Proofs.YtgannkfpfhdhjaaW.PrintWords Go.Proofs.YtgannkfpfhdhjaaW.PrintLast Go.Proofs.YtgannkfpfhdhjaaW.PrintMore
attribute [local go_sem] max2_int min2_int max_two min_two max_three min_three max_four min_four   -- for this text's walks alone
set_option linter.unusedVariables false
set_option linter.unusedSimpArgs false

/-! ### iceboxlaw9_ReplaySpoilt: function 8 -/
mutual
def iceboxlaw9_ReplaySpoilt.j0 : Nat → List Int → Int → Int → Int → Bool → Option (Bool)
 | 0, _, _, _, _, _ => none
 | k + 1, x0, x1, x2, x3, x28 => if x28 = true then ((iceboxlaw9_awake.f k).bind fun t479 => (some t479)) else ((iceboxlaw9_Make.f k x0 1).bind fun t480 => (if (t480.length : Int) = 0 then (none) else (iceboxlaw9_ReplaySpoilt.l0 k x2 x3 t480 (Int.tmod (wrap64 (x1)) (t480.length : Int)) ([] : List Int) 0 0)))
def iceboxlaw9_ReplaySpoilt.l0 : Nat → Int → Int → List (S37) → Int → List Int → Int → Int → Option (Bool)
 | 0, _, _, _, _, _, _, _ => none
 | k + 1, x2, x3, x9, x10, x11, x12, x13 => if x13 < (x9.length : Int) then (if 0 ≤ x13 then ((replay_Put.f k ((rd_T37 x9 x13).f0) ((rd_T37 x9 x13).f1)).bind fun t494 => (if (t494.length : Int) < 9 then (some false) else (if x13 = x10 then (if (wrap64 ((t494.length : Int) - 4)) = 0 then (none) else (if 0 ≤ (wrap64 (4 + (Int.tmod (wrap64 (x2)) (wrap64 ((t494.length : Int) - 4))))) then (if (wrap64 (4 + (Int.tmod (wrap64 (x2)) (wrap64 ((t494.length : Int) - 4))))) < (t494.length : Int) then ((some (t494.set ((wrap64 (4 + (Int.tmod (wrap64 (x2)) (wrap64 ((t494.length : Int) - 4))))) : Int).toNat (Go.bits .xor .u8 (rd t494 (wrap64 (4 + (Int.tmod (wrap64 (x2)) (wrap64 ((t494.length : Int) - 4)))))) x3) : List Int)).bind fun y498 => (if x11.length + y498.length < 140737488355328 then (iceboxlaw9_ReplaySpoilt.l0 k x2 x3 x9 x10 (x11 ++ y498) (x11.length : Int) (wrap64 (x13 + 1))) else (none))) else (none)) else (none))) else (if x11.length + t494.length < 140737488355328 then (iceboxlaw9_ReplaySpoilt.l0 k x2 x3 x9 x10 (x11 ++ t494) x12 (wrap64 (x13 + 1))) else (none))))) else (none)) else ((replay_Scan.f k x11).bind fun bt483 => (if 0 ≤ x10 then (if x10 ≤ (x9.length : Int) then ((iceboxref1_Batches.f k bt483.1 (x9.take (x10 : Int).toNat)).bind fun t491 => (if t491 = true then (if bt483.2 = x12 then ((iceboxlaw9_awake.f k).bind fun t492 => (some t492)) else (some false)) else (some false))) else (none)) else (none)))
end
def iceboxlaw9_ReplaySpoilt.f (k : Nat) (l0 : List Int) (a1 : Int) (a2 : Int) (a3 : Int) : Option (Bool) := if (l0.length : Int) = 0 then (iceboxlaw9_ReplaySpoilt.j0 k l0 a1 a2 a3 true) else (if (l0.length : Int) > 30 then (iceboxlaw9_ReplaySpoilt.j0 k l0 a1 a2 a3 true) else (iceboxlaw9_ReplaySpoilt.j0 k l0 a1 a2 a3 (a3 == 0)))
theorem iceboxlaw9_ReplaySpoilt.mono_l : ∀ k, (∀ y0 y1 y2 y3 y4, LeO (iceboxlaw9_ReplaySpoilt.j0 k y0 y1 y2 y3 y4) (iceboxlaw9_ReplaySpoilt.j0 (k + 1) y0 y1 y2 y3 y4)) ∧ (∀ y0 y1 y2 y3 y4 y5 y6, LeO (iceboxlaw9_ReplaySpoilt.l0 k y0 y1 y2 y3 y4 y5 y6) (iceboxlaw9_ReplaySpoilt.l0 (k + 1) y0 y1 y2 y3 y4 y5 y6))
 | 0 => ⟨fun _ _ _ _ _ r h => by simp [iceboxlaw9_ReplaySpoilt.j0] at h, fun _ _ _ _ _ _ _ r h => by simp [iceboxlaw9_ReplaySpoilt.l0] at h⟩
 | k + 1 => by
  obtain ⟨ih0, ih1⟩ := iceboxlaw9_ReplaySpoilt.mono_l k
  refine ⟨?_, ?_⟩
  ·
   intro y0 y1 y2 y3 y4
   unfold iceboxlaw9_ReplaySpoilt.j0
   repeat' first
   | (with_reducible exact ih0 _ _ _ _ _)
   | (with_reducible exact ih1 _ _ _ _ _ _ _)
   | (with_reducible exact iceboxlaw9_Make.mono _ _ _)
   | (with_reducible exact iceboxlaw9_awake.mono _)
   | (with_reducible exact iceboxref1_Batches.mono _ _ _)
   | (with_reducible exact replay_Put.mono _ _ _)
   | (with_reducible exact replay_Scan.mono _ _)
   | (with_reducible exact LeO.refl _)
   | (with_reducible exact LeO.none _)
   | (with_reducible refine LeO.ite ?_ ?_)
   | (with_reducible refine LeO.bind ?_ (fun _ => ?_))
   | exact ih0 _ _ _ _ _
   | exact ih1 _ _ _ _ _ _ _
   | exact iceboxlaw9_Make.mono _ _ _
   | exact iceboxlaw9_awake.mono _
   | exact iceboxref1_Batches.mono _ _ _
   | exact replay_Put.mono _ _ _
   | exact replay_Scan.mono _ _
   | exact LeO.none _
   | refine LeO.ite ?_ ?_
   | refine LeO.bind ?_ (fun _ => ?_)
  ·
   intro y0 y1 y2 y3 y4 y5 y6
   unfold iceboxlaw9_ReplaySpoilt.l0
   repeat' first
   | (with_reducible exact ih0 _ _ _ _ _)
   | (with_reducible exact ih1 _ _ _ _ _ _ _)
   | (with_reducible exact iceboxlaw9_Make.mono _ _ _)
   | (with_reducible exact iceboxlaw9_awake.mono _)
   | (with_reducible exact iceboxref1_Batches.mono _ _ _)
   | (with_reducible exact replay_Put.mono _ _ _)
   | (with_reducible exact replay_Scan.mono _ _)
   | (with_reducible exact LeO.refl _)
   | (with_reducible exact LeO.none _)
   | (with_reducible refine LeO.ite ?_ ?_)
   | (with_reducible refine LeO.bind ?_ (fun _ => ?_))
   | exact ih0 _ _ _ _ _
   | exact ih1 _ _ _ _ _ _ _
   | exact iceboxlaw9_Make.mono _ _ _
   | exact iceboxlaw9_awake.mono _
   | exact iceboxref1_Batches.mono _ _ _
   | exact replay_Put.mono _ _ _
   | exact replay_Scan.mono _ _
   | exact LeO.none _
   | refine LeO.ite ?_ ?_
   | refine LeO.bind ?_ (fun _ => ?_)
theorem iceboxlaw9_ReplaySpoilt.mono : ∀ a0 a1 a2 a3 k, LeO (iceboxlaw9_ReplaySpoilt.f k a0 a1 a2 a3) (iceboxlaw9_ReplaySpoilt.f (k + 1) a0 a1 a2 a3) := by
 intro a0 a1 a2 a3 k
 obtain ⟨ih0, ih1⟩ := iceboxlaw9_ReplaySpoilt.mono_l k
 unfold iceboxlaw9_ReplaySpoilt.f
 repeat' first
  | (with_reducible exact ih0 _ _ _ _ _)
  | (with_reducible exact ih1 _ _ _ _ _ _ _)
  | (with_reducible exact iceboxlaw9_Make.mono _ _ _)
  | (with_reducible exact iceboxlaw9_awake.mono _)
  | (with_reducible exact iceboxref1_Batches.mono _ _ _)
  | (with_reducible exact replay_Put.mono _ _ _)
  | (with_reducible exact replay_Scan.mono _ _)
  | (with_reducible exact LeO.refl _)
  | (with_reducible exact LeO.none _)
  | (with_reducible refine LeO.ite ?_ ?_)
  | (with_reducible refine LeO.bind ?_ (fun _ => ?_))
  | exact ih0 _ _ _ _ _
  | exact ih1 _ _ _ _ _ _ _
  | exact iceboxlaw9_Make.mono _ _ _
  | exact iceboxlaw9_awake.mono _
  | exact iceboxref1_Batches.mono _ _ _
  | exact replay_Put.mono _ _ _
  | exact replay_Scan.mono _ _
  | exact LeO.none _
  | refine LeO.ite ?_ ?_
  | refine LeO.bind ?_ (fun _ => ?_)
set_option maxHeartbeats 80000000 in
set_option maxRecDepth 100000 in
theorem iceboxlaw9_ReplaySpoilt.calls (k : Nat) (A0 : Option Addr) (c0 : Nat) (l0 : List Int) (a1 : Int) (a2 : Int) (a3 : Int) (r : Bool) (w : World) (hR_ : Aside0 (r = true)) (hr0 : Kd.C (Kd.int .u8) w A0 l0.length l0) (hc0 : l0.length ≤ c0) (h : iceboxlaw9_ReplaySpoilt.f k l0 a1 a2 a3 = some r) :
 Calls Try.prog 8 #[.slice A0 l0.length c0, .int .u8 a1, .int .u16 a2, .int .u8 a3] w fun e w' => e = .returned (.bool r) ∧ Below w.heap.size w w' := by
 have hu37 := Try.underlying37
 have HR0 := Aside0.mk hr0
 have HC0 := Aside0.mk hc0
 clear hr0 hc0
 have HB := Aside0.mk (Below.refl w.heap.size w)
 have H : (if (l0.length : Int) = 0 then (iceboxlaw9_ReplaySpoilt.j0 k l0 a1 a2 a3 true) else (if (l0.length : Int) > 30 then (iceboxlaw9_ReplaySpoilt.j0 k l0 a1 a2 a3 true) else (iceboxlaw9_ReplaySpoilt.j0 k l0 a1 a2 a3 (a3 == 0)))) = some r := h
 clear h
 have HC5 := Aside0.mk H
 clear H
 go_enter Try.func8, Try.ntmps8
 go_upto_region 1 with (fail)
 go_cut [28] (fun v28 wc => ∃ (kq : Nat) (x28_4 : Bool), v28 = .bool x28_4 ∧ Aside0 (iceboxlaw9_ReplaySpoilt.j0 kq l0 a1 a2 a3 x28_4 = some r) ∧ Aside0 (kq ≤ k) ∧ Aside0 (Below w.heap.size w wc))
 case first =>
  have H := HC5.out
  clear HC5
  by_cases c6 : (l0.length : Int) = 0
  ·
   rw [if_pos c6] at H
   have c6b0 : ((l0.length : Int) == 0) = true := beq_iff_eq.mpr c6
   have c6b1 : ((l0.length : Int) != 0) = false := bne_eq_false_iff_eq.mpr c6
   clear c6
   (first | rw [c6b0] | (simp only [i64_w, i32_w]; rw [c6b0]) | skip)
   have H' := Aside0.mk H
   clear H
   go_wp2
   go_meet
   case rel => exact ⟨_, (true), (by first | rfl | (simp; done) | (simp [*]; done)), H', ⟨by first | omega | exact Nat.le_refl _⟩, ⟨by repeat (first | (with_reducible first | exact HB.out | apply below_alloc | apply pw_below_drewN | apply below_drew1) | exact HB.out | exact Below.refl _ _)⟩⟩
  ·
   rw [if_neg c6] at H
   have c6b0 : ((l0.length : Int) == 0) = false := beq_eq_false_iff_ne.mpr c6
   have c6b1 : ((l0.length : Int) != 0) = true := bne_iff_ne.mpr c6
   have c6b2 : ¬ (l0 = []) := fun h_ => c6 (by rw [h_]; rfl)
   (first | rw [c6b0] | (simp only [i64_w, i32_w]; rw [c6b0]) | skip)
   by_cases c7 : (l0.length : Int) > 30
   ·
    rw [if_pos c7] at H
    have c7b0 : decide (30 < (l0.length : Int)) = true := decide_eq_true c7
    have c7b1 : decide (30 < l0.length) = true := decide_eq_true (by omega)
    clear c7
    have H' := Aside0.mk H
    clear H
    go_wp2
    go_meet
    case rel => exact ⟨_, (true), (by first | rfl | (simp; done) | (simp [*]; done)), H', ⟨by first | omega | exact Nat.le_refl _⟩, ⟨by repeat (first | (with_reducible first | exact HB.out | apply below_alloc | apply pw_below_drewN | apply below_drew1) | exact HB.out | exact Below.refl _ _)⟩⟩
   ·
    rw [if_neg c7] at H
    have c7b0 : decide (30 < (l0.length : Int)) = false := decide_eq_false c7
    have c7b1 : decide (30 < l0.length) = false := decide_eq_false (by omega)
    clear c7
    have H' := Aside0.mk H
    clear H
    go_wp2
    go_meet
    case rel => exact ⟨_, ((a3 == 0)), (by first | rfl | (simp; done) | (simp [*]; done)), H', ⟨by first | omega | exact Nat.le_refl _⟩, ⟨by repeat (first | (with_reducible first | exact HB.out | apply below_alloc | apply pw_below_drewN | apply below_drew1) | exact HB.out | exact Below.refl _ _)⟩⟩
 case rest =>
  as_aux_lemma =>
   clear HC5
   obtain ⟨kq, x28_4, rfl, HA, HJ4, HB⟩ := hcut
   cases kq with
   | zero => exact absurd HA.out (by simp [iceboxlaw9_ReplaySpoilt.j0])
   | succ kj4 =>
    have H := HA.out
    clear HA
    simp only [iceboxlaw9_ReplaySpoilt.j0] at H
    by_cases c8 : x28_4 = true
    ·
     subst c8
     have H1 : ((iceboxlaw9_awake.f kj4).bind fun t479 => (some t479)) = some r := by rw [if_pos rfl] at H; exact H
     clear H
     have H := H1
     clear H1
     replace H := Option.bind_eq_some_iff.mp H
     obtain ⟨t479, A90, H⟩ := H
     replace H : (some t479) = some r := H
     have A9 := Aside0.mk A90
     clear A90
     obtain rfl := Option.some.inj H
     go_wp2_with (first | ((with_reducible refine gate_callee (f := 28) rfl ?_); refine goesL_ (some 29) rfl rfl Try.func28 (by kernel_rfl) rfl #[] rfl (by (try simp only [List.map_toArray, List.map_cons, List.map_nil]); first | done | rfl | (simp only [List.length_drop, List.length_take]; rfl)) ?_; (with_reducible refine (iceboxlaw9_awake.calls kj4  t479 _ A9.out).mono ?_); rintro e w10 ⟨rfl, hb⟩; refine ⟨_, rfl, ?_⟩; have n0_ := Aside0.mk (below_step (by repeat (first | (with_reducible first | exact HB.out | apply below_alloc | apply pw_below_drewN | apply below_drew1) | exact HB.out | exact Below.refl _ _)) hb); clear HB; have HB := n0_; clear n0_; (try clear hb); (try clear hb2); (try clear hk); (try clear hi)))
     go_ret
     exact ⟨by first | rfl | (simp [errW_none, errW_some] <;> rfl) | (simp [*, errW_none, errW_some] <;> rfl), by repeat (first | (with_reducible first | exact HB.out | apply below_alloc | apply pw_below_drewN | apply below_drew1) | exact HB.out | exact Below.refl _ _)⟩
    ·
     replace c8 := Bool.eq_false_iff.mpr c8
     subst c8
     have H1 : ((iceboxlaw9_Make.f kj4 l0 1).bind fun t480 => (if (t480.length : Int) = 0 then (none) else (iceboxlaw9_ReplaySpoilt.l0 kj4 a2 a3 t480 (Int.tmod (wrap64 (a1)) (t480.length : Int)) ([] : List Int) 0 0))) = some r := by rw [if_neg (show ¬ (false = true) by decide)] at H; exact H
     clear H
     have H := H1
     clear H1
     replace H := Option.bind_eq_some_iff.mp H
     obtain ⟨t480, A110, H⟩ := H
     replace H : (if (t480.length : Int) = 0 then (none) else (iceboxlaw9_ReplaySpoilt.l0 kj4 a2 a3 t480 (Int.tmod (wrap64 (a1)) (t480.length : Int)) ([] : List Int) 0 0)) = some r := H
     have A11 := Aside0.mk A110
     clear A110
     by_cases c12 : (t480.length : Int) = 0
     ·
      rw [if_pos c12] at H
      exact absurd H (by simp)
     ·
      rw [if_neg c12] at H
      have c12b0 : ((t480.length : Int) == 0) = false := beq_eq_false_iff_ne.mpr c12
      have c12b1 : ((t480.length : Int) != 0) = true := bne_iff_ne.mpr c12
      have c12b2 : ¬ (t480 = []) := fun h_ => c12 (by rw [h_]; rfl)
      have H' := Aside0.mk H
      clear H
      go_wp2_with (first | ((with_reducible refine gate_callee (f := 29) rfl ?_); refine goesL_ (some 31) rfl rfl Try.func29 (by kernel_rfl) rfl #[.slice A0 l0.length c0, .int .i64 1] rfl (by (try simp only [List.map_toArray, List.map_cons, List.map_nil]); first | done | rfl | (simp only [List.length_drop, List.length_take]; rfl)) ?_; (with_reducible refine (iceboxlaw9_Make.calls kj4 _ _ l0 1 t480 _ ?side1 ?side2 A11.out).mono ?_); (case side1 => repeat (first | exact (Kd.C_below HR0.out HB.out) | (with_reducible refine Kd.C_alloc ?_ _) | (with_reducible refine Kd.C_drewN ?_ _) | (with_reducible refine Kd.C_drew ?_))); (case side2 => exact HC0.out); rintro e w13 ⟨v481, rfl, ho0, hb⟩; refine ⟨_, rfl, ?_⟩; have n0_ := Aside0.mk (Kd.S_lower ho0 (below_size (by repeat (first | (with_reducible first | exact HB.out | apply below_alloc | apply pw_below_drewN | apply below_drew1) | exact HB.out | exact Below.refl _ _)))); have n1_ := Aside0.mk (below_step (by repeat (first | (with_reducible first | exact HB.out | apply below_alloc | apply pw_below_drewN | apply below_drew1) | exact HB.out | exact Below.refl _ _)) hb); clear HB; have HO482 := n0_; have HB := n1_; clear n0_ n1_; (try clear hb); (try clear hb2); (try clear hk); (try clear hi); (try clear ho0); obtain ⟨Ao14, co14, eo14⟩ := Kd.S_slice HO482.out; subst eo14))
      try simp only [Act.put, List.setIfInBounds_toArray, List.set_cons_zero, List.set_cons_succ]
      go_loopg [11, 12, 13] kj4 (fun kq v11 v12 v13 w' => ∃ (x11_2 : List Int) (x12_2 : Int) (x13_2 : Int), v12 = .int .i64 x12_2 ∧ v13 = .int .i64 x13_2 ∧ Aside0 (iceboxlaw9_ReplaySpoilt.l0 kq a2 a3 t480 (Int.tmod (wrap64 (a1)) (t480.length : Int)) x11_2 x12_2 x13_2 = some r) ∧ Aside0 (kq ≤ kj4) ∧ Aside0 (Kd.S k37 37 w' w.heap.size (fun _ => True) (.slice Ao14 t480.length co14) t480) ∧ Aside0 (Kd.R (Kd.int .u8) 5 w' w.heap.size (fun _ => True) v11 x11_2) ∧ Aside0 (Below w.heap.size w w'))
      case atStart => exact ⟨(([] : List Int)), (0), (0), (by first | rfl | (simp; done) | (simp [*]; done)), (by first | rfl | (simp; done) | (simp [*]; done)), H', ⟨Nat.le_refl _⟩, ⟨by (with_reducible repeat (first | apply Kd.S_alloc | apply Kd.S_drewN | apply Kd.S_drew)); exact HO482.out⟩, ⟨by first | exact Kd.R_nil _ _ _ _ _ | exact Kd.N_nil _ _ _ _ _ | exact Kd.V_nil _ _ _ _ _ | exact Kd.Q_nil _ _ _ _ _ | exact Kd.S_nil _ _ _ _ _⟩, ⟨by repeat (first | (with_reducible first | exact HB.out | apply below_alloc | apply pw_below_drewN | apply below_drew1) | exact HB.out | exact Below.refl _ _)⟩⟩
      case round =>
       clear H'
       obtain ⟨x11_2, x12_2, x13_2, rfl, rfl, HA, HK2, HO_9, HO_11, HB⟩ := hrel
       cases gk with
       | zero => exact absurd HA.out (by simp [iceboxlaw9_ReplaySpoilt.l0])
       | succ k2 =>
        have H := HA.out
        clear HA
        simp only [iceboxlaw9_ReplaySpoilt.l0] at H
        by_cases c15 : x13_2 < (t480.length : Int)
        ·
         rw [if_pos c15] at H
         have c15b0 : decide (x13_2 < (t480.length : Int)) = true := decide_eq_true c15
         clear c15
         by_cases c16 : 0 ≤ x13_2
         ·
          rw [if_pos c16] at H
          have c16b0 : decide (0 ≤ x13_2) = true := decide_eq_true c16
          clear c16
          replace H := Option.bind_eq_some_iff.mp H
          obtain ⟨t494, A170, H⟩ := H
          replace H : (if (t494.length : Int) < 9 then (some false) else (if x13_2 = (Int.tmod (wrap64 (a1)) (t480.length : Int)) then (if (wrap64 ((t494.length : Int) - 4)) = 0 then (none) else (if 0 ≤ (wrap64 (4 + (Int.tmod (wrap64 (a2)) (wrap64 ((t494.length : Int) - 4))))) then (if (wrap64 (4 + (Int.tmod (wrap64 (a2)) (wrap64 ((t494.length : Int) - 4))))) < (t494.length : Int) then ((some (t494.set ((wrap64 (4 + (Int.tmod (wrap64 (a2)) (wrap64 ((t494.length : Int) - 4))))) : Int).toNat (Go.bits .xor .u8 (rd t494 (wrap64 (4 + (Int.tmod (wrap64 (a2)) (wrap64 ((t494.length : Int) - 4)))))) a3) : List Int)).bind fun y498 => (if x11_2.length + y498.length < 140737488355328 then (iceboxlaw9_ReplaySpoilt.l0 k2 a2 a3 t480 (Int.tmod (wrap64 (a1)) (t480.length : Int)) (x11_2 ++ y498) (x11_2.length : Int) (wrap64 (x13_2 + 1))) else (none))) else (none)) else (none))) else (if x11_2.length + t494.length < 140737488355328 then (iceboxlaw9_ReplaySpoilt.l0 k2 a2 a3 t480 (Int.tmod (wrap64 (a1)) (t480.length : Int)) (x11_2 ++ t494) x12_2 (wrap64 (x13_2 + 1))) else (none)))) = some r := H
          have A17 := Aside0.mk A170
          clear A170
          by_cases c18 : (t494.length : Int) < 9
          ·
           rw [if_pos c18] at H
           have c18b0 : decide ((t494.length : Int) < 9) = true := decide_eq_true c18
           have c18b1 : decide (t494.length < 9) = true := decide_eq_true (by omega)
           clear c18
           exact absurd ((Option.some.inj H).trans hR_.out) (by decide)
          ·
           rw [if_neg c18] at H
           have c18b0 : decide ((t494.length : Int) < 9) = false := decide_eq_false c18
           have c18b1 : decide (t494.length < 9) = false := decide_eq_false (by omega)
           clear c18
           by_cases c19 : x13_2 = (Int.tmod (wrap64 (a1)) (t480.length : Int))
           ·
            rw [if_pos c19] at H
            have c19b0 : (x13_2 == (Int.tmod (wrap64 (a1)) (t480.length : Int))) = true := beq_iff_eq.mpr c19
            have c19b1 : (x13_2 != (Int.tmod (wrap64 (a1)) (t480.length : Int))) = false := bne_eq_false_iff_eq.mpr c19
            clear c19
            by_cases c20 : (wrap64 ((t494.length : Int) - 4)) = 0
            ·
             rw [if_pos c20] at H
             exact absurd H (by simp)
            ·
             rw [if_neg c20] at H
             have c20b0 : ((wrap64 ((t494.length : Int) - 4)) == 0) = false := beq_eq_false_iff_ne.mpr c20
             have c20b1 : ((wrap64 ((t494.length : Int) - 4)) != 0) = true := bne_iff_ne.mpr c20
             obtain ⟨ji21, hji21⟩ : ∃ j_ : Int, (wrap64 (4 + (Int.tmod (wrap64 (a2)) (wrap64 ((t494.length : Int) - 4))))) = j_ := ⟨_, rfl⟩
             replace H : (if 0 ≤ (ji21) then (if (ji21) < (t494.length : Int) then ((some (t494.set ((ji21) : Int).toNat (Go.bits .xor .u8 (rd t494 (ji21)) a3) : List Int)).bind fun y498 => (if x11_2.length + y498.length < 140737488355328 then (iceboxlaw9_ReplaySpoilt.l0 k2 a2 a3 t480 (Int.tmod (wrap64 (a1)) (t480.length : Int)) (x11_2 ++ y498) (x11_2.length : Int) (wrap64 (x13_2 + 1))) else (none))) else (none)) else (none)) = some r := by first | (rw [hji21] at H; exact H) | (simp only [hji21] at H ⊢; exact H)
             (try rw [hji21] at A17)
             have hji21w : (IntKind.i64.wrap (4 + (Int.tmod (wrap64 (a2)) (wrap64 ((t494.length : Int) - 4))))) = ji21 := (i64_w _).trans hji21
             by_cases c22 : 0 ≤ (ji21)
             ·
              rw [if_pos c22] at H
              have c22b0 : decide (0 ≤ (ji21)) = true := decide_eq_true c22
              clear c22
              by_cases c23 : (ji21) < (t494.length : Int)
              ·
               rw [if_pos c23] at H
               have c23b0 : decide ((ji21) < (t494.length : Int)) = true := decide_eq_true c23
               clear c23
               obtain ⟨y498, hy498⟩ : ∃ y_ : List Int, y_ = (t494.set ((ji21) : Int).toNat (Go.bits .xor .u8 (rd t494 (ji21)) a3)) := ⟨_, rfl⟩
               replace H : (if x11_2.length + y498.length < 140737488355328 then (iceboxlaw9_ReplaySpoilt.l0 k2 a2 a3 t480 (Int.tmod (wrap64 (a1)) (t480.length : Int)) (x11_2 ++ y498) (x11_2.length : Int) (wrap64 (x13_2 + 1))) else (none)) = some r := by first | (rw [hy498]; with_reducible exact H) | (have H2_ := (Option.bind_some _ _).symm.trans H; rw [hy498]; with_reducible exact H2_) | (have H2_ := (Option.bind_some _ _).symm.trans H; with_reducible exact H2_) | with_reducible exact H | (rw [hy498]; exact H) | exact H
               have Ny498 := Aside0.mk hy498
               clear hy498
               by_cases c25 : x11_2.length + y498.length < 140737488355328
               ·
                rw [if_pos c25] at H
                have LMc25 := Aside0.mk c25
                clear c25
                obtain ⟨y499, hy499⟩ : ∃ y_ : List Int, y_ = (x11_2 ++ y498) := ⟨_, rfl⟩
                replace H : (iceboxlaw9_ReplaySpoilt.l0 k2 a2 a3 t480 (Int.tmod (wrap64 (a1)) (t480.length : Int)) y499 (x11_2.length : Int) (wrap64 (x13_2 + 1))) = some r := by first | (rw [hy499]; with_reducible exact H) | (have H2_ := (Option.bind_some _ _).symm.trans H; rw [hy499]; with_reducible exact H2_) | (have H2_ := (Option.bind_some _ _).symm.trans H; with_reducible exact H2_) | with_reducible exact H | (rw [hy499]; exact H) | exact H
                have Ny499 := Aside0.mk hy499
                clear hy499
                have H' := Aside0.mk H
                clear H
                have p493 : 0 ≤ (x13_2 : Int) := of_decide_eq_true (by first | (with_reducible assumption) | assumption)
                have q493 : x13_2 < (t480.length : Int) := of_decide_eq_true (by first | (with_reducible assumption) | assumption)
                obtain ⟨ad493, A493_1, c493_1, e493, hx493_0, hx493_1, hl493_1, hi493_1⟩ := at_T37 (Kd.S_reads' HO_9.out).2.2 x13_2 p493 q493
                cases e493
                obtain ⟨ce493, hce493, hMe493, hcc493⟩ := Kd.S_get HO_9.out z37 x13_2 p493 (by first | exact q493 | exact of_decide_eq_true (by first | (with_reducible assumption) | assumption) | (have e_ := (Kd.S_reads' HO_9.out).1; omega))
                obtain ⟨ve493_1, rfl, ge493_1⟩ := k37_openM hMe493
                have hv493_1 := hcc493 1 _ rfl
                rw [add_field _ _ 1 (by omega)] at hv493_1
                replace hv493_1 := Option.some.inj (hv493_1.symm.trans hx493_1)
                rw [hv493_1] at ge493_1
                have HL493_1 := Aside0.mk (show Kd.R k27 27 _ _ _ _ ((rd_T37 t480 x13_2).f1) from ge493_1)
                clear hv493_1 ge493_1
                clear hcc493 hce493
                have HR493_1 := Aside0.mk hi493_1
                have HC493_1 := Aside0.mk hl493_1
                clear hi493_1 hl493_1
                replace p493 := eq_true p493
                replace q493 := eq_true q493
                go_wp2_with (first | ((with_reducible refine gate_callee (f := 30) rfl ?_); refine goesL_ (some 47) rfl rfl Try.func30 (by kernel_rfl) rfl #[.agg #[.int .i64 ((rd_T37 t480 x13_2).f0), .slice A493_1 ((rd_T37 t480 x13_2).f1).length c493_1]] rfl (by (try simp only [List.map_toArray, List.map_cons, List.map_nil]); first | done | rfl | (simp only [List.length_drop, List.length_take]; rfl)) ?_; (with_reducible refine (replay_Put.calls k2 ((rd_T37 t480 x13_2).f0) _ _ ((rd_T37 t480 x13_2).f1) t494 _ ?side1 ?side2 A17.out).mono ?_); (case side1 => repeat (first | exact (by repeat (first | (with_reducible exact HR493_1.out) | (with_reducible refine Kd.C_alloc ?_ _) | (with_reducible refine Kd.C_drewN ?_ _) | (with_reducible refine Kd.C_drew ?_) | exact HR493_1.out)) | (with_reducible refine Kd.C_alloc ?_ _) | (with_reducible refine Kd.C_drewN ?_ _) | (with_reducible refine Kd.C_drew ?_))); (case side2 => exact HC493_1.out); rintro e w26 ⟨v495, rfl, ho0, hb⟩; refine ⟨_, rfl, ?_⟩; have n0_ := Aside0.mk (Kd.S_below (by (with_reducible repeat (first | apply Kd.S_alloc | apply Kd.S_drewN | apply Kd.S_drew)); exact HO_9.out) hb); have n1_ := Aside0.mk (Kd.R_elder' (by (with_reducible repeat (first | apply Kd.R_alloc | apply Kd.R_drewN | apply Kd.R_drew)); exact HO_11.out) (Kd.R_base ho0) hb); have n2_ := Aside0.mk (Kd.R_below (by (with_reducible repeat (first | apply Kd.R_alloc | apply Kd.R_drewN | apply Kd.R_drew)); exact HL493_1.out) hb); have n3_ := Aside0.mk (Kd.R_lower (Kd.R_new' ho0 (Kd.R_lt (by (with_reducible repeat (first | apply Kd.R_alloc | apply Kd.R_drewN | apply Kd.R_drew)); exact HO_11.out))) (below_size (by repeat (first | (with_reducible first | exact HB.out | apply below_alloc | apply pw_below_drewN | apply below_drew1) | exact HB.out | exact Below.refl _ _)))); have n4_ := Aside0.mk (Kd.C_below (by repeat (first | (with_reducible exact HR493_1.out) | (with_reducible refine Kd.C_alloc ?_ _) | (with_reducible refine Kd.C_drewN ?_ _) | (with_reducible refine Kd.C_drew ?_) | exact HR493_1.out)) hb); have n5_ := Aside0.mk (below_step (by repeat (first | (with_reducible first | exact HB.out | apply below_alloc | apply pw_below_drewN | apply below_drew1) | exact HB.out | exact Below.refl _ _)) hb); clear HO_9; clear HO_11; clear HL493_1; clear HR493_1; clear HB; have HO_9 := n0_; have HO_11 := n1_; have HL493_1 := n2_; have HO496 := n3_; have HR493_1 := n4_; have HB := n5_; clear n0_ n1_ n2_ n3_ n4_ n5_; (try clear hb); (try clear hb2); (try clear hk); (try clear hi); (try clear ho0); obtain ⟨Ao27, co27, eo27⟩ := Kd.R_slice HO496.out; subst eo27; obtain ⟨Ao28, co28, eo28⟩ := Kd.R_slice HO_11.out; subst eo28; have p497 : 0 ≤ ((ji21) : Int) := of_decide_eq_true (by first | (with_reducible assumption) | assumption); have q497 : (ji21) < (t494.length : Int) := of_decide_eq_true (by first | (with_reducible assumption) | assumption); obtain ⟨ad497, e497, hx497_0⟩ := Kd.at_int (Kd.R_reads' HO496.out).2.2 (ji21) p497 q497; cases e497; replace p497 := eq_true p497; replace q497 := eq_true q497; have p24 : 0 ≤ ((ji21) : Int) := of_decide_eq_true (by first | (with_reducible assumption) | assumption); have q24 : ((ji21) : Int) < ((t494.length : Int) : Int) := of_decide_eq_true (by first | (with_reducible assumption) | assumption); obtain ⟨go24, co24, eo24, gb24, gl24, cl24, HG24⟩ := Kd.R_form HO496.out (by omega); (first | cases eo24 | (injection eo24 with ea_ en_ ec_; (first | subst ea_ | (injection ea_ with ea_; subst ea_)); subst ec_; clear en_)); have GB24 := Aside0.mk gb24; have GG24 := Aside0.mk HG24; clear gb24 gl24 HG24; (first | simp only [add_plain] at hx497_0 | skip); obtain ⟨hx24_0, hf24_0⟩ := Kd.R_celln 0 HO496.out ((ji21) : Int) p24 q24; replace p24 := eq_true p24; replace q24 := eq_true q24; have n_ := Aside0.mk (Kd.R_mono (ok' := (fun k_ => some k_ ≠ (.slice Ao28 x11_2.length co28 : Value).ownBlock)) HO496.out (fun k_ hk => hk.2)); clear HO496; have HO496 := n_; clear n_; obtain ⟨hy29_, hz29_⟩ := Kd.R_celln 0 HO496.out ((ji21) : Int) (of_decide_eq_true (by first | (with_reducible assumption) | assumption)) (of_decide_eq_true (by first | (with_reducible assumption) | assumption)); have HP29 := Kd.R_putg HO496.out ((ji21) : Int) (Go.bits .xor .u8 (rd t494 (ji21)) a3)) | ((with_reducible refine gate_store (t := 5) (p := 68) rfl ?_); refine store_event (t := 5) (p := 68) (v := ?vo_w30) (w1 := (w26.setCell ⟨go24, ((ji21) : Int).toNat, none⟩ (.int .u8 (Go.bits .xor .u8 (rd t494 (ji21)) a3)))) ?hg ?ho ?hn ?hr ?_; (case ho => rfl); (case hg => rfl); (case hn => rfl); (case hr => first | (go_simp; done) | (go_simp; rfl)); intro w30 hw; have hg : w26.grownBy w30 (some go24) := (by rw [hw]; exact HP29.2); have hp_ : Kd.R (Kd.int .u8) 5 w30 w.heap.size (fun k_ => some k_ ≠ (.slice Ao28 x11_2.length co28 : Value).ownBlock) (.slice (some ⟨go24, 0, none⟩) t494.length co27) y498 := (by rw [hw, Ny498.out]; exact HP29.1); clear HP29; have n0_ := Aside0.mk (Kd.S_over' (v := (.slice (some ⟨go24, 0, none⟩) t494.length co27)) (by (with_reducible repeat (first | apply Kd.S_alloc | apply Kd.S_drewN | apply Kd.S_drew)); exact HO_9.out) (Kd.R_typed HO496.out) (by decide) hg); have n1_ := Aside0.mk (Kd.R_after (v := (.slice (some ⟨go24, 0, none⟩) t494.length co27)) (v1 := (.slice (some ⟨go24, 0, none⟩) t494.length co27)) (ok := (fun _ => True)) (by (with_reducible repeat (first | apply Kd.R_alloc | apply Kd.R_drewN | apply Kd.R_drew)); exact HO_11.out) hg (.inl rfl)); have n2_ := Aside0.mk (Kd.R_over' (v := (.slice (some ⟨go24, 0, none⟩) t494.length co27)) (by (with_reducible repeat (first | apply Kd.R_alloc | apply Kd.R_drewN | apply Kd.R_drew)); exact HL493_1.out) (Kd.R_typed HO496.out) (by decide) hg); have n3_ := Aside0.mk (hp_); have n4_ := Aside0.mk ((by rw [hw]; exact below_set (HB.out) GB24.out : Below w.heap.size w w30)); clear HO_9; clear HO_11; clear HL493_1; clear HO496; clear HB; have HO_9 := n0_; have HO_11 := n1_; have HL493_1 := n2_; have HO496 := n3_; have HB := n4_; clear n0_ n1_ n2_ n3_ n4_; clear hg hw hp_) | ((with_reducible refine gate_builtin (b := .append) (xs := #[.tmp 69, .tmp 70]) rfl ?_); (try (refine gate_guard (by rfl) ?_; dsimp only)); at_builtin; refine Kd.R_append_rows (Kd.int .u8) (w0 := w) w.heap.size rfl (.tmp 69) (.tmp 70) 33 5 (.int .u8 0) 1 rfl Try.underlying33 info5 rfl (by decide) (by omega) (.slice Ao28 x11_2.length co28) x11_2 y498 _ _ _ (fun k_ => some k_ ≠ (.slice (some ⟨go24, 0, none⟩) t494.length co27 : Value).ownBlock) (fun _ => False) rfl rfl ?aO ?aR (fun _ _ h => h) (fun _ h => h.elim) ?aF ?aB ?aS ?aL ?_; (case aR => rw [show t494.length = y498.length from (Kd.R_reads' HO496.out).1]; repeat (first | exact (Kd.R_reads' HO496.out).2.2 | (with_reducible refine Kd.C_alloc ?_ _) | (with_reducible refine Kd.C_drewN ?_ _) | (with_reducible refine Kd.C_drew ?_))); (case aB => exact (by repeat (first | (with_reducible first | exact HB.out | apply below_alloc | apply pw_below_drewN | apply below_drew1) | exact HB.out | exact Below.refl _ _))); (case aF => exact (fun k_ hk => Kd.fresh' (Kd.R_lt (by (with_reducible repeat (first | apply Kd.R_alloc | apply Kd.R_drewN | apply Kd.R_drew)); exact HO496.out)) k_ hk)); (case aO => exact (by (with_reducible repeat (first | apply Kd.R_alloc | apply Kd.R_drewN | apply Kd.R_drew)); exact Kd.R_mono HO_11.out (fun _ hk => hk.2))); (case aS => exact (below_size (by repeat (first | (with_reducible first | exact HB.out | apply below_alloc | apply pw_below_drewN | apply below_drew1) | exact HB.out | exact Below.refl _ _)))); (case aL => have := LMc25.out; have hlx_ := (Kd.R_reads' HO496.out).1; omega); intro v500 w31 ho hb hg hat; rw [← Ny499.out] at ho; have n0_ := Aside0.mk (Kd.S_over' (by (with_reducible repeat (first | apply Kd.S_alloc | apply Kd.S_drewN | apply Kd.S_drew)); exact HO_9.out) (Kd.R_typed (by (with_reducible repeat (first | apply Kd.R_alloc | apply Kd.R_drewN | apply Kd.R_drew)); exact HO_11.out)) (by decide) hg); have n1_ := Aside0.mk (Kd.R_over' (by (with_reducible repeat (first | apply Kd.R_alloc | apply Kd.R_drewN | apply Kd.R_drew)); exact HL493_1.out) (Kd.R_typed (by (with_reducible repeat (first | apply Kd.R_alloc | apply Kd.R_drewN | apply Kd.R_drew)); exact HO_11.out)) (by decide) hg); have n2_ := Aside0.mk (Kd.R_after (ok := (fun _ => True)) (by (with_reducible repeat (first | apply Kd.R_alloc | apply Kd.R_drewN | apply Kd.R_drew)); exact Kd.R_mono HO496.out (fun _ hk => ⟨trivial, hk⟩)) hg hat); have n3_ := Aside0.mk (hb); have n4_ := Aside0.mk (ho); clear HO_9; clear HL493_1; clear HO496; clear HB; clear HO_11; have HO_9 := n0_; have HL493_1 := n1_; have HO496 := n2_; have HB := n3_; have HO501 := n4_; clear n0_ n1_ n2_ n3_ n4_; clear ho hb hg hat))
                go_roundg k2
                case measure => have := HJ4.out; have := HK2.out; omega
                case rel => exact ⟨(y499), ((x11_2.length : Int)), (wrap64 (x13_2 + 1)), (by first | rfl | (simp; done) | (simp [*]; done)), (by first | rfl | (simp; done) | (simp [*]; done)), (by first | exact H' | (simp only [hji21]; exact H')), ⟨by have := HJ4.out; have := HK2.out; omega⟩, ⟨by (with_reducible repeat (first | apply Kd.S_alloc | apply Kd.S_drewN | apply Kd.S_drew)); exact HO_9.out⟩, ⟨by (with_reducible repeat (first | apply Kd.R_alloc | apply Kd.R_drewN | apply Kd.R_drew)); exact Kd.R_mono HO501.out (fun _ hk => trivial)⟩, ⟨by repeat (first | (with_reducible first | exact HB.out | apply below_alloc | apply pw_below_drewN | apply below_drew1) | exact HB.out | exact Below.refl _ _)⟩⟩
               ·
                rw [if_neg c25] at H
                exact absurd H (by simp)
              ·
               rw [if_neg c23] at H
               exact absurd H (by simp)
             ·
              rw [if_neg c22] at H
              exact absurd H (by simp)
           ·
            rw [if_neg c19] at H
            have c19b0 : (x13_2 == (Int.tmod (wrap64 (a1)) (t480.length : Int))) = false := beq_eq_false_iff_ne.mpr c19
            have c19b1 : (x13_2 != (Int.tmod (wrap64 (a1)) (t480.length : Int))) = true := bne_iff_ne.mpr c19
            by_cases c32 : x11_2.length + t494.length < 140737488355328
            ·
             rw [if_pos c32] at H
             have LMc32 := Aside0.mk c32
             clear c32
             obtain ⟨y502, hy502⟩ : ∃ y_ : List Int, y_ = (x11_2 ++ t494) := ⟨_, rfl⟩
             replace H : (iceboxlaw9_ReplaySpoilt.l0 k2 a2 a3 t480 (Int.tmod (wrap64 (a1)) (t480.length : Int)) y502 x12_2 (wrap64 (x13_2 + 1))) = some r := by first | (rw [hy502]; with_reducible exact H) | (have H2_ := (Option.bind_some _ _).symm.trans H; rw [hy502]; with_reducible exact H2_) | (have H2_ := (Option.bind_some _ _).symm.trans H; with_reducible exact H2_) | with_reducible exact H | (rw [hy502]; exact H) | exact H
             have Ny502 := Aside0.mk hy502
             clear hy502
             have H' := Aside0.mk H
             clear H
             have p493 : 0 ≤ (x13_2 : Int) := of_decide_eq_true (by first | (with_reducible assumption) | assumption)
             have q493 : x13_2 < (t480.length : Int) := of_decide_eq_true (by first | (with_reducible assumption) | assumption)
             obtain ⟨ad493, A493_1, c493_1, e493, hx493_0, hx493_1, hl493_1, hi493_1⟩ := at_T37 (Kd.S_reads' HO_9.out).2.2 x13_2 p493 q493
             cases e493
             obtain ⟨ce493, hce493, hMe493, hcc493⟩ := Kd.S_get HO_9.out z37 x13_2 p493 (by first | exact q493 | exact of_decide_eq_true (by first | (with_reducible assumption) | assumption) | (have e_ := (Kd.S_reads' HO_9.out).1; omega))
             obtain ⟨ve493_1, rfl, ge493_1⟩ := k37_openM hMe493
             have hv493_1 := hcc493 1 _ rfl
             rw [add_field _ _ 1 (by omega)] at hv493_1
             replace hv493_1 := Option.some.inj (hv493_1.symm.trans hx493_1)
             rw [hv493_1] at ge493_1
             have HL493_1 := Aside0.mk (show Kd.R k27 27 _ _ _ _ ((rd_T37 t480 x13_2).f1) from ge493_1)
             clear hv493_1 ge493_1
             clear hcc493 hce493
             have HR493_1 := Aside0.mk hi493_1
             have HC493_1 := Aside0.mk hl493_1
             clear hi493_1 hl493_1
             replace p493 := eq_true p493
             replace q493 := eq_true q493
             go_wp2_with (first | ((with_reducible refine gate_callee (f := 30) rfl ?_); refine goesL_ (some 47) rfl rfl Try.func30 (by kernel_rfl) rfl #[.agg #[.int .i64 ((rd_T37 t480 x13_2).f0), .slice A493_1 ((rd_T37 t480 x13_2).f1).length c493_1]] rfl (by (try simp only [List.map_toArray, List.map_cons, List.map_nil]); first | done | rfl | (simp only [List.length_drop, List.length_take]; rfl)) ?_; (with_reducible refine (replay_Put.calls k2 ((rd_T37 t480 x13_2).f0) _ _ ((rd_T37 t480 x13_2).f1) t494 _ ?side1 ?side2 A17.out).mono ?_); (case side1 => repeat (first | exact (by repeat (first | (with_reducible exact HR493_1.out) | (with_reducible refine Kd.C_alloc ?_ _) | (with_reducible refine Kd.C_drewN ?_ _) | (with_reducible refine Kd.C_drew ?_) | exact HR493_1.out)) | (with_reducible refine Kd.C_alloc ?_ _) | (with_reducible refine Kd.C_drewN ?_ _) | (with_reducible refine Kd.C_drew ?_))); (case side2 => exact HC493_1.out); rintro e w33 ⟨v495, rfl, ho0, hb⟩; refine ⟨_, rfl, ?_⟩; have n0_ := Aside0.mk (Kd.S_below (by (with_reducible repeat (first | apply Kd.S_alloc | apply Kd.S_drewN | apply Kd.S_drew)); exact HO_9.out) hb); have n1_ := Aside0.mk (Kd.R_elder' (by (with_reducible repeat (first | apply Kd.R_alloc | apply Kd.R_drewN | apply Kd.R_drew)); exact HO_11.out) (Kd.R_base ho0) hb); have n2_ := Aside0.mk (Kd.R_below (by (with_reducible repeat (first | apply Kd.R_alloc | apply Kd.R_drewN | apply Kd.R_drew)); exact HL493_1.out) hb); have n3_ := Aside0.mk (Kd.R_lower (Kd.R_new' ho0 (Kd.R_lt (by (with_reducible repeat (first | apply Kd.R_alloc | apply Kd.R_drewN | apply Kd.R_drew)); exact HO_11.out))) (below_size (by repeat (first | (with_reducible first | exact HB.out | apply below_alloc | apply pw_below_drewN | apply below_drew1) | exact HB.out | exact Below.refl _ _)))); have n4_ := Aside0.mk (Kd.C_below (by repeat (first | (with_reducible exact HR493_1.out) | (with_reducible refine Kd.C_alloc ?_ _) | (with_reducible refine Kd.C_drewN ?_ _) | (with_reducible refine Kd.C_drew ?_) | exact HR493_1.out)) hb); have n5_ := Aside0.mk (below_step (by repeat (first | (with_reducible first | exact HB.out | apply below_alloc | apply pw_below_drewN | apply below_drew1) | exact HB.out | exact Below.refl _ _)) hb); clear HO_9; clear HO_11; clear HL493_1; clear HR493_1; clear HB; have HO_9 := n0_; have HO_11 := n1_; have HL493_1 := n2_; have HO496 := n3_; have HR493_1 := n4_; have HB := n5_; clear n0_ n1_ n2_ n3_ n4_ n5_; (try clear hb); (try clear hb2); (try clear hk); (try clear hi); (try clear ho0); obtain ⟨Ao34, co34, eo34⟩ := Kd.R_slice HO496.out; subst eo34) | ((with_reducible refine gate_builtin (b := .append) (xs := #[.tmp 69, .tmp 70]) rfl ?_); (try (refine gate_guard (by rfl) ?_; dsimp only)); at_builtin; refine Kd.R_append_rows (Kd.int .u8) (w0 := w) w.heap.size rfl (.tmp 69) (.tmp 70) 33 5 (.int .u8 0) 1 rfl Try.underlying33 info5 rfl (by decide) (by omega) u11 x11_2 t494 _ _ _ (fun k_ => some k_ ≠ (.slice Ao34 t494.length co34 : Value).ownBlock) (fun _ => False) rfl rfl ?aO ?aR (fun _ _ h => h) (fun _ h => h.elim) ?aF ?aB ?aS ?aL ?_; (case aR => repeat (first | exact (Kd.R_reads' HO496.out).2.2 | (with_reducible refine Kd.C_alloc ?_ _) | (with_reducible refine Kd.C_drewN ?_ _) | (with_reducible refine Kd.C_drew ?_))); (case aB => exact (by repeat (first | (with_reducible first | exact HB.out | apply below_alloc | apply pw_below_drewN | apply below_drew1) | exact HB.out | exact Below.refl _ _))); (case aF => exact (fun k_ hk => Kd.fresh' (Kd.R_lt (by (with_reducible repeat (first | apply Kd.R_alloc | apply Kd.R_drewN | apply Kd.R_drew)); exact HO496.out)) k_ hk)); (case aO => exact (by (with_reducible repeat (first | apply Kd.R_alloc | apply Kd.R_drewN | apply Kd.R_drew)); exact Kd.R_mono HO_11.out (fun _ hk => hk.2))); (case aS => exact (below_size (by repeat (first | (with_reducible first | exact HB.out | apply below_alloc | apply pw_below_drewN | apply below_drew1) | exact HB.out | exact Below.refl _ _)))); (case aL => have := LMc32.out; omega); intro v503 w35 ho hb hg hat; rw [← Ny502.out] at ho; have n0_ := Aside0.mk (Kd.S_over' (by (with_reducible repeat (first | apply Kd.S_alloc | apply Kd.S_drewN | apply Kd.S_drew)); exact HO_9.out) (Kd.R_typed (by (with_reducible repeat (first | apply Kd.R_alloc | apply Kd.R_drewN | apply Kd.R_drew)); exact HO_11.out)) (by decide) hg); have n1_ := Aside0.mk (Kd.R_over' (by (with_reducible repeat (first | apply Kd.R_alloc | apply Kd.R_drewN | apply Kd.R_drew)); exact HL493_1.out) (Kd.R_typed (by (with_reducible repeat (first | apply Kd.R_alloc | apply Kd.R_drewN | apply Kd.R_drew)); exact HO_11.out)) (by decide) hg); have n2_ := Aside0.mk (Kd.R_after (ok := (fun _ => True)) (by (with_reducible repeat (first | apply Kd.R_alloc | apply Kd.R_drewN | apply Kd.R_drew)); exact HO496.out) hg hat); have n3_ := Aside0.mk (hb); have n4_ := Aside0.mk (ho); clear HO_9; clear HL493_1; clear HO496; clear HB; clear HO_11; have HO_9 := n0_; have HL493_1 := n1_; have HO496 := n2_; have HB := n3_; have HO504 := n4_; clear n0_ n1_ n2_ n3_ n4_; clear ho hb hg hat))
             go_roundg k2
             case measure => have := HJ4.out; have := HK2.out; omega
             case rel => exact ⟨(y502), (x12_2), (wrap64 (x13_2 + 1)), (by first | rfl | (simp; done) | (simp [*]; done)), (by first | rfl | (simp; done) | (simp [*]; done)), H', ⟨by have := HJ4.out; have := HK2.out; omega⟩, ⟨by (with_reducible repeat (first | apply Kd.S_alloc | apply Kd.S_drewN | apply Kd.S_drew)); exact HO_9.out⟩, ⟨by (with_reducible repeat (first | apply Kd.R_alloc | apply Kd.R_drewN | apply Kd.R_drew)); exact Kd.R_mono HO504.out (fun _ hk => trivial)⟩, ⟨by repeat (first | (with_reducible first | exact HB.out | apply below_alloc | apply pw_below_drewN | apply below_drew1) | exact HB.out | exact Below.refl _ _)⟩⟩
            ·
             rw [if_neg c32] at H
             exact absurd H (by simp)
         ·
          rw [if_neg c16] at H
          exact absurd H (by simp)
        ·
         rw [if_neg c15] at H
         have c15b0 : decide (x13_2 < (t480.length : Int)) = false := decide_eq_false c15
         clear c15
         replace H := Option.bind_eq_some_iff.mp H
         obtain ⟨⟨t483, t484⟩, A360, H⟩ := H
         replace H : (if 0 ≤ (Int.tmod (wrap64 (a1)) (t480.length : Int)) then (if (Int.tmod (wrap64 (a1)) (t480.length : Int)) ≤ (t480.length : Int) then ((iceboxref1_Batches.f k2 t483 (t480.take ((Int.tmod (wrap64 (a1)) (t480.length : Int)) : Int).toNat)).bind fun t491 => (if t491 = true then (if t484 = x12_2 then ((iceboxlaw9_awake.f k2).bind fun t492 => (some t492)) else (some false)) else (some false))) else (none)) else (none)) = some r := H
         have A36 := Aside0.mk A360
         clear A360
         obtain ⟨ji37, hji37⟩ : ∃ j_ : Int, (Int.tmod (wrap64 (a1)) (t480.length : Int)) = j_ := ⟨_, rfl⟩
         replace H : (if 0 ≤ (ji37) then (if (ji37) ≤ (t480.length : Int) then ((iceboxref1_Batches.f k2 t483 (t480.take ((ji37) : Int).toNat)).bind fun t491 => (if t491 = true then (if t484 = x12_2 then ((iceboxlaw9_awake.f k2).bind fun t492 => (some t492)) else (some false)) else (some false))) else (none)) else (none)) = some r := by first | (rw [hji37] at H; exact H) | (simp only [hji37] at H ⊢; exact H)
         (try rw [hji37] at A36)
         by_cases c38 : 0 ≤ (ji37)
         ·
          rw [if_pos c38] at H
          have c38b0 := eq_true c38
          have c38b1 : decide (0 ≤ (ji37)) = true := decide_eq_true c38
          clear c38
          by_cases c39 : (ji37) ≤ (t480.length : Int)
          ·
           rw [if_pos c39] at H
           have c39b0 := eq_true c39
           have c39b1 : decide ((ji37) ≤ (t480.length : Int)) = true := decide_eq_true c39
           clear c39
           obtain ⟨y487, hy487⟩ : ∃ y_ : List (S37), y_ = (t480.take ((ji37) : Int).toNat) := ⟨_, rfl⟩
           replace H : ((iceboxref1_Batches.f k2 t483 y487).bind fun t491 => (if t491 = true then (if t484 = x12_2 then ((iceboxlaw9_awake.f k2).bind fun t492 => (some t492)) else (some false)) else (some false))) = some r := by first | (rw [hy487]; with_reducible exact H) | (have H2_ := (Option.bind_some _ _).symm.trans H; rw [hy487]; with_reducible exact H2_) | (have H2_ := (Option.bind_some _ _).symm.trans H; with_reducible exact H2_) | with_reducible exact H | (rw [hy487]; exact H) | exact H
           have Ny487 := Aside0.mk hy487
           clear hy487
           replace H := Option.bind_eq_some_iff.mp H
           obtain ⟨t491, A400, H⟩ := H
           replace H : (if t491 = true then (if t484 = x12_2 then ((iceboxlaw9_awake.f k2).bind fun t492 => (some t492)) else (some false)) else (some false)) = some r := H
           have A40 := Aside0.mk A400
           clear A400
           by_cases c41 : t491 = true
           ·
            subst c41
            have H1 : (if t484 = x12_2 then ((iceboxlaw9_awake.f k2).bind fun t492 => (some t492)) else (some false)) = some r := by rw [if_pos rfl] at H; exact H
            clear H
            have H := H1
            clear H1
            by_cases c42 : t484 = x12_2
            ·
             rw [if_pos c42] at H
             have c42b0 : (t484 == x12_2) = true := beq_iff_eq.mpr c42
             have c42b1 : (t484 != x12_2) = false := bne_eq_false_iff_eq.mpr c42
             clear c42
             replace H := Option.bind_eq_some_iff.mp H
             obtain ⟨t492, A430, H⟩ := H
             replace H : (some t492) = some r := H
             have A43 := Aside0.mk A430
             clear A430
             obtain rfl := Option.some.inj H
             obtain ⟨Ao44, co44, eo44⟩ := Kd.R_slice HO_11.out
             subst eo44
             go_wp2_with (first | ((with_reducible refine gate_callee (f := 31) rfl ?_); refine goesL_ (some 74) rfl rfl Try.func31 (by kernel_rfl) rfl #[.slice Ao44 x11_2.length co44] rfl (by (try simp only [List.map_toArray, List.map_cons, List.map_nil]); first | done | rfl | (simp only [List.length_drop, List.length_take]; rfl)) ?_; (with_reducible refine (replay_Scan.calls k2 _ _ x11_2 t483 t484 _ ?side1 ?side2 A36.out).mono ?_); (case side1 => repeat (first | exact (Kd.R_reads' HO_11.out).2.2 | (with_reducible refine Kd.C_alloc ?_ _) | (with_reducible refine Kd.C_drewN ?_ _) | (with_reducible refine Kd.C_drew ?_))); (case side2 => exact (Kd.R_reads' HO_11.out).2.1); rintro e w45 ⟨v485, rfl, ho0, hb⟩; refine ⟨_, rfl, ?_⟩; have n0_ := Aside0.mk (Kd.S_elder' (by (with_reducible repeat (first | apply Kd.S_alloc | apply Kd.S_drewN | apply Kd.S_drew)); exact HO_9.out) (Kd.S_base ho0) hb); have n1_ := Aside0.mk (Kd.R_below (by (with_reducible repeat (first | apply Kd.R_alloc | apply Kd.R_drewN | apply Kd.R_drew)); exact HO_11.out) hb); have n2_ := Aside0.mk (Kd.S_lower (Kd.S_new' ho0 (Kd.S_lt (by (with_reducible repeat (first | apply Kd.S_alloc | apply Kd.S_drewN | apply Kd.S_drew)); exact HO_9.out))) (below_size (by repeat (first | (with_reducible first | exact HB.out | apply below_alloc | apply pw_below_drewN | apply below_drew1) | exact HB.out | exact Below.refl _ _)))); have n3_ := Aside0.mk (below_step (by repeat (first | (with_reducible first | exact HB.out | apply below_alloc | apply pw_below_drewN | apply below_drew1) | exact HB.out | exact Below.refl _ _)) hb); clear HO_9; clear HO_11; clear HB; have HO_9 := n0_; have HO_11 := n1_; have HO486 := n2_; have HB := n3_; clear n0_ n1_ n2_ n3_; (try clear hb); (try clear hb2); (try clear hk); (try clear hi); (try clear ho0); have q46 : ((ji37) : Int) ≤ ((t480.length : Int) : Int) := of_decide_eq_true (by first | (with_reducible assumption) | assumption); obtain ⟨i046, hi046, _, hsz46, _⟩ := info_parts info37; have hroom46 : t480.length ≤ co14 := (Kd.S_reads' HO_9.out).2.1; have hC46 : Kd.C k37 _ Ao14 t480.length t480 := (Kd.S_reads' HO_9.out).2.2; have hcut46 := cut_to (P := Try.prog) 48 37 .i64 Try.underlying48 hi046 Ao14 t480.length co14 (ji37) (of_decide_eq_true (by first | (with_reducible assumption) | assumption)) q46 hroom46; have hr46 := Kd.C_take (m := ((ji37) : Int).toNat) hC46 (by omega); have hy46 : y487.length = ((ji37) : Int).toNat := (by rw [Ny487.out, List.length_take]; omega); rw [← Ny487.out] at hr46; rw [← hy46] at hcut46; have HR490 := Aside0.mk hr46; have HC490 := Aside0.mk (show y487.length ≤ co14 from by omega); clear hr46 hC46 hroom46 hi046 hsz46; have KY46 := Aside0.mk hy46; clear hy46; have KL46 := Aside0.mk (show ((ji37) : Int).toNat ≤ t480.length from by omega); replace q46 := eq_true q46; obtain ⟨Ao47, co47, eo47⟩ := Kd.S_slice HO486.out; subst eo47) | ((with_reducible refine gate_callee (f := 32) rfl ?_); refine goesL_ (some 81) rfl rfl Try.func32 (by kernel_rfl) rfl #[.slice Ao47 t483.length co47, .slice Ao14 y487.length co14] rfl (by (try simp only [List.map_toArray, List.map_cons, List.map_nil]); first | done | rfl | (simp only [List.length_drop, List.length_take]; rfl)) ?_; (with_reducible refine (iceboxref1_Batches.calls k2 _ _ t483 _ _ y487 true _ ?side1 ?side2 ?side3 ?side4 A40.out).mono ?_); (case side1 => repeat (first | exact (Kd.S_reads' HO486.out).2.2 | (with_reducible refine Kd.C_alloc ?_ _) | (with_reducible refine Kd.C_drewN ?_ _) | (with_reducible refine Kd.C_drew ?_))); (case side2 => exact (Kd.S_reads' HO486.out).2.1); (case side3 => repeat (first | exact (by repeat (first | (with_reducible exact HR490.out) | (with_reducible refine Kd.C_alloc ?_ _) | (with_reducible refine Kd.C_drewN ?_ _) | (with_reducible refine Kd.C_drew ?_) | exact HR490.out)) | (with_reducible refine Kd.C_alloc ?_ _) | (with_reducible refine Kd.C_drewN ?_ _) | (with_reducible refine Kd.C_drew ?_))); (case side4 => exact HC490.out); rintro e w48 ⟨rfl, hb⟩; refine ⟨_, rfl, ?_⟩; have n0_ := Aside0.mk (Kd.S_below (by (with_reducible repeat (first | apply Kd.S_alloc | apply Kd.S_drewN | apply Kd.S_drew)); exact HO_9.out) hb); have n1_ := Aside0.mk (Kd.R_below (by (with_reducible repeat (first | apply Kd.R_alloc | apply Kd.R_drewN | apply Kd.R_drew)); exact HO_11.out) hb); have n2_ := Aside0.mk (Kd.S_below (by (with_reducible repeat (first | apply Kd.S_alloc | apply Kd.S_drewN | apply Kd.S_drew)); exact HO486.out) hb); have n3_ := Aside0.mk (Kd.C_below (by repeat (first | (with_reducible exact HR490.out) | (with_reducible refine Kd.C_alloc ?_ _) | (with_reducible refine Kd.C_drewN ?_ _) | (with_reducible refine Kd.C_drew ?_) | exact HR490.out)) hb); have n4_ := Aside0.mk (below_step (by repeat (first | (with_reducible first | exact HB.out | apply below_alloc | apply pw_below_drewN | apply below_drew1) | exact HB.out | exact Below.refl _ _)) hb); clear HO_9; clear HO_11; clear HO486; clear HR490; clear HB; have HO_9 := n0_; have HO_11 := n1_; have HO486 := n2_; have HR490 := n3_; have HB := n4_; clear n0_ n1_ n2_ n3_ n4_; (try clear hb); (try clear hb2); (try clear hk); (try clear hi)) | (go_at_call 28; (with_reducible refine (iceboxlaw9_awake.calls k2  t492 _ A43.out).mono ?_); rintro e w49 ⟨rfl, hb⟩; have n0_ := Aside0.mk (Kd.S_below (by (with_reducible repeat (first | apply Kd.S_alloc | apply Kd.S_drewN | apply Kd.S_drew)); exact HO_9.out) hb); have n1_ := Aside0.mk (Kd.R_below (by (with_reducible repeat (first | apply Kd.R_alloc | apply Kd.R_drewN | apply Kd.R_drew)); exact HO_11.out) hb); have n2_ := Aside0.mk (Kd.S_below (by (with_reducible repeat (first | apply Kd.S_alloc | apply Kd.S_drewN | apply Kd.S_drew)); exact HO486.out) hb); have n3_ := Aside0.mk (Kd.C_below (by repeat (first | (with_reducible exact HR490.out) | (with_reducible refine Kd.C_alloc ?_ _) | (with_reducible refine Kd.C_drewN ?_ _) | (with_reducible refine Kd.C_drew ?_) | exact HR490.out)) hb); have n4_ := Aside0.mk (below_step (by repeat (first | (with_reducible first | exact HB.out | apply below_alloc | apply pw_below_drewN | apply below_drew1) | exact HB.out | exact Below.refl _ _)) hb); clear HO_9; clear HO_11; clear HO486; clear HR490; clear HB; have HO_9 := n0_; have HO_11 := n1_; have HO486 := n2_; have HR490 := n3_; have HB := n4_; clear n0_ n1_ n2_ n3_ n4_; (try clear hb); (try clear hb2); (try clear hk); (try clear hi)))
             go_ret
             exact ⟨by first | rfl | (simp [errW_none, errW_some] <;> rfl) | (simp only [← hji37]; first | rfl | (simp [errW_none, errW_some] <;> rfl)) | (simp [*, errW_none, errW_some] <;> rfl), by repeat (first | (with_reducible first | exact HB.out | apply below_alloc | apply pw_below_drewN | apply below_drew1) | exact HB.out | exact Below.refl _ _)⟩
            ·
             rw [if_neg c42] at H
             have c42b0 : (t484 == x12_2) = false := beq_eq_false_iff_ne.mpr c42
             have c42b1 : (t484 != x12_2) = true := bne_iff_ne.mpr c42
             exact absurd ((Option.some.inj H).trans hR_.out) (by decide)
           ·
            replace c41 := Bool.eq_false_iff.mpr c41
            subst c41
            have H1 : (some false) = some r := by rw [if_neg (show ¬ (false = true) by decide)] at H; exact H
            clear H
            have H := H1
            clear H1
            exact absurd ((Option.some.inj H).trans hR_.out) (by decide)
          ·
           rw [if_neg c39] at H
           exact absurd H (by simp)
         ·
          rw [if_neg c38] at H
          exact absurd H (by simp)

/-- THE ONE PURE STATEMENT of iceboxlaw9_ReplaySpoilt: yours. -/
def iceboxlaw9_ReplaySpoilt.Pure : Prop := ∀ (l0 : List Int) (a1 : Int) (a2 : Int) (a3 : Int), l0.length ≤ maxLen → l0.length * 1 ≤ 140737488351232 → (∀ x ∈ l0, (Lit.int .u8 x).wf = true) → (Lit.int .u8 a1).wf = true → (Lit.int .u16 a2).wf = true → (Lit.int .u8 a3).wf = true → ∃ k, iceboxlaw9_ReplaySpoilt.f k l0 a1 a2 a3 = some true
theorem iceboxlaw9_ReplaySpoilt.walk (P : iceboxlaw9_ReplaySpoilt.Pure) (a0 : Option Addr) (len0 cap0 : Nat) (z0 : List Int) (a1 : Int) (a2 : Int) (a3 : Int) (w : World) (w0 : (a0 = none ∧ len0 = 0 ∧ cap0 = 0 ∧ z0 = []) ∨ ∃ x, a0 = some x ∧ len0 ≤ cap0 ∧ cap0 ≤ maxLen ∧ z0.length = cap0 ∧ (∀ i, i < z0.length → w.cell? (x.add i) = some (.int .u8 (z0.getD i 0))) ∧ ∀ n ∈ z0, (Lit.int .u8 n).wf = true) (y0 : len0 * 1 ≤ 140737488351232) (w1 : (Lit.int .u8 a1).wf = true) (w2 : (Lit.int .u16 a2).wf = true) (w3 : (Lit.int .u8 a3).wf = true) :
 Calls Try.prog 8 #[.slice a0 len0 cap0, .int .u8 a1, .int .u16 a2, .int .u8 a3] w fun e w' => e = .returned (.bool true) ∧ Below w.heap.size w w' := by
 obtain ⟨l0, rfl, hr0, hm0, hw0, hc0⟩ := ReadsInt.ofRowC w0
 obtain ⟨k, h⟩ := P l0 a1 a2 a3 hm0 y0 hw0 w1 w2 w3
 refine (iceboxlaw9_ReplaySpoilt.calls k _ _ l0 a1 a2 a3 true w ⟨rfl⟩ (Kd.C_of_reads (d := (0 : Int)) (h1 := fun _ => rfl) hr0) hc0 h).mono ?_
 rintro e w' ⟨rfl, hd⟩
 exact ⟨rfl, hd⟩

end Go.Proofs.Ytgannkfpfhdhjaa.PReplaySpoilt
