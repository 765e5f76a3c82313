/- The functions that a law reaches, as Lean functions, each with the contract that its Go code comes to just these answers. Written by a program of this claim's author (wip/mkprint.py). No conditions. -/
import Derived.Test.YtgannkfpfhdhjaaPReplayJoinsx0
import Derived.Test.YtgannkfpfhdhjaaPReplayJoinsx5
import Derived.Test.YtgannkfpfhdhjaaPReplayJoinsx7
import Derived.Test.YtgannkfpfhdhjaaPReplayJoinsx8
import Derived.Test.YtgannkfpfhdhjaaPReplayJoinsx9
import Derived.Test.YtgannkfpfhdhjaaPReplayJoinsx10
namespace Go.Proofs.Ytgannkfpfhdhjaa.PReplayJoins
open Go.RowKit Go.Proofs.YtgannkfpfhdhjaaW.PrintWords Go.Proofs.YtgannkfpfhdhjaaW.PrintLast Go.Proofs.YtgannkfpfhdhjaaW.PrintMore
attribute [local go_sem] max2_int min2_int max_two min_two max_three min_three max_four min_four   -- for this text's walks alone
set_option linter.unusedVariables false
set_option linter.unusedSimpArgs false

/-! ### iceboxlaw9_ReplayJoins: function 10 -/
mutual
def iceboxlaw9_ReplayJoins.j0 : Nat → List Int → List Int → Int → Int → Bool → Bool → Option (Bool)
 | 0, _, _, _, _, _, _ => none
 | k + 1, x0, x1, x2, x3, x4, x29 => if x29 = true then ((iceboxlaw9_awake.f k).bind fun t489 => (some t489)) else ((iceboxlaw9_Make.f k x0 1).bind fun t490 => (iceboxlaw9_ReplayJoins.l0 k x1 x2 x3 x4 t490 ([] : List (List Int)) 0 0))
def iceboxlaw9_ReplayJoins.l0 : Nat → List Int → Int → Int → Bool → List (S37) → List (List Int) → Int → Int → Option (Bool)
 | 0, _, _, _, _, _, _, _, _ => none
 | k + 1, x1, x2, x3, x4, x11, x12, x13, x14 => if x14 ≤ (x1.length : Int) then (iceboxlaw9_ReplayJoins.j2 k x1 x2 x3 x4 x11 x12 x13 x14 (decide (x13 < (x11.length : Int)))) else (iceboxlaw9_ReplayJoins.j2 k x1 x2 x3 x4 x11 x12 x13 x14 false)
def iceboxlaw9_ReplayJoins.j2 : Nat → List Int → Int → Int → Bool → List (S37) → List (List Int) → Int → Int → Bool → Option (Bool)
 | 0, _, _, _, _, _, _, _, _, _ => none
 | k + 1, x1, x2, x3, x4, x11, x12, x13, x14, x42 => if x42 = true then (if x14 < (x1.length : Int) then (if 0 ≤ x14 then (iceboxlaw9_ReplayJoins.j3 k x1 x2 x3 x4 x11 x12 x13 x14 (mn (wrap64 ((x11.length : Int) - x13)) (Int.tmod (wrap64 (rd x1 x14)) 8))) else (none)) else (iceboxlaw9_ReplayJoins.j3 k x1 x2 x3 x4 x11 x12 x13 x14 (wrap64 ((x11.length : Int) - x13)))) else ((replay_Join.f k x12 (mn (wrap64 (x2)) (x11.length : Int))).bind fun t504 => (if 0 ≤ (mn (wrap64 (x2)) (x11.length : Int)) then (if (mn (wrap64 (x2)) (x11.length : Int)) ≤ (x11.length : Int) then ((iceboxref1_Batches.f k t504 (x11.drop ((mn (wrap64 (x2)) (x11.length : Int)) : Int).toNat)).bind fun t512 => (if t512 = true then (if x4 = true then (iceboxlaw9_ReplayJoins.j5 k x11 (mn (wrap64 (x2)) (x11.length : Int)) (decide ((x11.length : Int) > (wrap64 ((mn (wrap64 (x2)) (x11.length : Int)) + 1))))) else (iceboxlaw9_ReplayJoins.j5 k x11 (mn (wrap64 (x2)) (x11.length : Int)) false)) else (some false))) else (none)) else (none)))
def iceboxlaw9_ReplayJoins.j3 : Nat → List Int → Int → Int → Bool → List (S37) → List (List Int) → Int → Int → Int → Option (Bool)
 | 0, _, _, _, _, _, _, _, _, _ => none
 | k + 1, x1, x2, x3, x4, x11, x12, x13, x14, x15 => iceboxlaw9_ReplayJoins.l1 k x1 x2 x3 x4 x11 x12 x13 x14 x15 ([] : List Int) (mx 0 (wrap64 (x13 - (Int.tmod (wrap64 (x3)) 3))))
def iceboxlaw9_ReplayJoins.l1 : Nat → List Int → Int → Int → Bool → List (S37) → List (List Int) → Int → Int → Int → List Int → Int → Option (Bool)
 | 0, _, _, _, _, _, _, _, _, _, _, _ => none
 | k + 1, x1, x2, x3, x4, x11, x12, x13, x14, x15, x17, x18 => if x18 < (wrap64 (x13 + x15)) then (if 0 ≤ x18 then (if x18 < (x11.length : Int) then ((replay_Put.f k ((rd_T37 x11 x18).f0) ((rd_T37 x11 x18).f1)).bind fun t495 => (if x17.length + t495.length < 140737488355328 then (iceboxlaw9_ReplayJoins.l1 k x1 x2 x3 x4 x11 x12 x13 x14 x15 (x17 ++ t495) (wrap64 (x18 + 1))) else (none))) else (none)) else (none)) else (if x12.length < 5864062014805 then (iceboxlaw9_ReplayJoins.l0 k x1 x2 x3 x4 x11 (x12 ++ [x17]) (wrap64 (x13 + x15)) (wrap64 (x14 + 1))) else (none))
def iceboxlaw9_ReplayJoins.j5 : Nat → List (S37) → Int → Bool → Option (Bool)
 | 0, _, _, _ => none
 | k + 1, x11, x19, x109 => if x109 = true then (iceboxlaw9_ReplayJoins.l2 k x11 x19 ([] : List Int) (wrap64 (x19 + 1))) else ((iceboxlaw9_awake.f k).bind fun t527 => (some t527))
def iceboxlaw9_ReplayJoins.l2 : Nat → List (S37) → Int → List Int → Int → Option (Bool)
 | 0, _, _, _, _ => none
 | k + 1, x11, x19, x20, x21 => if x21 < (x11.length : Int) then (if 0 ≤ x21 then ((replay_Put.f k ((rd_T37 x11 x21).f0) ((rd_T37 x11 x21).f1)).bind fun t514 => (if x20.length + t514.length < 140737488355328 then (iceboxlaw9_ReplayJoins.l2 k x11 x19 (x20 ++ t514) (wrap64 (x21 + 1))) else (none))) else (none)) else ((replay_Join.f k (([x20] : List (List Int))) x19).bind fun t523 => (if (t523.length : Int) = 0 then ((iceboxlaw9_awake.f k).bind fun t526 => (some t526)) else (some false)))
end
def iceboxlaw9_ReplayJoins.f (k : Nat) (l0 : List Int) (l1 : List Int) (a2 : Int) (a3 : Int) (a4 : Bool) : Option (Bool) := if (l0.length : Int) > 40 then (iceboxlaw9_ReplayJoins.j0 k l0 l1 a2 a3 a4 true) else (iceboxlaw9_ReplayJoins.j0 k l0 l1 a2 a3 a4 (decide ((l1.length : Int) > 8)))
theorem iceboxlaw9_ReplayJoins.mono_l : ∀ k, (∀ y0 y1 y2 y3 y4 y5, LeO (iceboxlaw9_ReplayJoins.j0 k y0 y1 y2 y3 y4 y5) (iceboxlaw9_ReplayJoins.j0 (k + 1) y0 y1 y2 y3 y4 y5)) ∧ (∀ y0 y1 y2 y3 y4 y5 y6 y7, LeO (iceboxlaw9_ReplayJoins.l0 k y0 y1 y2 y3 y4 y5 y6 y7) (iceboxlaw9_ReplayJoins.l0 (k + 1) y0 y1 y2 y3 y4 y5 y6 y7)) ∧ (∀ y0 y1 y2 y3 y4 y5 y6 y7 y8, LeO (iceboxlaw9_ReplayJoins.j2 k y0 y1 y2 y3 y4 y5 y6 y7 y8) (iceboxlaw9_ReplayJoins.j2 (k + 1) y0 y1 y2 y3 y4 y5 y6 y7 y8)) ∧ (∀ y0 y1 y2 y3 y4 y5 y6 y7 y8, LeO (iceboxlaw9_ReplayJoins.j3 k y0 y1 y2 y3 y4 y5 y6 y7 y8) (iceboxlaw9_ReplayJoins.j3 (k + 1) y0 y1 y2 y3 y4 y5 y6 y7 y8)) ∧ (∀ y0 y1 y2 y3 y4 y5 y6 y7 y8 y9 y10, LeO (iceboxlaw9_ReplayJoins.l1 k y0 y1 y2 y3 y4 y5 y6 y7 y8 y9 y10) (iceboxlaw9_ReplayJoins.l1 (k + 1) y0 y1 y2 y3 y4 y5 y6 y7 y8 y9 y10)) ∧ (∀ y0 y1 y2, LeO (iceboxlaw9_ReplayJoins.j5 k y0 y1 y2) (iceboxlaw9_ReplayJoins.j5 (k + 1) y0 y1 y2)) ∧ (∀ y0 y1 y2 y3, LeO (iceboxlaw9_ReplayJoins.l2 k y0 y1 y2 y3) (iceboxlaw9_ReplayJoins.l2 (k + 1) y0 y1 y2 y3))
 | 0 => ⟨fun _ _ _ _ _ _ r h => by simp [iceboxlaw9_ReplayJoins.j0] at h, fun _ _ _ _ _ _ _ _ r h => by simp [iceboxlaw9_ReplayJoins.l0] at h, fun _ _ _ _ _ _ _ _ _ r h => by simp [iceboxlaw9_ReplayJoins.j2] at h, fun _ _ _ _ _ _ _ _ _ r h => by simp [iceboxlaw9_ReplayJoins.j3] at h, fun _ _ _ _ _ _ _ _ _ _ _ r h => by simp [iceboxlaw9_ReplayJoins.l1] at h, fun _ _ _ r h => by simp [iceboxlaw9_ReplayJoins.j5] at h, fun _ _ _ _ r h => by simp [iceboxlaw9_ReplayJoins.l2] at h⟩
 | k + 1 => by
  obtain ⟨ih0, ih1, ih2, ih3, ih4, ih5, ih6⟩ := iceboxlaw9_ReplayJoins.mono_l k
  refine ⟨?_, ?_, ?_, ?_, ?_, ?_, ?_⟩
  ·
   intro y0 y1 y2 y3 y4 y5
   unfold iceboxlaw9_ReplayJoins.j0
   repeat' first
   | (with_reducible exact ih0 _ _ _ _ _ _)
   | (with_reducible exact ih1 _ _ _ _ _ _ _ _)
   | (with_reducible exact ih2 _ _ _ _ _ _ _ _ _)
   | (with_reducible exact ih3 _ _ _ _ _ _ _ _ _)
   | (with_reducible exact ih4 _ _ _ _ _ _ _ _ _ _ _)
   | (with_reducible exact ih5 _ _ _)
   | (with_reducible exact ih6 _ _ _ _)
   | (with_reducible exact iceboxlaw9_Make.mono _ _ _)
   | (with_reducible exact iceboxlaw9_awake.mono _)
   | (with_reducible exact iceboxref1_Batches.mono _ _ _)
   | (with_reducible exact replay_Join.mono _ _ _)
   | (with_reducible exact replay_Put.mono _ _ _)
   | (with_reducible exact LeO.refl _)
   | (with_reducible exact LeO.none _)
   | (with_reducible refine LeO.ite ?_ ?_)
   | (with_reducible refine LeO.bind ?_ (fun _ => ?_))
   | exact ih0 _ _ _ _ _ _
   | exact ih1 _ _ _ _ _ _ _ _
   | exact ih2 _ _ _ _ _ _ _ _ _
   | exact ih3 _ _ _ _ _ _ _ _ _
   | exact ih4 _ _ _ _ _ _ _ _ _ _ _
   | exact ih5 _ _ _
   | exact ih6 _ _ _ _
   | exact iceboxlaw9_Make.mono _ _ _
   | exact iceboxlaw9_awake.mono _
   | exact iceboxref1_Batches.mono _ _ _
   | exact replay_Join.mono _ _ _
   | exact replay_Put.mono _ _ _
   | exact LeO.none _
   | refine LeO.ite ?_ ?_
   | refine LeO.bind ?_ (fun _ => ?_)
  ·
   intro y0 y1 y2 y3 y4 y5 y6 y7
   unfold iceboxlaw9_ReplayJoins.l0
   repeat' first
   | (with_reducible exact ih0 _ _ _ _ _ _)
   | (with_reducible exact ih1 _ _ _ _ _ _ _ _)
   | (with_reducible exact ih2 _ _ _ _ _ _ _ _ _)
   | (with_reducible exact ih3 _ _ _ _ _ _ _ _ _)
   | (with_reducible exact ih4 _ _ _ _ _ _ _ _ _ _ _)
   | (with_reducible exact ih5 _ _ _)
   | (with_reducible exact ih6 _ _ _ _)
   | (with_reducible exact iceboxlaw9_Make.mono _ _ _)
   | (with_reducible exact iceboxlaw9_awake.mono _)
   | (with_reducible exact iceboxref1_Batches.mono _ _ _)
   | (with_reducible exact replay_Join.mono _ _ _)
   | (with_reducible exact replay_Put.mono _ _ _)
   | (with_reducible exact LeO.refl _)
   | (with_reducible exact LeO.none _)
   | (with_reducible refine LeO.ite ?_ ?_)
   | (with_reducible refine LeO.bind ?_ (fun _ => ?_))
   | exact ih0 _ _ _ _ _ _
   | exact ih1 _ _ _ _ _ _ _ _
   | exact ih2 _ _ _ _ _ _ _ _ _
   | exact ih3 _ _ _ _ _ _ _ _ _
   | exact ih4 _ _ _ _ _ _ _ _ _ _ _
   | exact ih5 _ _ _
   | exact ih6 _ _ _ _
   | exact iceboxlaw9_Make.mono _ _ _
   | exact iceboxlaw9_awake.mono _
   | exact iceboxref1_Batches.mono _ _ _
   | exact replay_Join.mono _ _ _
   | exact replay_Put.mono _ _ _
   | exact LeO.none _
   | refine LeO.ite ?_ ?_
   | refine LeO.bind ?_ (fun _ => ?_)
  ·
   intro y0 y1 y2 y3 y4 y5 y6 y7 y8
   unfold iceboxlaw9_ReplayJoins.j2
   repeat' first
   | (with_reducible exact ih0 _ _ _ _ _ _)
   | (with_reducible exact ih1 _ _ _ _ _ _ _ _)
   | (with_reducible exact ih2 _ _ _ _ _ _ _ _ _)
   | (with_reducible exact ih3 _ _ _ _ _ _ _ _ _)
   | (with_reducible exact ih4 _ _ _ _ _ _ _ _ _ _ _)
   | (with_reducible exact ih5 _ _ _)
   | (with_reducible exact ih6 _ _ _ _)
   | (with_reducible exact iceboxlaw9_Make.mono _ _ _)
   | (with_reducible exact iceboxlaw9_awake.mono _)
   | (with_reducible exact iceboxref1_Batches.mono _ _ _)
   | (with_reducible exact replay_Join.mono _ _ _)
   | (with_reducible exact replay_Put.mono _ _ _)
   | (with_reducible exact LeO.refl _)
   | (with_reducible exact LeO.none _)
   | (with_reducible refine LeO.ite ?_ ?_)
   | (with_reducible refine LeO.bind ?_ (fun _ => ?_))
   | exact ih0 _ _ _ _ _ _
   | exact ih1 _ _ _ _ _ _ _ _
   | exact ih2 _ _ _ _ _ _ _ _ _
   | exact ih3 _ _ _ _ _ _ _ _ _
   | exact ih4 _ _ _ _ _ _ _ _ _ _ _
   | exact ih5 _ _ _
   | exact ih6 _ _ _ _
   | exact iceboxlaw9_Make.mono _ _ _
   | exact iceboxlaw9_awake.mono _
   | exact iceboxref1_Batches.mono _ _ _
   | exact replay_Join.mono _ _ _
   | exact replay_Put.mono _ _ _
   | exact LeO.none _
   | refine LeO.ite ?_ ?_
   | refine LeO.bind ?_ (fun _ => ?_)
  ·
   intro y0 y1 y2 y3 y4 y5 y6 y7 y8
   unfold iceboxlaw9_ReplayJoins.j3
   repeat' first
   | (with_reducible exact ih0 _ _ _ _ _ _)
   | (with_reducible exact ih1 _ _ _ _ _ _ _ _)
   | (with_reducible exact ih2 _ _ _ _ _ _ _ _ _)
   | (with_reducible exact ih3 _ _ _ _ _ _ _ _ _)
   | (with_reducible exact ih4 _ _ _ _ _ _ _ _ _ _ _)
   | (with_reducible exact ih5 _ _ _)
   | (with_reducible exact ih6 _ _ _ _)
   | (with_reducible exact iceboxlaw9_Make.mono _ _ _)
   | (with_reducible exact iceboxlaw9_awake.mono _)
   | (with_reducible exact iceboxref1_Batches.mono _ _ _)
   | (with_reducible exact replay_Join.mono _ _ _)
   | (with_reducible exact replay_Put.mono _ _ _)
   | (with_reducible exact LeO.refl _)
   | (with_reducible exact LeO.none _)
   | (with_reducible refine LeO.ite ?_ ?_)
   | (with_reducible refine LeO.bind ?_ (fun _ => ?_))
   | exact ih0 _ _ _ _ _ _
   | exact ih1 _ _ _ _ _ _ _ _
   | exact ih2 _ _ _ _ _ _ _ _ _
   | exact ih3 _ _ _ _ _ _ _ _ _
   | exact ih4 _ _ _ _ _ _ _ _ _ _ _
   | exact ih5 _ _ _
   | exact ih6 _ _ _ _
   | exact iceboxlaw9_Make.mono _ _ _
   | exact iceboxlaw9_awake.mono _
   | exact iceboxref1_Batches.mono _ _ _
   | exact replay_Join.mono _ _ _
   | exact replay_Put.mono _ _ _
   | exact LeO.none _
   | refine LeO.ite ?_ ?_
   | refine LeO.bind ?_ (fun _ => ?_)
  ·
   intro y0 y1 y2 y3 y4 y5 y6 y7 y8 y9 y10
   unfold iceboxlaw9_ReplayJoins.l1
   repeat' first
   | (with_reducible exact ih0 _ _ _ _ _ _)
   | (with_reducible exact ih1 _ _ _ _ _ _ _ _)
   | (with_reducible exact ih2 _ _ _ _ _ _ _ _ _)
   | (with_reducible exact ih3 _ _ _ _ _ _ _ _ _)
   | (with_reducible exact ih4 _ _ _ _ _ _ _ _ _ _ _)
   | (with_reducible exact ih5 _ _ _)
   | (with_reducible exact ih6 _ _ _ _)
   | (with_reducible exact iceboxlaw9_Make.mono _ _ _)
   | (with_reducible exact iceboxlaw9_awake.mono _)
   | (with_reducible exact iceboxref1_Batches.mono _ _ _)
   | (with_reducible exact replay_Join.mono _ _ _)
   | (with_reducible exact replay_Put.mono _ _ _)
   | (with_reducible exact LeO.refl _)
   | (with_reducible exact LeO.none _)
   | (with_reducible refine LeO.ite ?_ ?_)
   | (with_reducible refine LeO.bind ?_ (fun _ => ?_))
   | exact ih0 _ _ _ _ _ _
   | exact ih1 _ _ _ _ _ _ _ _
   | exact ih2 _ _ _ _ _ _ _ _ _
   | exact ih3 _ _ _ _ _ _ _ _ _
   | exact ih4 _ _ _ _ _ _ _ _ _ _ _
   | exact ih5 _ _ _
   | exact ih6 _ _ _ _
   | exact iceboxlaw9_Make.mono _ _ _
   | exact iceboxlaw9_awake.mono _
   | exact iceboxref1_Batches.mono _ _ _
   | exact replay_Join.mono _ _ _
   | exact replay_Put.mono _ _ _
   | exact LeO.none _
   | refine LeO.ite ?_ ?_
   | refine LeO.bind ?_ (fun _ => ?_)
  ·
   intro y0 y1 y2
   unfold iceboxlaw9_ReplayJoins.j5
   repeat' first
   | (with_reducible exact ih0 _ _ _ _ _ _)
   | (with_reducible exact ih1 _ _ _ _ _ _ _ _)
   | (with_reducible exact ih2 _ _ _ _ _ _ _ _ _)
   | (with_reducible exact ih3 _ _ _ _ _ _ _ _ _)
   | (with_reducible exact ih4 _ _ _ _ _ _ _ _ _ _ _)
   | (with_reducible exact ih5 _ _ _)
   | (with_reducible exact ih6 _ _ _ _)
   | (with_reducible exact iceboxlaw9_Make.mono _ _ _)
   | (with_reducible exact iceboxlaw9_awake.mono _)
   | (with_reducible exact iceboxref1_Batches.mono _ _ _)
   | (with_reducible exact replay_Join.mono _ _ _)
   | (with_reducible exact replay_Put.mono _ _ _)
   | (with_reducible exact LeO.refl _)
   | (with_reducible exact LeO.none _)
   | (with_reducible refine LeO.ite ?_ ?_)
   | (with_reducible refine LeO.bind ?_ (fun _ => ?_))
   | exact ih0 _ _ _ _ _ _
   | exact ih1 _ _ _ _ _ _ _ _
   | exact ih2 _ _ _ _ _ _ _ _ _
   | exact ih3 _ _ _ _ _ _ _ _ _
   | exact ih4 _ _ _ _ _ _ _ _ _ _ _
   | exact ih5 _ _ _
   | exact ih6 _ _ _ _
   | exact iceboxlaw9_Make.mono _ _ _
   | exact iceboxlaw9_awake.mono _
   | exact iceboxref1_Batches.mono _ _ _
   | exact replay_Join.mono _ _ _
   | exact replay_Put.mono _ _ _
   | exact LeO.none _
   | refine LeO.ite ?_ ?_
   | refine LeO.bind ?_ (fun _ => ?_)
  ·
   intro y0 y1 y2 y3
   unfold iceboxlaw9_ReplayJoins.l2
   repeat' first
   | (with_reducible exact ih0 _ _ _ _ _ _)
   | (with_reducible exact ih1 _ _ _ _ _ _ _ _)
   | (with_reducible exact ih2 _ _ _ _ _ _ _ _ _)
   | (with_reducible exact ih3 _ _ _ _ _ _ _ _ _)
   | (with_reducible exact ih4 _ _ _ _ _ _ _ _ _ _ _)
   | (with_reducible exact ih5 _ _ _)
   | (with_reducible exact ih6 _ _ _ _)
   | (with_reducible exact iceboxlaw9_Make.mono _ _ _)
   | (with_reducible exact iceboxlaw9_awake.mono _)
   | (with_reducible exact iceboxref1_Batches.mono _ _ _)
   | (with_reducible exact replay_Join.mono _ _ _)
   | (with_reducible exact replay_Put.mono _ _ _)
   | (with_reducible exact LeO.refl _)
   | (with_reducible exact LeO.none _)
   | (with_reducible refine LeO.ite ?_ ?_)
   | (with_reducible refine LeO.bind ?_ (fun _ => ?_))
   | exact ih0 _ _ _ _ _ _
   | exact ih1 _ _ _ _ _ _ _ _
   | exact ih2 _ _ _ _ _ _ _ _ _
   | exact ih3 _ _ _ _ _ _ _ _ _
   | exact ih4 _ _ _ _ _ _ _ _ _ _ _
   | exact ih5 _ _ _
   | exact ih6 _ _ _ _
   | exact iceboxlaw9_Make.mono _ _ _
   | exact iceboxlaw9_awake.mono _
   | exact iceboxref1_Batches.mono _ _ _
   | exact replay_Join.mono _ _ _
   | exact replay_Put.mono _ _ _
   | exact LeO.none _
   | refine LeO.ite ?_ ?_
   | refine LeO.bind ?_ (fun _ => ?_)
theorem iceboxlaw9_ReplayJoins.mono : ∀ a0 a1 a2 a3 a4 k, LeO (iceboxlaw9_ReplayJoins.f k a0 a1 a2 a3 a4) (iceboxlaw9_ReplayJoins.f (k + 1) a0 a1 a2 a3 a4) := by
 intro a0 a1 a2 a3 a4 k
 obtain ⟨ih0, ih1, ih2, ih3, ih4, ih5, ih6⟩ := iceboxlaw9_ReplayJoins.mono_l k
 unfold iceboxlaw9_ReplayJoins.f
 repeat' first
  | (with_reducible exact ih0 _ _ _ _ _ _)
  | (with_reducible exact ih1 _ _ _ _ _ _ _ _)
  | (with_reducible exact ih2 _ _ _ _ _ _ _ _ _)
  | (with_reducible exact ih3 _ _ _ _ _ _ _ _ _)
  | (with_reducible exact ih4 _ _ _ _ _ _ _ _ _ _ _)
  | (with_reducible exact ih5 _ _ _)
  | (with_reducible exact ih6 _ _ _ _)
  | (with_reducible exact iceboxlaw9_Make.mono _ _ _)
  | (with_reducible exact iceboxlaw9_awake.mono _)
  | (with_reducible exact iceboxref1_Batches.mono _ _ _)
  | (with_reducible exact replay_Join.mono _ _ _)
  | (with_reducible exact replay_Put.mono _ _ _)
  | (with_reducible exact LeO.refl _)
  | (with_reducible exact LeO.none _)
  | (with_reducible refine LeO.ite ?_ ?_)
  | (with_reducible refine LeO.bind ?_ (fun _ => ?_))
  | exact ih0 _ _ _ _ _ _
  | exact ih1 _ _ _ _ _ _ _ _
  | exact ih2 _ _ _ _ _ _ _ _ _
  | exact ih3 _ _ _ _ _ _ _ _ _
  | exact ih4 _ _ _ _ _ _ _ _ _ _ _
  | exact ih5 _ _ _
  | exact ih6 _ _ _ _
  | exact iceboxlaw9_Make.mono _ _ _
  | exact iceboxlaw9_awake.mono _
  | exact iceboxref1_Batches.mono _ _ _
  | exact replay_Join.mono _ _ _
  | exact replay_Put.mono _ _ _
  | exact LeO.none _
  | refine LeO.ite ?_ ?_
  | refine LeO.bind ?_ (fun _ => ?_)
def iceboxlaw9_ReplayJoins.T21 : Bool × List (List Nat × List Nat) := (true, [([], []), ([], []), ([0, 1], [0, 1]), ([], []), ([], []), ([3, 4], [3, 4]), ([2, 5, 2], [2, 5]), ([6], [6])])
def iceboxlaw9_ReplayJoins.B21 : List Nat := [0, 0, 3, 0, 0, 24, 63, 127]
theorem iceboxlaw9_ReplayJoins.tab21 : rtab .any (opsOf Try.f10 21) = iceboxlaw9_ReplayJoins.T21 := by kernel_rfl
theorem iceboxlaw9_ReplayJoins.bits21 : waitsOk iceboxlaw9_ReplayJoins.T21.2 iceboxlaw9_ReplayJoins.B21 = true := by kernel_rfl
set_option maxHeartbeats 80000000 in
set_option maxRecDepth 100000 in
theorem iceboxlaw9_ReplayJoins.calls (k : Nat) (A0 : Option Addr) (c0 : Nat) (l0 : List Int) (A1 : Option Addr) (c1 : Nat) (l1 : List Int) (a2 : Int) (a3 : Int) (a4 : Bool) (r : Bool) (w : World) (hR_ : Aside0 (r = true)) (hr0 : Kd.C (Kd.int .u8) w A0 l0.length l0) (hc0 : l0.length ≤ c0) (hr1 : Kd.C (Kd.int .u8) w A1 l1.length l1) (hc1 : l1.length ≤ c1) (h : iceboxlaw9_ReplayJoins.f k l0 l1 a2 a3 a4 = some r) :
 Calls Try.prog 10 #[.slice A0 l0.length c0, .slice A1 l1.length c1, .int .u8 a2, .int .u8 a3, .bool a4] w fun e w' => e = .returned (.bool r) ∧ Below w.heap.size w w' := by
 have hu37 := Try.underlying37
 have HR0 := Aside0.mk hr0
 have HC0 := Aside0.mk hc0
 clear hr0 hc0
 have HR1 := Aside0.mk hr1
 have HC1 := Aside0.mk hc1
 clear hr1 hc1
 have HB := Aside0.mk (Below.refl w.heap.size w)
 have H : (if (l0.length : Int) > 40 then (iceboxlaw9_ReplayJoins.j0 k l0 l1 a2 a3 a4 true) else (iceboxlaw9_ReplayJoins.j0 k l0 l1 a2 a3 a4 (decide ((l1.length : Int) > 8)))) = some r := h
 clear h
 have HC6 := Aside0.mk H
 clear H
 go_enter Try.func10, Try.ntmps10
 go_upto_region 1 with (fail)
 go_cut [29] (fun v29 wc => ∃ (kq : Nat) (x29_5 : Bool), v29 = .bool x29_5 ∧ Aside0 (iceboxlaw9_ReplayJoins.j0 kq l0 l1 a2 a3 a4 x29_5 = some r) ∧ Aside0 (kq ≤ k) ∧ Aside0 (Below w.heap.size w wc))
 case first =>
  have H := HC6.out
  clear HC6
  by_cases c7 : (l0.length : Int) > 40
  ·
   rw [if_pos c7] at H
   have c7b0 : decide (40 < (l0.length : Int)) = true := decide_eq_true c7
   have c7b1 : decide (40 < l0.length) = true := decide_eq_true (by omega)
   clear c7
   (first | rw [c7b0] | (simp only [i64_w, i32_w]; rw [c7b0]) | skip)
   have H' := Aside0.mk H
   clear H
   go_wp2
   go_meet
   case rel => exact ⟨_, (true), (by first | rfl | (simp; done) | (simp [*]; done)), H', ⟨by first | omega | exact Nat.le_refl _⟩, ⟨by repeat (first | (with_reducible first | exact HB.out | apply below_alloc | apply pw_below_drewN | apply below_drew1) | exact HB.out | exact Below.refl _ _)⟩⟩
  ·
   rw [if_neg c7] at H
   have c7b0 : decide (40 < (l0.length : Int)) = false := decide_eq_false c7
   have c7b1 : decide (40 < l0.length) = false := decide_eq_false (by omega)
   clear c7
   (first | rw [c7b0] | (simp only [i64_w, i32_w]; rw [c7b0]) | skip)
   have H' := Aside0.mk H
   clear H
   go_wp2
   go_meet
   case rel => exact ⟨_, (decide ((l1.length : Int) > 8)), (by first | rfl | (simp; done) | (simp [*]; done)), H', ⟨by first | omega | exact Nat.le_refl _⟩, ⟨by repeat (first | (with_reducible first | exact HB.out | apply below_alloc | apply pw_below_drewN | apply below_drew1) | exact HB.out | exact Below.refl _ _)⟩⟩
 case rest =>
  as_aux_lemma =>
   clear HC6
   try clear c1
   obtain ⟨kq, x29_5, rfl, HA, HJ5, HB⟩ := hcut
   cases kq with
   | zero => exact absurd HA.out (by simp [iceboxlaw9_ReplayJoins.j0])
   | succ kj5 =>
    have H := HA.out
    clear HA
    simp only [iceboxlaw9_ReplayJoins.j0] at H
    by_cases c8 : x29_5 = true
    ·
     subst c8
     have H1 : ((iceboxlaw9_awake.f kj5).bind fun t489 => (some t489)) = some r := by rw [if_pos rfl] at H; exact H
     clear H
     have H := H1
     clear H1
     replace H := Option.bind_eq_some_iff.mp H
     obtain ⟨t489, A90, H⟩ := H
     replace H : (some t489) = some r := H
     have A9 := Aside0.mk A90
     clear A90
     obtain rfl := Option.some.inj H
     go_wp2_with (first | ((with_reducible refine gate_callee (f := 28) rfl ?_); refine goesL_ (some 30) rfl rfl Try.func28 (by kernel_rfl) rfl #[] rfl (by (try simp only [List.map_toArray, List.map_cons, List.map_nil]); first | done | rfl | (simp only [List.length_drop, List.length_take]; rfl)) ?_; (with_reducible refine (iceboxlaw9_awake.calls kj5  t489 _ A9.out).mono ?_); rintro e w10 ⟨rfl, hb⟩; refine ⟨_, rfl, ?_⟩; have n0_ := Aside0.mk (below_step (by repeat (first | (with_reducible first | exact HB.out | apply below_alloc | apply pw_below_drewN | apply below_drew1) | exact HB.out | exact Below.refl _ _)) hb); clear HB; have HB := n0_; clear n0_; (try clear hb); (try clear hb2); (try clear hk); (try clear hi)))
     go_ret
     exact ⟨by first | rfl | (simp [errW_none, errW_some] <;> rfl) | (simp [*, errW_none, errW_some] <;> rfl), by repeat (first | (with_reducible first | exact HB.out | apply below_alloc | apply pw_below_drewN | apply below_drew1) | exact HB.out | exact Below.refl _ _)⟩
    ·
     replace c8 := Bool.eq_false_iff.mpr c8
     subst c8
     have H1 : ((iceboxlaw9_Make.f kj5 l0 1).bind fun t490 => (iceboxlaw9_ReplayJoins.l0 kj5 l1 a2 a3 a4 t490 ([] : List (List Int)) 0 0)) = some r := by rw [if_neg (show ¬ (false = true) by decide)] at H; exact H
     clear H
     have H := H1
     clear H1
     replace H := Option.bind_eq_some_iff.mp H
     obtain ⟨t490, A110, H⟩ := H
     replace H : (iceboxlaw9_ReplayJoins.l0 kj5 l1 a2 a3 a4 t490 ([] : List (List Int)) 0 0) = some r := H
     have A11 := Aside0.mk A110
     clear A110
     have H' := Aside0.mk H
     clear H
     go_wp2_with (first | ((with_reducible refine gate_callee (f := 29) rfl ?_); refine goesL_ (some 32) rfl rfl Try.func29 (by kernel_rfl) rfl #[.slice A0 l0.length c0, .int .i64 1] rfl (by (try simp only [List.map_toArray, List.map_cons, List.map_nil]); first | done | rfl | (simp only [List.length_drop, List.length_take]; rfl)) ?_; (with_reducible refine (iceboxlaw9_Make.calls kj5 _ _ l0 1 t490 _ ?side1 ?side2 A11.out).mono ?_); (case side1 => repeat (first | exact (Kd.C_below HR0.out HB.out) | (with_reducible refine Kd.C_alloc ?_ _) | (with_reducible refine Kd.C_drewN ?_ _) | (with_reducible refine Kd.C_drew ?_))); (case side2 => exact HC0.out); rintro e w12 ⟨v491, rfl, ho0, hb⟩; refine ⟨_, rfl, ?_⟩; have n0_ := Aside0.mk (Kd.N_lower (Kd.N_mono (ok' := fun k_ => True) (Kd.S_N (Kd.S_bound ho0)) (fun k_ hk_ => trivial)) (below_size (by repeat (first | (with_reducible first | exact HB.out | apply below_alloc | apply pw_below_drewN | apply below_drew1) | exact HB.out | exact Below.refl _ _)))); have n1_ := Aside0.mk (below_step (by repeat (first | (with_reducible first | exact HB.out | apply below_alloc | apply pw_below_drewN | apply below_drew1) | exact HB.out | exact Below.refl _ _)) hb); clear HB; have HO492 := n0_; have HB := n1_; clear n0_ n1_; (try clear hb); (try clear hb2); (try clear hk); (try clear hi); (try clear ho0)))
     try simp only [Act.put, List.setIfInBounds_toArray, List.set_cons_zero, List.set_cons_succ]
     go_loopg [12, 13, 14] kj5 (fun kq v12 v13 v14 w' => ∃ (x12_2 : List (List Int)) (x13_2 : Int) (x14_2 : Int), v13 = .int .i64 x13_2 ∧ v14 = .int .i64 x14_2 ∧ Aside0 (iceboxlaw9_ReplayJoins.l0 kq l1 a2 a3 a4 t490 x12_2 x13_2 x14_2 = some r) ∧ Aside0 (kq ≤ kj5) ∧ Aside0 (Kd.N k37 37 w' w.heap.size (fun k_ => some k_ ≠ (v12 : Value).ownBlock) v491 t490) ∧ Aside0 (Kd.N (Kd.slice 5 (Kd.int .u8)) 33 w' w.heap.size (fun k_ => some k_ ≠ (v491 : Value).ownBlock) v12 x12_2) ∧ Aside0 (Below w.heap.size w w'))
     case atStart => exact ⟨(([] : List (List Int))), (0), (0), (by first | rfl | (simp; done) | (simp [*]; done)), (by first | rfl | (simp; done) | (simp [*]; done)), H', ⟨Nat.le_refl _⟩, ⟨by (with_reducible repeat (first | apply Kd.N_alloc | apply Kd.N_drewN | apply Kd.N_drew)); exact Kd.N_mono HO492.out (fun _ hk => (by simp [Value.ownBlock]))⟩, ⟨by first | exact Kd.S_nil _ _ _ _ _ | exact Kd.N_nil _ _ _ _ _ | exact Kd.V_nil _ _ _ _ _ | exact Kd.Q_nil _ _ _ _ _ | exact Kd.R_nil _ _ _ _ _⟩, ⟨by repeat (first | (with_reducible first | exact HB.out | apply below_alloc | apply pw_below_drewN | apply below_drew1) | exact HB.out | exact Below.refl _ _)⟩⟩
     case round =>
      clear H'
      try clear c1
      obtain ⟨x12_2, x13_2, x14_2, rfl, rfl, HA, HK2, HO_11, HO_12, HB⟩ := hrel
      cases gk with
      | zero => exact absurd HA.out (by simp [iceboxlaw9_ReplayJoins.l0])
      | succ k2 =>
       have H := HA.out
       clear HA
       simp only [iceboxlaw9_ReplayJoins.l0] at H
       have HC13 := Aside0.mk H
       clear H
       go_upto_region 7 with (fail)
       go_cut [42] (fun v42 wc => ∃ (kq : Nat) (x42_12 : Bool), v42 = .bool x42_12 ∧ Aside0 (iceboxlaw9_ReplayJoins.j2 kq l1 a2 a3 a4 t490 x12_2 x13_2 x14_2 x42_12 = some r) ∧ Aside0 (kq ≤ k2) ∧ Aside0 (Kd.N k37 37 wc w.heap.size (fun k_ => some k_ ≠ (u12 : Value).ownBlock) v491 t490) ∧ Aside0 (Kd.N (Kd.slice 5 (Kd.int .u8)) 33 wc w.heap.size (fun k_ => some k_ ≠ (v491 : Value).ownBlock) u12 x12_2) ∧ Aside0 (Below w.heap.size w wc))
       case first =>
        have H := HC13.out
        clear HC13
        by_cases c14 : x14_2 ≤ (l1.length : Int)
        ·
         rw [if_pos c14] at H
         have c14b0 : decide (x14_2 ≤ (l1.length : Int)) = true := decide_eq_true c14
         clear c14
         (first | rw [c14b0] | (simp only [i64_w, i32_w]; rw [c14b0]) | skip)
         have H' := Aside0.mk H
         clear H
         obtain ⟨Ao15, co15, eo15⟩ := Kd.N_slice HO_11.out
         subst eo15
         go_wp2
         go_meet
         case rel => exact ⟨_, (decide (x13_2 < (t490.length : Int))), (by first | rfl | (simp; done) | (simp [*]; done)), H', ⟨by have := HJ5.out; have := HK2.out; first | omega | exact Nat.le_refl _⟩, ⟨by (with_reducible repeat (first | apply Kd.N_alloc | apply Kd.N_drewN | apply Kd.N_drew)); exact HO_11.out⟩, ⟨by (with_reducible repeat (first | apply Kd.N_alloc | apply Kd.N_drewN | apply Kd.N_drew)); exact HO_12.out⟩, ⟨by repeat (first | (with_reducible first | exact HB.out | apply below_alloc | apply pw_below_drewN | apply below_drew1) | exact HB.out | exact Below.refl _ _)⟩⟩
        ·
         rw [if_neg c14] at H
         have c14b0 : decide (x14_2 ≤ (l1.length : Int)) = false := decide_eq_false c14
         clear c14
         (first | rw [c14b0] | (simp only [i64_w, i32_w]; rw [c14b0]) | skip)
         have H' := Aside0.mk H
         clear H
         go_wp2
         go_meet
         case rel => exact ⟨_, (false), (by first | rfl | (simp; done) | (simp [*]; done)), H', ⟨by have := HJ5.out; have := HK2.out; first | omega | exact Nat.le_refl _⟩, ⟨by (with_reducible repeat (first | apply Kd.N_alloc | apply Kd.N_drewN | apply Kd.N_drew)); exact HO_11.out⟩, ⟨by (with_reducible repeat (first | apply Kd.N_alloc | apply Kd.N_drewN | apply Kd.N_drew)); exact HO_12.out⟩, ⟨by repeat (first | (with_reducible first | exact HB.out | apply below_alloc | apply pw_below_drewN | apply below_drew1) | exact HB.out | exact Below.refl _ _)⟩⟩
       case rest =>
        as_aux_lemma =>
         clear HC13
         try clear c1
         obtain ⟨kq, x42_12, rfl, HA, HJ12, HO_11, HO_12, HB⟩ := hcut
         cases kq with
         | zero => exact absurd HA.out (by simp [iceboxlaw9_ReplayJoins.j2])
         | succ kj12 =>
          have H := HA.out
          clear HA
          simp only [iceboxlaw9_ReplayJoins.j2] at H
          by_cases c16 : x42_12 = true
          ·
           subst c16
           have H1 : (if x14_2 < (l1.length : Int) then (if 0 ≤ x14_2 then (iceboxlaw9_ReplayJoins.j3 kj12 l1 a2 a3 a4 t490 x12_2 x13_2 x14_2 (mn (wrap64 ((t490.length : Int) - x13_2)) (Int.tmod (wrap64 (rd l1 x14_2)) 8))) else (none)) else (iceboxlaw9_ReplayJoins.j3 kj12 l1 a2 a3 a4 t490 x12_2 x13_2 x14_2 (wrap64 ((t490.length : Int) - x13_2)))) = some r := by rw [if_pos rfl] at H; exact H
           clear H
           have H := H1
           clear H1
           have HC17 := Aside0.mk H
           clear H
           obtain ⟨Ao18, co18, eo18⟩ := Kd.N_slice HO_11.out
           subst eo18
           go_upto_if 52 with (fail)
           go_cut [15] (fun v15 wc => ∃ (kq : Nat) (x15_16 : Int), v15 = .int .i64 x15_16 ∧ Aside0 (iceboxlaw9_ReplayJoins.j3 kq l1 a2 a3 a4 t490 x12_2 x13_2 x14_2 x15_16 = some r) ∧ Aside0 (kq ≤ kj12) ∧ Aside0 (Kd.N k37 37 wc w.heap.size (fun k_ => some k_ ≠ (u12 : Value).ownBlock) (.slice Ao18 t490.length co18) t490) ∧ Aside0 (Kd.N (Kd.slice 5 (Kd.int .u8)) 33 wc w.heap.size (fun k_ => some k_ ≠ ((.slice Ao18 t490.length co18) : Value).ownBlock) u12 x12_2) ∧ Aside0 (Below w.heap.size w wc))
           case first =>
            have H := HC17.out
            clear HC17
            by_cases c19 : x14_2 < (l1.length : Int)
            ·
             rw [if_pos c19] at H
             have c19b0 : decide (x14_2 < (l1.length : Int)) = true := decide_eq_true c19
             clear c19
             (first | rw [c19b0] | (simp only [i64_w, i32_w]; rw [c19b0]) | skip)
             by_cases c20 : 0 ≤ x14_2
             ·
              rw [if_pos c20] at H
              have c20b0 : decide (0 ≤ x14_2) = true := decide_eq_true c20
              clear c20
              obtain ⟨ji21, hji21⟩ : ∃ j_ : Int, (mn (wrap64 ((t490.length : Int) - x13_2)) (Int.tmod (wrap64 (rd l1 x14_2)) 8)) = j_ := ⟨_, rfl⟩
              replace H : (iceboxlaw9_ReplayJoins.j3 kj12 l1 a2 a3 a4 t490 x12_2 x13_2 x14_2 ji21) = some r := by first | (rw [hji21] at H; exact H) | (simp only [hji21] at H ⊢; exact H)
              have hji21_ : (if (Int.tmod (wrap64 (rd l1 x14_2)) 8) < (wrap64 ((t490.length : Int) - x13_2)) then (Int.tmod (wrap64 (rd l1 x14_2)) 8) else (wrap64 ((t490.length : Int) - x13_2))) = ji21 := hji21
              have H' := Aside0.mk H
              clear H
              have p493 : 0 ≤ (x14_2 : Int) := of_decide_eq_true (by first | (with_reducible assumption) | assumption)
              have q493 : x14_2 < (l1.length : Int) := of_decide_eq_true (by first | (with_reducible assumption) | assumption)
              obtain ⟨ad493, e493, hx493_0⟩ := Kd.at_int HR1.out x14_2 p493 q493
              cases e493
              replace hx493_0 := (HB.out.cell (World.block_lt_of_cell? w _ hx493_0)).trans hx493_0
              replace p493 := eq_true p493
              replace q493 := eq_true q493
              go_wp2
              go_meet
              case rel => exact ⟨_, (ji21), (by first | rfl | (simp; done) | (simp only [← hji21] <;> (first | rfl | simp)) | (simp [*]; done)), (by first | exact H' | (simp only [hji21]; exact H')), ⟨by have := HJ5.out; have := HK2.out; have := HJ12.out; first | omega | exact Nat.le_refl _⟩, ⟨by (with_reducible repeat (first | apply Kd.N_alloc | apply Kd.N_drewN | apply Kd.N_drew)); exact HO_11.out⟩, ⟨by (with_reducible repeat (first | apply Kd.N_alloc | apply Kd.N_drewN | apply Kd.N_drew)); exact HO_12.out⟩, ⟨by repeat (first | (with_reducible first | exact HB.out | apply below_alloc | apply pw_below_drewN | apply below_drew1) | exact HB.out | exact Below.refl _ _)⟩⟩
             ·
              rw [if_neg c20] at H
              exact absurd H (by simp)
            ·
             rw [if_neg c19] at H
             have c19b0 : decide (x14_2 < (l1.length : Int)) = false := decide_eq_false c19
             clear c19
             (first | rw [c19b0] | (simp only [i64_w, i32_w]; rw [c19b0]) | skip)
             have H' := Aside0.mk H
             clear H
             go_wp2
             go_meet
             case rel => exact ⟨_, (wrap64 ((t490.length : Int) - x13_2)), (by first | rfl | (simp; done) | (simp [*]; done)), H', ⟨by have := HJ5.out; have := HK2.out; have := HJ12.out; first | omega | exact Nat.le_refl _⟩, ⟨by (with_reducible repeat (first | apply Kd.N_alloc | apply Kd.N_drewN | apply Kd.N_drew)); exact HO_11.out⟩, ⟨by (with_reducible repeat (first | apply Kd.N_alloc | apply Kd.N_drewN | apply Kd.N_drew)); exact HO_12.out⟩, ⟨by repeat (first | (with_reducible first | exact HB.out | apply below_alloc | apply pw_below_drewN | apply below_drew1) | exact HB.out | exact Below.refl _ _)⟩⟩
           case rest =>
            as_aux_lemma =>
             clear HC17
             try clear c1
             obtain ⟨kq, x15_16, rfl, HA, HJ16, HO_11, HO_12, HB⟩ := hcut
             cases kq with
             | zero => exact absurd HA.out (by simp [iceboxlaw9_ReplayJoins.j3])
             | succ kj16 =>
              have H := HA.out
              clear HA
              simp only [iceboxlaw9_ReplayJoins.j3] at H
              obtain ⟨ji22, hji22⟩ : ∃ j_ : Int, (mx 0 (wrap64 (x13_2 - (Int.tmod (wrap64 (a3)) 3)))) = j_ := ⟨_, rfl⟩
              replace H : (iceboxlaw9_ReplayJoins.l1 kj16 l1 a2 a3 a4 t490 x12_2 x13_2 x14_2 x15_16 ([] : List Int) ji22) = some r := by first | (rw [hji22] at H; exact H) | (simp only [hji22] at H ⊢; exact H)
              have hji22_ : (if 0 < (wrap64 (x13_2 - (Int.tmod (wrap64 (a3)) 3))) then (wrap64 (x13_2 - (Int.tmod (wrap64 (a3)) 3))) else 0) = ji22 := hji22
              have H' := Aside0.mk H
              clear H
              go_wp2
              go_loopg [17, 18] kj16 (fun kq v17 v18 w' => ∃ (x17_5 : List Int) (x18_5 : Int), v18 = .int .i64 x18_5 ∧ Aside0 (iceboxlaw9_ReplayJoins.l1 kq l1 a2 a3 a4 t490 x12_2 x13_2 x14_2 x15_16 x17_5 x18_5 = some r) ∧ Aside0 (kq ≤ kj16) ∧ Aside0 (Kd.N k37 37 w' w.heap.size (fun k_ => some k_ ≠ (u12 : Value).ownBlock ∧ some k_ ≠ (v17 : Value).ownBlock) (.slice Ao18 t490.length co18) t490) ∧ Aside0 (Kd.N (Kd.slice 5 (Kd.int .u8)) 33 w' w.heap.size (fun k_ => some k_ ≠ ((.slice Ao18 t490.length co18) : Value).ownBlock ∧ some k_ ≠ (v17 : Value).ownBlock) u12 x12_2) ∧ Aside0 (Kd.R (Kd.int .u8) 5 w' w.heap.size (fun _ => True) v17 x17_5) ∧ Aside0 (Below w.heap.size w w'))
              case atStart => exact ⟨(([] : List Int)), (ji22), (by first | rfl | (simp; done) | (simp only [← hji22] <;> (first | rfl | simp)) | (simp [*]; done)), H', ⟨Nat.le_refl _⟩, ⟨by (with_reducible repeat (first | apply Kd.N_alloc | apply Kd.N_drewN | apply Kd.N_drew)); exact Kd.N_mono HO_11.out (fun _ hk => ⟨hk, (by simp [Value.ownBlock])⟩)⟩, ⟨by (with_reducible repeat (first | apply Kd.N_alloc | apply Kd.N_drewN | apply Kd.N_drew)); exact Kd.N_mono HO_12.out (fun _ hk => ⟨hk, (by simp [Value.ownBlock])⟩)⟩, ⟨by first | exact Kd.R_nil _ _ _ _ _ | exact Kd.N_nil _ _ _ _ _ | exact Kd.V_nil _ _ _ _ _ | exact Kd.Q_nil _ _ _ _ _ | exact Kd.S_nil _ _ _ _ _⟩, ⟨by repeat (first | (with_reducible first | exact HB.out | apply below_alloc | apply pw_below_drewN | apply below_drew1) | exact HB.out | exact Below.refl _ _)⟩⟩
              case round =>
               clear H'
               try clear c1
               obtain ⟨x17_5, x18_5, rfl, HA, HK5, HO_11, HO_12, HO_17, HB⟩ := hrel
               cases gk with
               | zero => exact absurd HA.out (by simp [iceboxlaw9_ReplayJoins.l1])
               | succ k5 =>
                have H := HA.out
                clear HA
                simp only [iceboxlaw9_ReplayJoins.l1] at H
                by_cases c23 : x18_5 < (wrap64 (x13_2 + x15_16))
                ·
                 rw [if_pos c23] at H
                 have c23b0 : decide (x18_5 < (wrap64 (x13_2 + x15_16))) = true := decide_eq_true c23
                 clear c23
                 by_cases c24 : 0 ≤ x18_5
                 ·
                  rw [if_pos c24] at H
                  have c24b0 : decide (0 ≤ x18_5) = true := decide_eq_true c24
                  clear c24
                  by_cases c25 : x18_5 < (t490.length : Int)
                  ·
                   rw [if_pos c25] at H
                   have c25b0 : decide (x18_5 < (t490.length : Int)) = true := decide_eq_true c25
                   clear c25
                   replace H := Option.bind_eq_some_iff.mp H
                   obtain ⟨t495, A260, H⟩ := H
                   replace H : (if x17_5.length + t495.length < 140737488355328 then (iceboxlaw9_ReplayJoins.l1 k5 l1 a2 a3 a4 t490 x12_2 x13_2 x14_2 x15_16 (x17_5 ++ t495) (wrap64 (x18_5 + 1))) else (none)) = some r := H
                   have A26 := Aside0.mk A260
                   clear A260
                   by_cases c27 : x17_5.length + t495.length < 140737488355328
                   ·
                    rw [if_pos c27] at H
                    have LMc27 := Aside0.mk c27
                    clear c27
                    obtain ⟨y498, hy498⟩ : ∃ y_ : List Int, y_ = (x17_5 ++ t495) := ⟨_, rfl⟩
                    replace H : (iceboxlaw9_ReplayJoins.l1 k5 l1 a2 a3 a4 t490 x12_2 x13_2 x14_2 x15_16 y498 (wrap64 (x18_5 + 1))) = some r := by first | (rw [hy498]; with_reducible exact H) | (have H2_ := (Option.bind_some _ _).symm.trans H; rw [hy498]; with_reducible exact H2_) | (have H2_ := (Option.bind_some _ _).symm.trans H; with_reducible exact H2_) | with_reducible exact H | (rw [hy498]; exact H) | exact H
                    have Ny498 := Aside0.mk hy498
                    clear hy498
                    have H' := Aside0.mk H
                    clear H
                    have p494 : 0 ≤ (x18_5 : Int) := of_decide_eq_true (by first | (with_reducible assumption) | assumption)
                    have q494 : x18_5 < (t490.length : Int) := of_decide_eq_true (by first | (with_reducible assumption) | assumption)
                    obtain ⟨ad494, A494_1, c494_1, e494, hx494_0, hx494_1, hl494_1, hi494_1⟩ := at_T37 (Kd.N_reads' HO_11.out).2.2 x18_5 p494 q494
                    cases e494
                    obtain ⟨ce494, hce494, hMe494, hcc494⟩ := Kd.N_get HO_11.out z37 x18_5 p494 (by first | exact q494 | exact of_decide_eq_true (by first | (with_reducible assumption) | assumption) | (have e_ := (Kd.N_reads' HO_11.out).1; omega))
                    obtain ⟨ua494_1, uc494_1, rfl, ul494_1, ge494_1⟩ := k37_openF hMe494
                    have hv494_1 := hcc494 1 _ rfl
                    rw [add_field _ _ 1 (by omega)] at hv494_1
                    replace hv494_1 := Option.some.inj (hv494_1.symm.trans hx494_1)
                    injection hv494_1 with hva_ hvn_ hvc_
                    rw [hva_] at ge494_1
                    rw [hvc_] at ul494_1
                    have HL494_1 := Aside0.mk (show Kd.V k27 27 _ w.heap.size _ _ ((rd_T37 t490 x18_5).f1) from Kd.V_mk ul494_1 ge494_1)
                    clear hva_ hvn_ hvc_ ge494_1 ul494_1
                    clear hcc494 hce494
                    have HR494_1 := Aside0.mk hi494_1
                    have HC494_1 := Aside0.mk hl494_1
                    clear hi494_1 hl494_1
                    replace p494 := eq_true p494
                    replace q494 := eq_true q494
                    go_wp2_with (first | ((with_reducible refine gate_callee (f := 30) rfl ?_); refine goesL_ (some 80) rfl rfl Try.func30 (by kernel_rfl) rfl #[.agg #[.int .i64 ((rd_T37 t490 x18_5).f0), .slice A494_1 ((rd_T37 t490 x18_5).f1).length c494_1]] rfl (by (try simp only [List.map_toArray, List.map_cons, List.map_nil]); first | done | rfl | (simp only [List.length_drop, List.length_take]; rfl)) ?_; (with_reducible refine (replay_Put.calls k5 ((rd_T37 t490 x18_5).f0) _ _ ((rd_T37 t490 x18_5).f1) t495 _ ?side1 ?side2 A26.out).mono ?_); (case side1 => repeat (first | exact (by repeat (first | (with_reducible exact HR494_1.out) | (with_reducible refine Kd.C_alloc ?_ _) | (with_reducible refine Kd.C_drewN ?_ _) | (with_reducible refine Kd.C_drew ?_) | exact HR494_1.out)) | (with_reducible refine Kd.C_alloc ?_ _) | (with_reducible refine Kd.C_drewN ?_ _) | (with_reducible refine Kd.C_drew ?_))); (case side2 => exact HC494_1.out); rintro e w28 ⟨v496, rfl, ho0, hb⟩; refine ⟨_, rfl, ?_⟩; have n0_ := Aside0.mk (Kd.N_elder' (by (with_reducible repeat (first | apply Kd.N_alloc | apply Kd.N_drewN | apply Kd.N_drew)); exact HO_11.out) (Kd.R_base ho0) hb); have n1_ := Aside0.mk (Kd.N_elder' (by (with_reducible repeat (first | apply Kd.N_alloc | apply Kd.N_drewN | apply Kd.N_drew)); exact HO_12.out) (Kd.R_base ho0) hb); have n2_ := Aside0.mk (Kd.R_elder' (by (with_reducible repeat (first | apply Kd.R_alloc | apply Kd.R_drewN | apply Kd.R_drew)); exact HO_17.out) (Kd.R_base ho0) hb); have n3_ := Aside0.mk (Kd.V_elder' (by (with_reducible repeat (first | apply Kd.V_alloc | apply Kd.V_drewN | apply Kd.V_drew)); exact HL494_1.out) (Kd.R_base ho0) hb); have n4_ := Aside0.mk (Kd.R_lower (Kd.R_new' ho0 (Kd.R_lt (by (with_reducible repeat (first | apply Kd.R_alloc | apply Kd.R_drewN | apply Kd.R_drew)); exact HO_17.out))) (below_size (by repeat (first | (with_reducible first | exact HB.out | apply below_alloc | apply pw_below_drewN | apply below_drew1) | exact HB.out | exact Below.refl _ _)))); have n5_ := Aside0.mk (Kd.C_below (by repeat (first | (with_reducible exact HR494_1.out) | (with_reducible refine Kd.C_alloc ?_ _) | (with_reducible refine Kd.C_drewN ?_ _) | (with_reducible refine Kd.C_drew ?_) | exact HR494_1.out)) hb); have n6_ := Aside0.mk (below_step (by repeat (first | (with_reducible first | exact HB.out | apply below_alloc | apply pw_below_drewN | apply below_drew1) | exact HB.out | exact Below.refl _ _)) hb); clear HO_11; clear HO_12; clear HO_17; clear HL494_1; clear HR494_1; clear HB; have HO_11 := n0_; have HO_12 := n1_; have HO_17 := n2_; have HL494_1 := n3_; have HO497 := n4_; have HR494_1 := n5_; have HB := n6_; clear n0_ n1_ n2_ n3_ n4_ n5_ n6_; (try clear hb); (try clear hb2); (try clear hk); (try clear hi); (try clear ho0); obtain ⟨Ao30, co30, eo30⟩ := Kd.R_slice HO497.out; subst eo30) | ((with_reducible refine gate_builtin (b := .append) (xs := #[.tmp 75, .tmp 80]) rfl ?_); (try (refine gate_guard (by rfl) ?_; dsimp only)); at_builtin; refine Kd.R_append_rows (Kd.int .u8) (w0 := w) w.heap.size rfl (.tmp 75) (.tmp 80) 33 5 (.int .u8 0) 1 rfl Try.underlying33 info5 rfl (by decide) (by omega) u17 x17_5 t495 _ _ _ (fun k_ => some k_ ≠ (.slice Ao30 t495.length co30 : Value).ownBlock) (fun _ => False) rfl rfl ?aO ?aR (fun _ _ h => h) (fun _ h => h.elim) ?aF ?aB ?aS ?aL ?_; (case aR => repeat (first | exact (Kd.R_reads' HO497.out).2.2 | (with_reducible refine Kd.C_alloc ?_ _) | (with_reducible refine Kd.C_drewN ?_ _) | (with_reducible refine Kd.C_drew ?_))); (case aB => exact (by repeat (first | (with_reducible first | exact HB.out | apply below_alloc | apply pw_below_drewN | apply below_drew1) | exact HB.out | exact Below.refl _ _))); (case aF => exact (fun k_ hk => Kd.fresh' (Kd.R_lt (by (with_reducible repeat (first | apply Kd.R_alloc | apply Kd.R_drewN | apply Kd.R_drew)); exact HO497.out)) k_ hk)); (case aO => exact (by (with_reducible repeat (first | apply Kd.R_alloc | apply Kd.R_drewN | apply Kd.R_drew)); exact Kd.R_mono HO_17.out (fun _ hk => hk.2))); (case aS => exact (below_size (by repeat (first | (with_reducible first | exact HB.out | apply below_alloc | apply pw_below_drewN | apply below_drew1) | exact HB.out | exact Below.refl _ _)))); (case aL => have := LMc27.out; omega); intro v499 w29 ho hb hg hat; rw [← Ny498.out] at ho; have n0_ := Aside0.mk (Kd.N_afterv (ok := (fun k_ => some k_ ≠ (u12 : Value).ownBlock ∧ some k_ ≠ (.slice Ao30 t495.length co30 : Value).ownBlock)) (by (with_reducible repeat (first | apply Kd.N_alloc | apply Kd.N_drewN | apply Kd.N_drew)); exact Kd.N_mono HO_11.out (fun _ hk => ⟨⟨hk.1.1, hk.2⟩, hk.1.2⟩)) hg hat); have n1_ := Aside0.mk (Kd.N_afterv (ok := (fun k_ => some k_ ≠ (.slice (some ad494) t490.length co18 : Value).ownBlock ∧ some k_ ≠ (.slice Ao30 t495.length co30 : Value).ownBlock)) (by (with_reducible repeat (first | apply Kd.N_alloc | apply Kd.N_drewN | apply Kd.N_drew)); exact Kd.N_mono HO_12.out (fun _ hk => ⟨⟨hk.1.1, hk.2⟩, hk.1.2⟩)) hg hat); have n2_ := Aside0.mk (Kd.V_afterv (ok := (fun k_ => some k_ ≠ (.slice (some ad494) t490.length co18 : Value).ownBlock ∧ some k_ ≠ (u12 : Value).ownBlock ∧ some k_ ≠ (.slice Ao30 t495.length co30 : Value).ownBlock)) (by (with_reducible repeat (first | apply Kd.V_alloc | apply Kd.V_drewN | apply Kd.V_drew)); exact Kd.V_mono HL494_1.out (fun _ hk => ⟨⟨hk.1.2, ⟨hk.1.1.1, hk.2⟩⟩, hk.1.1.2⟩)) hg hat); have n3_ := Aside0.mk (Kd.R_after (ok := (fun _ => True)) (by (with_reducible repeat (first | apply Kd.R_alloc | apply Kd.R_drewN | apply Kd.R_drew)); exact HO497.out) hg hat); have n4_ := Aside0.mk (hb); have n5_ := Aside0.mk (ho); clear HO_11; clear HO_12; clear HL494_1; clear HO497; clear HB; clear HO_17; have HO_11 := n0_; have HO_12 := n1_; have HL494_1 := n2_; have HO497 := n3_; have HB := n4_; have HO500 := n5_; clear n0_ n1_ n2_ n3_ n4_ n5_; clear ho hb hg hat))
                    go_roundg k5
                    case measure => have := HJ5.out; have := HK2.out; have := HJ12.out; have := HJ16.out; have := HK5.out; omega
                    case rel => exact ⟨(y498), (wrap64 (x18_5 + 1)), (by first | rfl | (simp; done) | (simp [*]; done)), (by first | exact H' | (simp only [hji22]; exact H')), ⟨by have := HJ5.out; have := HK2.out; have := HJ12.out; have := HJ16.out; have := HK5.out; omega⟩, ⟨by (with_reducible repeat (first | apply Kd.N_alloc | apply Kd.N_drewN | apply Kd.N_drew)); exact Kd.N_mono HO_11.out (fun _ hk => ⟨hk.1.1, hk.2⟩)⟩, ⟨by (with_reducible repeat (first | apply Kd.N_alloc | apply Kd.N_drewN | apply Kd.N_drew)); exact Kd.N_mono HO_12.out (fun _ hk => ⟨hk.1.1, hk.2⟩)⟩, ⟨by (with_reducible repeat (first | apply Kd.R_alloc | apply Kd.R_drewN | apply Kd.R_drew)); exact Kd.R_mono HO500.out (fun _ hk => trivial)⟩, ⟨by repeat (first | (with_reducible first | exact HB.out | apply below_alloc | apply pw_below_drewN | apply below_drew1) | exact HB.out | exact Below.refl _ _)⟩⟩
                   ·
                    rw [if_neg c27] at H
                    exact absurd H (by simp)
                  ·
                   rw [if_neg c25] at H
                   exact absurd H (by simp)
                 ·
                  rw [if_neg c24] at H
                  exact absurd H (by simp)
                ·
                 rw [if_neg c23] at H
                 have c23b0 : decide (x18_5 < (wrap64 (x13_2 + x15_16))) = false := decide_eq_false c23
                 clear c23
                 by_cases c31 : x12_2.length < 5864062014805
                 ·
                  rw [if_pos c31] at H
                  have LMc31 := Aside0.mk c31
                  clear c31
                  obtain ⟨y501, hy501⟩ : ∃ y_ : List (List Int), y_ = (x12_2 ++ [x17_5]) := ⟨_, rfl⟩
                  replace H : (iceboxlaw9_ReplayJoins.l0 k5 l1 a2 a3 a4 t490 y501 (wrap64 (x13_2 + x15_16)) (wrap64 (x14_2 + 1))) = some r := by first | (rw [hy501]; with_reducible exact H) | (have H2_ := (Option.bind_some _ _).symm.trans H; rw [hy501]; with_reducible exact H2_) | (have H2_ := (Option.bind_some _ _).symm.trans H; with_reducible exact H2_) | with_reducible exact H | (rw [hy501]; exact H) | exact H
                  have Ny501 := Aside0.mk hy501
                  clear hy501
                  have H' := Aside0.mk H
                  clear H
                  obtain ⟨Ao33, co33, eo33⟩ := Kd.R_slice HO_17.out
                  subst eo33
                  go_wp2_with (first | ((with_reducible refine gate_builtin (b := .append) (xs := #[.tmp 82, .tmp 84]) rfl ?_); (try (refine gate_guard (by rfl) ?_; dsimp only)); at_builtin; refine Kd.N_append (Kd.slice 5 (Kd.int .u8)) (w0 := w) w.heap.size rfl (.tmp 82) (.tmp 84) 56 33 (.slice none 0 0) 24 rfl Try.underlying56 info33 rfl (by decide) (by omega) u12 x12_2 x17_5 [.slice Ao33 x17_5.length co33] (fun k_ => some k_ ≠ (.slice Ao18 t490.length co18 : Value).ownBlock) (fun k_ => ((fun k_ => some k_ ≠ (.slice Ao18 t490.length co18 : Value).ownBlock)) k_ ∧ some k_ ≠ (u12 : Value).ownBlock) rfl rfl ?aP (fun _ hk => hk) ?aF ?aO ?aB ?aS ?aL ?_; (case aP => exact (Kd.FK_slice_mk (Kd.R_reads' (Kd.R_mono (ok' := (fun k_ => ((fun k_ => some k_ ≠ (.slice Ao18 t490.length co18 : Value).ownBlock)) k_ ∧ some k_ ≠ (u12 : Value).ownBlock)) (Kd.R_apart' (Kd.R_apart' (HO_17.out) (Kd.N_typed HO_11.out) (by decide)) (Kd.N_typed HO_12.out) (by decide)) (fun k_ hk => ⟨hk.1.2, hk.2⟩))).2.1 (Kd.R_F (Kd.R_mono (ok' := (fun k_ => ((fun k_ => some k_ ≠ (.slice Ao18 t490.length co18 : Value).ownBlock)) k_ ∧ some k_ ≠ (u12 : Value).ownBlock)) (Kd.R_apart' (Kd.R_apart' (HO_17.out) (Kd.N_typed HO_11.out) (by decide)) (Kd.N_typed HO_12.out) (by decide)) (fun k_ hk => ⟨hk.1.2, hk.2⟩))))); (case aB => exact (by repeat (first | (with_reducible first | exact HB.out | apply below_alloc | apply pw_below_drewN | apply below_drew1) | exact HB.out | exact Below.refl _ _))); (case aF => exact (fun k_ hk => Kd.fresh' (Kd.N_lt (by (with_reducible repeat (first | apply Kd.N_alloc | apply Kd.N_drewN | apply Kd.N_drew)); exact HO_11.out)) k_ hk)); (case aO => exact (by (with_reducible repeat (first | apply Kd.N_alloc | apply Kd.N_drewN | apply Kd.N_drew)); exact Kd.N_mono HO_12.out (fun _ hk => hk.1))); (case aS => exact (below_size (by repeat (first | (with_reducible first | exact HB.out | apply below_alloc | apply pw_below_drewN | apply below_drew1) | exact HB.out | exact Below.refl _ _)))); (case aL => have := LMc31.out; omega); intro v502 w32 ho hb hg hat; rw [← Ny501.out] at ho; have n0_ := Aside0.mk (Kd.N_afterv (ok := (fun k_ => some k_ ≠ (.slice Ao33 x17_5.length co33 : Value).ownBlock)) (by (with_reducible repeat (first | apply Kd.N_alloc | apply Kd.N_drewN | apply Kd.N_drew)); exact Kd.N_mono HO_11.out (fun _ hk => ⟨hk.2, hk.1⟩)) hg hat); have n1_ := Aside0.mk (hb); have n2_ := Aside0.mk (ho); clear HO_11; clear HB; clear HO_12; clear HO_17; have HO_11 := n0_; have HB := n1_; have HO503 := n2_; clear n0_ n1_ n2_; clear ho hb hg hat))
                  go_roundg k5
                  case measure => have := HJ5.out; have := HK2.out; have := HJ12.out; have := HJ16.out; have := HK5.out; omega
                  case rel => exact ⟨(y501), (wrap64 (x13_2 + x15_16)), (wrap64 (x14_2 + 1)), (by first | rfl | (simp; done) | (simp [*]; done)), (by first | rfl | (simp; done) | (simp [*]; done)), (by first | exact H' | (simp only [hji22]; exact H')), ⟨by have := HJ5.out; have := HK2.out; have := HJ12.out; have := HJ16.out; have := HK5.out; omega⟩, ⟨by (with_reducible repeat (first | apply Kd.N_alloc | apply Kd.N_drewN | apply Kd.N_drew)); exact Kd.N_mono HO_11.out (fun _ hk => hk.2)⟩, ⟨by (with_reducible repeat (first | apply Kd.N_alloc | apply Kd.N_drewN | apply Kd.N_drew)); exact HO503.out⟩, ⟨by repeat (first | (with_reducible first | exact HB.out | apply below_alloc | apply pw_below_drewN | apply below_drew1) | exact HB.out | exact Below.refl _ _)⟩⟩
                 ·
                  rw [if_neg c31] at H
                  exact absurd H (by simp)
          ·
           replace c16 := Bool.eq_false_iff.mpr c16
           subst c16
           have H1 : ((replay_Join.f kj12 x12_2 (mn (wrap64 (a2)) (t490.length : Int))).bind fun t504 => (if 0 ≤ (mn (wrap64 (a2)) (t490.length : Int)) then (if (mn (wrap64 (a2)) (t490.length : Int)) ≤ (t490.length : Int) then ((iceboxref1_Batches.f kj12 t504 (t490.drop ((mn (wrap64 (a2)) (t490.length : Int)) : Int).toNat)).bind fun t512 => (if t512 = true then (if a4 = true then (iceboxlaw9_ReplayJoins.j5 kj12 t490 (mn (wrap64 (a2)) (t490.length : Int)) (decide ((t490.length : Int) > (wrap64 ((mn (wrap64 (a2)) (t490.length : Int)) + 1))))) else (iceboxlaw9_ReplayJoins.j5 kj12 t490 (mn (wrap64 (a2)) (t490.length : Int)) false)) else (some false))) else (none)) else (none))) = some r := by rw [if_neg (show ¬ (false = true) by decide)] at H; exact H
           clear H
           have H := H1
           clear H1
           obtain ⟨ji34, hji34⟩ : ∃ j_ : Int, (mn (wrap64 (a2)) (t490.length : Int)) = j_ := ⟨_, rfl⟩
           replace H : ((replay_Join.f kj12 x12_2 (ji34)).bind fun t504 => (if 0 ≤ (ji34) then (if (ji34) ≤ (t490.length : Int) then ((iceboxref1_Batches.f kj12 t504 (t490.drop ((ji34) : Int).toNat)).bind fun t512 => (if t512 = true then (if a4 = true then (iceboxlaw9_ReplayJoins.j5 kj12 t490 ji34 (decide ((t490.length : Int) > (wrap64 ((ji34) + 1))))) else (iceboxlaw9_ReplayJoins.j5 kj12 t490 ji34 false)) else (some false))) else (none)) else (none))) = some r := by first | (rw [hji34] at H; exact H) | (simp only [hji34] at H ⊢; exact H)
           have hji34_ : (if (t490.length : Int) < (wrap64 (a2)) then (t490.length : Int) else (wrap64 (a2))) = ji34 := hji34
           replace H := Option.bind_eq_some_iff.mp H
           obtain ⟨t504, A350, H⟩ := H
           replace H : (if 0 ≤ (ji34) then (if (ji34) ≤ (t490.length : Int) then ((iceboxref1_Batches.f kj12 t504 (t490.drop ((ji34) : Int).toNat)).bind fun t512 => (if t512 = true then (if a4 = true then (iceboxlaw9_ReplayJoins.j5 kj12 t490 ji34 (decide ((t490.length : Int) > (wrap64 ((ji34) + 1))))) else (iceboxlaw9_ReplayJoins.j5 kj12 t490 ji34 false)) else (some false))) else (none)) else (none)) = some r := H
           have A35 := Aside0.mk A350
           clear A350
           by_cases c36 : 0 ≤ (ji34)
           ·
            rw [if_pos c36] at H
            have c36b0 := eq_true c36
            have c36b1 : decide (0 ≤ (ji34)) = true := decide_eq_true c36
            clear c36
            by_cases c37 : (ji34) ≤ (t490.length : Int)
            ·
             rw [if_pos c37] at H
             have c37b0 := eq_true c37
             have c37b1 : decide ((ji34) ≤ (t490.length : Int)) = true := decide_eq_true c37
             clear c37
             obtain ⟨y507, hy507⟩ : ∃ y_ : List (S37), y_ = (t490.drop ((ji34) : Int).toNat) := ⟨_, rfl⟩
             replace H : ((iceboxref1_Batches.f kj12 t504 y507).bind fun t512 => (if t512 = true then (if a4 = true then (iceboxlaw9_ReplayJoins.j5 kj12 t490 ji34 (decide ((t490.length : Int) > (wrap64 ((ji34) + 1))))) else (iceboxlaw9_ReplayJoins.j5 kj12 t490 ji34 false)) else (some false))) = some r := by first | (rw [hy507]; with_reducible exact H) | (have H2_ := (Option.bind_some _ _).symm.trans H; rw [hy507]; with_reducible exact H2_) | (have H2_ := (Option.bind_some _ _).symm.trans H; with_reducible exact H2_) | with_reducible exact H | (rw [hy507]; exact H) | exact H
             have Ny507 := Aside0.mk hy507
             clear hy507
             replace H := Option.bind_eq_some_iff.mp H
             obtain ⟨t512, A380, H⟩ := H
             replace H : (if t512 = true then (if a4 = true then (iceboxlaw9_ReplayJoins.j5 kj12 t490 ji34 (decide ((t490.length : Int) > (wrap64 ((ji34) + 1))))) else (iceboxlaw9_ReplayJoins.j5 kj12 t490 ji34 false)) else (some false)) = some r := H
             have A38 := Aside0.mk A380
             clear A380
             by_cases c39 : t512 = true
             ·
              subst c39
              have H1 : (if a4 = true then (iceboxlaw9_ReplayJoins.j5 kj12 t490 ji34 (decide ((t490.length : Int) > (wrap64 ((ji34) + 1))))) else (iceboxlaw9_ReplayJoins.j5 kj12 t490 ji34 false)) = some r := by rw [if_pos rfl] at H; exact H
              clear H
              have H := H1
              clear H1
              have HC40 := Aside0.mk H
              clear H
              obtain ⟨Ao41, co41, eo41⟩ := Kd.N_slice HO_11.out
              subst eo41
              try go_wp2
              have n0_ := Aside0.mk (Kd.N_drew HO_11.out)
              have n1_ := Aside0.mk (Kd.N_drew HO_12.out)
              have n2_ := Aside0.mk (below_drew1 HB.out)
              clear HO_11
              clear HO_12
              clear HB
              have HO_11 := n0_
              have HO_12 := n1_
              have HB := n2_
              clear n0_ n1_ n2_
              have q43 : ((ji34) : Int) ≤ ((t490.length : Int) : Int) := of_decide_eq_true (by first | (with_reducible assumption) | assumption)
              obtain ⟨i043, hi043, _, hsz43, _⟩ := info_parts info37
              have hroom43 : t490.length ≤ co41 := (Kd.N_reads' HO_11.out).2.1
              have hC43 : Kd.F k37 _ _ Ao41 t490.length t490 := (Kd.V_at (base := w.heap.size) (Kd.N_V HO_11.out)).2.2
              have q043 : (0 : Int) ≤ ((ji34) : Int) := of_decide_eq_true (by first | (with_reducible assumption) | assumption)
              have hcut43 := cut_from (P := Try.prog) 48 37 .i64 Try.underlying48 hi043 2 hsz43 Ao41 t490.length co41 (ji34) q043 q43
              have hr43 := Kd.F_cut (m := ((ji34) : Int).toNat) (c := co41) hC43 (by omega) hroom43
              obtain ⟨A43, hA43⟩ : ∃ A1, A1 = (if co41 = ((ji34) : Int).toNat then Ao41 else (Ao41 : Option Addr).map (·.add (((ji34) : Int).toNat * 2))) := ⟨_, rfl⟩
              obtain ⟨c43, hc43⟩ : ∃ c1, c1 = co41 - ((ji34) : Int).toNat := ⟨_, rfl⟩
              have hy43 : y507.length = t490.length - ((ji34) : Int).toNat := (by rw [Ny507.out, List.length_drop] <;> omega)
              rw [show (t490).drop ((ji34) : Int).toNat = y507 from Ny507.out.symm] at hr43
              replace hr43 : Kd.F k37 _ _ A43 y507.length y507 := (by rw [hA43]; exact hr43)
              rw [← hy43, ← hA43, ← hc43] at hcut43
              have HO511 := Aside0.mk (show Kd.V k37 37 _ w.heap.size _ (.slice A43 y507.length c43) y507 from Kd.V_mk (by rw [hy43, hc43]; exact Nat.sub_le_sub_right hroom43 _) hr43)
              have HC511 := Aside0.mk (show y507.length ≤ c43 from by rw [hy43, hc43]; exact Nat.sub_le_sub_right hroom43 _)
              clear hr43 hC43 hroom43 hi043 hsz43 hc43
              have KY43 := Aside0.mk hy43
              have KA43 := Aside0.mk hA43
              clear hy43 hA43
              replace q43 := eq_true q43
              obtain ⟨Ao44, co44, eo44⟩ := Kd.N_slice HO_12.out
              (first | subst eo44 | (injection eo44 with f1_ f2_ f3_; have f4_ := f1_.symm; have f5_ := f3_.symm; clear f1_ f2_ f3_; subst f4_; subst f5_))
              refine start_ (n := 8) (S := fun w' => True) (ds := []) #[false, false, false, false, false, false, false, false] (by kernel_rfl) rfl rfl trivial (fun hHeld => ?_); refine with_tabW iceboxlaw9_ReplayJoins.tab21 iceboxlaw9_ReplayJoins.bits21 (fun HT_ HW_ => ?_)
              generalize wc.drew = w42 at HO_11 HO_12 HB HO511 hHeld ⊢
              refine pure_ (i := 0) (N := some 94) (v := ?_) (a' := ?_) #[true, false, false, false, false, false, false, false] rfl rfl (any_of HT_.out (by kernel_rfl)) (fun _ _ _ h => h) (Or.inl ⟨by rfl, ?_⟩) ?_ ?_
              rotate_left
              ·
               intro w'
               go_simp
               with_reducible rfl
              rotate_left
              ·
               simp only [Act.put, List.setIfInBounds_toArray, List.set_cons_zero, List.set_cons_succ, i64_w, i32_w]
               rfl
              refine pure_ (i := 1) (N := some 95) (v := ?_) (a' := ?_) #[true, true, false, false, false, false, false, false] rfl rfl (any_of HT_.out (by kernel_rfl)) (fun _ _ _ h => h) (Or.inl ⟨by rfl, ?_⟩) ?_ ?_
              rotate_left
              ·
               intro w'
               go_simp
               with_reducible rfl
              rotate_left
              ·
               simp only [Act.put, List.setIfInBounds_toArray, List.set_cons_zero, List.set_cons_succ, i64_w, i32_w]
               rfl
              refine pure_ (i := 3) (N := some 97) (v := ?_) (a' := ?_) #[true, true, false, true, false, false, false, false] rfl rfl (any_of HT_.out (by kernel_rfl)) (fun _ _ _ h => h) (Or.inl ⟨by rfl, ?_⟩) ?_ ?_
              rotate_left
              ·
               intro w'
               go_simp
               with_reducible rfl
              rotate_left
              ·
               simp only [Act.put, List.setIfInBounds_toArray, List.set_cons_zero, List.set_cons_succ, i64_w, i32_w]
               rfl
              refine pure_ (i := 4) (N := some 98) (v := ?_) (a' := ?_) #[true, true, false, true, true, false, false, false] rfl rfl (any_of HT_.out (by kernel_rfl)) (fun _ _ _ h => h) (Or.inl ⟨by rfl, ?_⟩) ?_ ?_
              rotate_left
              ·
               intro w'
               go_simp
               with_reducible rfl
              rotate_left
              ·
               simp only [Act.put, List.setIfInBounds_toArray, List.set_cons_zero, List.set_cons_succ, i64_w, i32_w]
               rfl
              refine pure_ (i := 5) (N := some 99) (v := ?_) (a' := ?_) #[true, true, false, true, true, true, false, false] rfl rfl (any_of HT_.out (by kernel_rfl)) (fun _ _ _ h => h) (Or.inl ⟨by rfl, ?_⟩) ?_ ?_
              rotate_left
              ·
               intro w'
               go_simp
               with_reducible rfl
              rotate_left
              ·
               simp only [Act.put, List.setIfInBounds_toArray, List.set_cons_zero, List.set_cons_succ, i64_w, i32_w]
               rfl
              refine one_ (i := 2) (N := some 96) #[true, true, true, true, true, true, false, false] rfl rfl (one_of HT_.out (by kernel_rfl)) (by decide) (fun K hK => ?_)
              refine goes_ Try.func35 (by kernel_rfl) rfl #[.slice Ao44 x12_2.length co44, .int .i64 ji34] (by rfl) rfl rfl (by (try simp only [List.map_toArray, List.map_cons, List.map_nil]); first | done | (simp only [hji34]; rfl) | rfl | (simp only [List.length_drop, List.length_take]; rfl)) ?_
              with_reducible refine (replay_Join.calls kj12 _ _ x12_2 ji34 t504 _ ?side1 ?side2 A35.out).mono ?_
              (case side1 => repeat (first | exact (Kd.N_reads' HO_12.out).2.2 | (with_reducible refine Kd.C_alloc ?_ _) | (with_reducible refine Kd.C_drewN ?_ _) | (with_reducible refine Kd.C_drew ?_)))
              (case side2 => exact (Kd.N_reads' HO_12.out).2.1)
              rintro e w45 ⟨v505, rfl, ho0, hb⟩
              refine ⟨_, rfl, ?_⟩
              have n0_ := Aside0.mk (Kd.N_elder' (by (with_reducible repeat (first | apply Kd.N_alloc | apply Kd.N_drewN | apply Kd.N_drew)); exact HO_11.out) (by first | exact Kd.N_base ho0 | exact Kd.N_base (Kd.S_N ho0)) hb)
              have n1_ := Aside0.mk (Kd.N_elder' (by (with_reducible repeat (first | apply Kd.N_alloc | apply Kd.N_drewN | apply Kd.N_drew)); exact HO_12.out) (by first | exact Kd.N_base ho0 | exact Kd.N_base (Kd.S_N ho0)) hb)
              have n2_ := Aside0.mk (Kd.V_elder' (by (with_reducible repeat (first | apply Kd.V_alloc | apply Kd.V_drewN | apply Kd.V_drew)); exact HO511.out) (by first | exact Kd.N_base ho0 | exact Kd.N_base (Kd.S_N ho0)) hb)
              have n3_ := Aside0.mk (Kd.N_lower (Kd.N_mono (ok' := fun k_ => some k_ ≠ (.slice Ao41 t490.length co41 : Value).ownBlock ∧ some k_ ≠ (.slice Ao44 x12_2.length co44 : Value).ownBlock) ho0 (fun k_ hk_ => ⟨(Kd.fresh' (Kd.N_lt (by (with_reducible repeat (first | apply Kd.N_alloc | apply Kd.N_drewN | apply Kd.N_drew)); exact HO_11.out)) k_ hk_), (Kd.fresh' (Kd.N_lt (by (with_reducible repeat (first | apply Kd.N_alloc | apply Kd.N_drewN | apply Kd.N_drew)); exact HO_12.out)) k_ hk_)⟩)) (below_size (by repeat (first | (with_reducible first | exact HB.out | apply below_alloc | apply pw_below_drewN | apply below_drew1) | exact HB.out | exact Below.refl _ _))))
              have n4_ := Aside0.mk (below_step (by repeat (first | (with_reducible first | exact HB.out | apply below_alloc | apply pw_below_drewN | apply below_drew1) | exact HB.out | exact Below.refl _ _)) hb)
              clear HO_11
              clear HO_12
              clear HO511
              clear HB
              have HO_11 := n0_
              have HO_12 := n1_
              have HO511 := n2_
              have HO506 := n3_
              have HB := n4_
              clear n0_ n1_ n2_ n3_ n4_
              (try clear hb)
              (try clear ho0)
              obtain ⟨Ao46, co46, eo46⟩ := Kd.N_slice HO506.out
              (first | subst eo46 | (injection eo46 with f1_ f2_ f3_; have f4_ := f1_.symm; have f5_ := f3_.symm; clear f1_ f2_ f3_; subst f4_; subst f5_))
              refine hK.out _ _ trivial (fun hHeld => ?_)
              clear hK K
              refine norm_ (a' := ?_) ?_ ?_
              rotate_left
              ·
               show Act.put _ (some 96) _ = _
               simp only [Act.put, List.setIfInBounds_toArray, List.set_cons_zero, List.set_cons_succ, i64_w, i32_w]
               rfl
              refine one_ (i := 6) (N := some 100) #[true, true, true, true, true, true, true, false] rfl rfl (one_of HT_.out (by kernel_rfl)) (by decide) (fun K hK => ?_)
              refine goes_ Try.func32 (by kernel_rfl) rfl #[.slice Ao46 t504.length co46, .slice A43 y507.length c43] (by rfl) rfl rfl (by (try simp only [List.map_toArray, List.map_cons, List.map_nil]); first | done | rfl | (simp only [List.length_drop, List.length_take]; rfl)) ?_
              with_reducible refine (iceboxref1_Batches.calls kj12 _ _ t504 _ _ y507 true _ ?side1 ?side2 ?side3 ?side4 A38.out).mono ?_
              (case side1 => repeat (first | exact (Kd.N_reads' HO506.out).2.2 | (with_reducible refine Kd.C_alloc ?_ _) | (with_reducible refine Kd.C_drewN ?_ _) | (with_reducible refine Kd.C_drew ?_)))
              (case side2 => exact (Kd.N_reads' HO506.out).2.1)
              (case side3 => repeat (first | exact (Kd.V_reads' HO511.out).2.2 | (with_reducible refine Kd.C_alloc ?_ _) | (with_reducible refine Kd.C_drewN ?_ _) | (with_reducible refine Kd.C_drew ?_)))
              (case side4 => exact (Kd.V_reads' HO511.out).2.1)
              rintro e w47 ⟨rfl, hb⟩
              refine ⟨_, rfl, ?_⟩
              have n0_ := Aside0.mk (Kd.N_below (by (with_reducible repeat (first | apply Kd.N_alloc | apply Kd.N_drewN | apply Kd.N_drew)); exact HO_11.out) hb)
              have n1_ := Aside0.mk (Kd.N_below (by (with_reducible repeat (first | apply Kd.N_alloc | apply Kd.N_drewN | apply Kd.N_drew)); exact HO_12.out) hb)
              have n2_ := Aside0.mk (Kd.V_below (by (with_reducible repeat (first | apply Kd.V_alloc | apply Kd.V_drewN | apply Kd.V_drew)); exact HO511.out) hb)
              have n3_ := Aside0.mk (Kd.N_below (by (with_reducible repeat (first | apply Kd.N_alloc | apply Kd.N_drewN | apply Kd.N_drew)); exact HO506.out) hb)
              have n4_ := Aside0.mk (below_step (by repeat (first | (with_reducible first | exact HB.out | apply below_alloc | apply pw_below_drewN | apply below_drew1) | exact HB.out | exact Below.refl _ _)) hb)
              clear HO_11
              clear HO_12
              clear HO511
              clear HO506
              clear HB
              have HO_11 := n0_
              have HO_12 := n1_
              have HO511 := n2_
              have HO506 := n3_
              have HB := n4_
              clear n0_ n1_ n2_ n3_ n4_
              (try clear hb)
              refine hK.out _ _ trivial (fun hHeld => ?_)
              clear hK K
              refine norm_ (a' := ?_) ?_ ?_
              rotate_left
              ·
               show Act.put _ (some 100) _ = _
               simp only [Act.put, List.setIfInBounds_toArray, List.set_cons_zero, List.set_cons_succ, i64_w, i32_w]
               rfl
              refine pure_ (i := 7) (N := some 101) (v := ?_) (a' := ?_) #[true, true, true, true, true, true, true, true] rfl rfl (any_of HT_.out (by kernel_rfl)) (fun _ _ _ h => h) (Or.inl ⟨by rfl, ?_⟩) ?_ ?_
              rotate_left
              ·
               intro w'
               go_simp
               with_reducible rfl
              rotate_left
              ·
               simp only [Act.put, List.setIfInBounds_toArray, List.set_cons_zero, List.set_cons_succ, i64_w, i32_w]
               rfl
              refine done_ (done_of HT_.out (by kernel_rfl)) ?_
              go_upto_region 23 with (fail)
              go_cut [109] (fun v109 wc => ∃ (kq : Nat) (x109_39 : Bool), v109 = .bool x109_39 ∧ Aside0 (iceboxlaw9_ReplayJoins.j5 kq t490 ji34 x109_39 = some r) ∧ Aside0 (kq ≤ kj12) ∧ Aside0 (Kd.N k37 37 wc w.heap.size (fun _ => True) (.slice Ao41 t490.length co41) t490) ∧ Aside0 (Below w.heap.size w wc))
              case first =>
               have H := HC40.out
               clear HC40
               by_cases c48 : a4 = true
               ·
                subst c48
                have H1 : (iceboxlaw9_ReplayJoins.j5 kj12 t490 ji34 (decide ((t490.length : Int) > (wrap64 ((ji34) + 1))))) = some r := by rw [if_pos rfl] at H; exact H
                clear H
                have H := H1
                clear H1
                have H' := Aside0.mk H
                clear H
                go_wp2
                go_meet
                case rel => exact ⟨_, (decide ((t490.length : Int) > (wrap64 ((ji34) + 1)))), (by first | rfl | (simp; done) | (simp only [← hji34] <;> (first | rfl | simp)) | (simp [*]; done)), (by first | exact H' | (simp only [hji34]; exact H')), ⟨by have := HJ5.out; have := HK2.out; have := HJ12.out; first | omega | exact Nat.le_refl _⟩, ⟨by (with_reducible repeat (first | apply Kd.N_alloc | apply Kd.N_drewN | apply Kd.N_drew)); exact Kd.N_mono HO_11.out (fun _ hk => trivial)⟩, ⟨by repeat (first | (with_reducible first | exact HB.out | apply below_alloc | apply pw_below_drewN | apply below_drew1) | exact HB.out | exact Below.refl _ _)⟩⟩
               ·
                replace c48 := Bool.eq_false_iff.mpr c48
                subst c48
                have H1 : (iceboxlaw9_ReplayJoins.j5 kj12 t490 ji34 false) = some r := by rw [if_neg (show ¬ (false = true) by decide)] at H; exact H
                clear H
                have H := H1
                clear H1
                have H' := Aside0.mk H
                clear H
                go_wp2
                go_meet
                case rel => exact ⟨_, (false), (by first | rfl | (simp; done) | (simp [*]; done)), (by first | exact H' | (simp only [hji34]; exact H')), ⟨by have := HJ5.out; have := HK2.out; have := HJ12.out; first | omega | exact Nat.le_refl _⟩, ⟨by (with_reducible repeat (first | apply Kd.N_alloc | apply Kd.N_drewN | apply Kd.N_drew)); exact Kd.N_mono HO_11.out (fun _ hk => trivial)⟩, ⟨by repeat (first | (with_reducible first | exact HB.out | apply below_alloc | apply pw_below_drewN | apply below_drew1) | exact HB.out | exact Below.refl _ _)⟩⟩
              case rest =>
               as_aux_lemma =>
                clear HC40
                try clear c1
                obtain ⟨kq, x109_39, rfl, HA, HJ39, HO_11, HB⟩ := hcut
                cases kq with
                | zero => exact absurd HA.out (by simp [iceboxlaw9_ReplayJoins.j5])
                | succ kj39 =>
                 have H := HA.out
                 clear HA
                 simp only [iceboxlaw9_ReplayJoins.j5] at H
                 by_cases c49 : x109_39 = true
                 ·
                  subst c49
                  have H1 : (iceboxlaw9_ReplayJoins.l2 kj39 t490 ji34 ([] : List Int) (wrap64 (ji34 + 1))) = some r := by rw [if_pos rfl] at H; exact H
                  clear H
                  have H := H1
                  clear H1
                  have H' := Aside0.mk H
                  clear H
                  go_wp2
                  go_loopg [20, 21] kj39 (fun kq v20 v21 w' => ∃ (x20_5 : List Int) (x21_5 : Int), v21 = .int .i64 x21_5 ∧ Aside0 (iceboxlaw9_ReplayJoins.l2 kq t490 ji34 x20_5 x21_5 = some r) ∧ Aside0 (kq ≤ kj39) ∧ Aside0 (Kd.N k37 37 w' w.heap.size (fun k_ => some k_ ≠ (v20 : Value).ownBlock) (.slice Ao41 t490.length co41) t490) ∧ Aside0 (Kd.R (Kd.int .u8) 5 w' w.heap.size (fun _ => True) v20 x20_5) ∧ Aside0 (Below w.heap.size w w'))
                  case atStart => exact ⟨(([] : List Int)), (wrap64 (ji34 + 1)), (by first | rfl | (simp; done) | (simp only [← hji34] <;> (first | rfl | simp)) | (simp [*]; done)), H', ⟨Nat.le_refl _⟩, ⟨by (with_reducible repeat (first | apply Kd.N_alloc | apply Kd.N_drewN | apply Kd.N_drew)); exact Kd.N_mono HO_11.out (fun _ hk => (by simp [Value.ownBlock]))⟩, ⟨by first | exact Kd.R_nil _ _ _ _ _ | exact Kd.N_nil _ _ _ _ _ | exact Kd.V_nil _ _ _ _ _ | exact Kd.Q_nil _ _ _ _ _ | exact Kd.S_nil _ _ _ _ _⟩, ⟨by repeat (first | (with_reducible first | exact HB.out | apply below_alloc | apply pw_below_drewN | apply below_drew1) | exact HB.out | exact Below.refl _ _)⟩⟩
                  case round =>
                   clear H'
                   try clear c1
                   obtain ⟨x20_5, x21_5, rfl, HA, HK5, HO_11, HO_20, HB⟩ := hrel
                   cases gk with
                   | zero => exact absurd HA.out (by simp [iceboxlaw9_ReplayJoins.l2])
                   | succ k5 =>
                    have H := HA.out
                    clear HA
                    simp only [iceboxlaw9_ReplayJoins.l2] at H
                    by_cases c50 : x21_5 < (t490.length : Int)
                    ·
                     rw [if_pos c50] at H
                     have c50b0 : decide (x21_5 < (t490.length : Int)) = true := decide_eq_true c50
                     clear c50
                     by_cases c51 : 0 ≤ x21_5
                     ·
                      rw [if_pos c51] at H
                      have c51b0 : decide (0 ≤ x21_5) = true := decide_eq_true c51
                      clear c51
                      replace H := Option.bind_eq_some_iff.mp H
                      obtain ⟨t514, A520, H⟩ := H
                      replace H : (if x20_5.length + t514.length < 140737488355328 then (iceboxlaw9_ReplayJoins.l2 k5 t490 ji34 (x20_5 ++ t514) (wrap64 (x21_5 + 1))) else (none)) = some r := H
                      have A52 := Aside0.mk A520
                      clear A520
                      by_cases c53 : x20_5.length + t514.length < 140737488355328
                      ·
                       rw [if_pos c53] at H
                       have LMc53 := Aside0.mk c53
                       clear c53
                       obtain ⟨y517, hy517⟩ : ∃ y_ : List Int, y_ = (x20_5 ++ t514) := ⟨_, rfl⟩
                       replace H : (iceboxlaw9_ReplayJoins.l2 k5 t490 ji34 y517 (wrap64 (x21_5 + 1))) = some r := by first | (rw [hy517]; with_reducible exact H) | (have H2_ := (Option.bind_some _ _).symm.trans H; rw [hy517]; with_reducible exact H2_) | (have H2_ := (Option.bind_some _ _).symm.trans H; with_reducible exact H2_) | with_reducible exact H | (rw [hy517]; exact H) | exact H
                       have Ny517 := Aside0.mk hy517
                       clear hy517
                       have H' := Aside0.mk H
                       clear H
                       have p513 : 0 ≤ (x21_5 : Int) := of_decide_eq_true (by first | (with_reducible assumption) | assumption)
                       have q513 : x21_5 < (t490.length : Int) := of_decide_eq_true (by first | (with_reducible assumption) | assumption)
                       obtain ⟨ad513, A513_1, c513_1, e513, hx513_0, hx513_1, hl513_1, hi513_1⟩ := at_T37 (Kd.N_reads' HO_11.out).2.2 x21_5 p513 q513
                       cases e513
                       obtain ⟨ce513, hce513, hMe513, hcc513⟩ := Kd.N_get HO_11.out z37 x21_5 p513 (by first | exact q513 | exact of_decide_eq_true (by first | (with_reducible assumption) | assumption) | (have e_ := (Kd.N_reads' HO_11.out).1; omega))
                       obtain ⟨ua513_1, uc513_1, rfl, ul513_1, ge513_1⟩ := k37_openF hMe513
                       have hv513_1 := hcc513 1 _ rfl
                       rw [add_field _ _ 1 (by omega)] at hv513_1
                       replace hv513_1 := Option.some.inj (hv513_1.symm.trans hx513_1)
                       injection hv513_1 with hva_ hvn_ hvc_
                       rw [hva_] at ge513_1
                       rw [hvc_] at ul513_1
                       have HL513_1 := Aside0.mk (show Kd.V k27 27 _ w.heap.size _ _ ((rd_T37 t490 x21_5).f1) from Kd.V_mk ul513_1 ge513_1)
                       clear hva_ hvn_ hvc_ ge513_1 ul513_1
                       clear hcc513 hce513
                       have HR513_1 := Aside0.mk hi513_1
                       have HC513_1 := Aside0.mk hl513_1
                       clear hi513_1 hl513_1
                       replace p513 := eq_true p513
                       replace q513 := eq_true q513
                       go_wp2_with (first | ((with_reducible refine gate_callee (f := 30) rfl ?_); refine goesL_ (some 123) rfl rfl Try.func30 (by kernel_rfl) rfl #[.agg #[.int .i64 ((rd_T37 t490 x21_5).f0), .slice A513_1 ((rd_T37 t490 x21_5).f1).length c513_1]] rfl (by (try simp only [List.map_toArray, List.map_cons, List.map_nil]); first | done | rfl | (simp only [List.length_drop, List.length_take]; rfl)) ?_; (with_reducible refine (replay_Put.calls k5 ((rd_T37 t490 x21_5).f0) _ _ ((rd_T37 t490 x21_5).f1) t514 _ ?side1 ?side2 A52.out).mono ?_); (case side1 => repeat (first | exact (by repeat (first | (with_reducible exact HR513_1.out) | (with_reducible refine Kd.C_alloc ?_ _) | (with_reducible refine Kd.C_drewN ?_ _) | (with_reducible refine Kd.C_drew ?_) | exact HR513_1.out)) | (with_reducible refine Kd.C_alloc ?_ _) | (with_reducible refine Kd.C_drewN ?_ _) | (with_reducible refine Kd.C_drew ?_))); (case side2 => exact HC513_1.out); rintro e w54 ⟨v515, rfl, ho0, hb⟩; refine ⟨_, rfl, ?_⟩; have n0_ := Aside0.mk (Kd.N_elder' (by (with_reducible repeat (first | apply Kd.N_alloc | apply Kd.N_drewN | apply Kd.N_drew)); exact HO_11.out) (Kd.R_base ho0) hb); have n1_ := Aside0.mk (Kd.R_elder' (by (with_reducible repeat (first | apply Kd.R_alloc | apply Kd.R_drewN | apply Kd.R_drew)); exact HO_20.out) (Kd.R_base ho0) hb); have n2_ := Aside0.mk (Kd.V_elder' (by (with_reducible repeat (first | apply Kd.V_alloc | apply Kd.V_drewN | apply Kd.V_drew)); exact HL513_1.out) (Kd.R_base ho0) hb); have n3_ := Aside0.mk (Kd.R_lower (Kd.R_new' ho0 (Kd.R_lt (by (with_reducible repeat (first | apply Kd.R_alloc | apply Kd.R_drewN | apply Kd.R_drew)); exact HO_20.out))) (below_size (by repeat (first | (with_reducible first | exact HB.out | apply below_alloc | apply pw_below_drewN | apply below_drew1) | exact HB.out | exact Below.refl _ _)))); have n4_ := Aside0.mk (Kd.C_below (by repeat (first | (with_reducible exact HR513_1.out) | (with_reducible refine Kd.C_alloc ?_ _) | (with_reducible refine Kd.C_drewN ?_ _) | (with_reducible refine Kd.C_drew ?_) | exact HR513_1.out)) hb); have n5_ := Aside0.mk (below_step (by repeat (first | (with_reducible first | exact HB.out | apply below_alloc | apply pw_below_drewN | apply below_drew1) | exact HB.out | exact Below.refl _ _)) hb); clear HO_11; clear HO_20; clear HL513_1; clear HR513_1; clear HB; have HO_11 := n0_; have HO_20 := n1_; have HL513_1 := n2_; have HO516 := n3_; have HR513_1 := n4_; have HB := n5_; clear n0_ n1_ n2_ n3_ n4_ n5_; (try clear hb); (try clear hb2); (try clear hk); (try clear hi); (try clear ho0); obtain ⟨Ao56, co56, eo56⟩ := Kd.R_slice HO516.out; subst eo56) | ((with_reducible refine gate_builtin (b := .append) (xs := #[.tmp 118, .tmp 123]) rfl ?_); (try (refine gate_guard (by rfl) ?_; dsimp only)); at_builtin; refine Kd.R_append_rows (Kd.int .u8) (w0 := w) w.heap.size rfl (.tmp 118) (.tmp 123) 33 5 (.int .u8 0) 1 rfl Try.underlying33 info5 rfl (by decide) (by omega) u20 x20_5 t514 _ _ _ (fun k_ => some k_ ≠ (.slice Ao56 t514.length co56 : Value).ownBlock) (fun _ => False) rfl rfl ?aO ?aR (fun _ _ h => h) (fun _ h => h.elim) ?aF ?aB ?aS ?aL ?_; (case aR => repeat (first | exact (Kd.R_reads' HO516.out).2.2 | (with_reducible refine Kd.C_alloc ?_ _) | (with_reducible refine Kd.C_drewN ?_ _) | (with_reducible refine Kd.C_drew ?_))); (case aB => exact (by repeat (first | (with_reducible first | exact HB.out | apply below_alloc | apply pw_below_drewN | apply below_drew1) | exact HB.out | exact Below.refl _ _))); (case aF => exact (fun k_ hk => Kd.fresh' (Kd.R_lt (by (with_reducible repeat (first | apply Kd.R_alloc | apply Kd.R_drewN | apply Kd.R_drew)); exact HO516.out)) k_ hk)); (case aO => exact (by (with_reducible repeat (first | apply Kd.R_alloc | apply Kd.R_drewN | apply Kd.R_drew)); exact Kd.R_mono HO_20.out (fun _ hk => hk.2))); (case aS => exact (below_size (by repeat (first | (with_reducible first | exact HB.out | apply below_alloc | apply pw_below_drewN | apply below_drew1) | exact HB.out | exact Below.refl _ _)))); (case aL => have := LMc53.out; omega); intro v518 w55 ho hb hg hat; rw [← Ny517.out] at ho; have n0_ := Aside0.mk (Kd.N_afterv (ok := (fun k_ => some k_ ≠ (.slice Ao56 t514.length co56 : Value).ownBlock)) (by (with_reducible repeat (first | apply Kd.N_alloc | apply Kd.N_drewN | apply Kd.N_drew)); exact Kd.N_mono HO_11.out (fun _ hk => ⟨hk.2, hk.1⟩)) hg hat); have n1_ := Aside0.mk (Kd.V_afterv (ok := (fun k_ => some k_ ≠ (.slice (some ad513) t490.length co41 : Value).ownBlock ∧ some k_ ≠ (.slice Ao56 t514.length co56 : Value).ownBlock)) (by (with_reducible repeat (first | apply Kd.V_alloc | apply Kd.V_drewN | apply Kd.V_drew)); exact Kd.V_mono HL513_1.out (fun _ hk => ⟨⟨hk.1.2, hk.2⟩, hk.1.1⟩)) hg hat); have n2_ := Aside0.mk (Kd.R_after (ok := (fun _ => True)) (by (with_reducible repeat (first | apply Kd.R_alloc | apply Kd.R_drewN | apply Kd.R_drew)); exact HO516.out) hg hat); have n3_ := Aside0.mk (hb); have n4_ := Aside0.mk (ho); clear HO_11; clear HL513_1; clear HO516; clear HB; clear HO_20; have HO_11 := n0_; have HL513_1 := n1_; have HO516 := n2_; have HB := n3_; have HO519 := n4_; clear n0_ n1_ n2_ n3_ n4_; clear ho hb hg hat))
                       go_roundg k5
                       case measure => have := HJ5.out; have := HK2.out; have := HJ12.out; have := HJ39.out; have := HK5.out; omega
                       case rel => exact ⟨(y517), (wrap64 (x21_5 + 1)), (by first | rfl | (simp; done) | (simp [*]; done)), (by first | exact H' | (simp only [hji34]; exact H')), ⟨by have := HJ5.out; have := HK2.out; have := HJ12.out; have := HJ39.out; have := HK5.out; omega⟩, ⟨by (with_reducible repeat (first | apply Kd.N_alloc | apply Kd.N_drewN | apply Kd.N_drew)); exact Kd.N_mono HO_11.out (fun _ hk => hk.2)⟩, ⟨by (with_reducible repeat (first | apply Kd.R_alloc | apply Kd.R_drewN | apply Kd.R_drew)); exact Kd.R_mono HO519.out (fun _ hk => trivial)⟩, ⟨by repeat (first | (with_reducible first | exact HB.out | apply below_alloc | apply pw_below_drewN | apply below_drew1) | exact HB.out | exact Below.refl _ _)⟩⟩
                      ·
                       rw [if_neg c53] at H
                       exact absurd H (by simp)
                     ·
                      rw [if_neg c51] at H
                      exact absurd H (by simp)
                    ·
                     rw [if_neg c50] at H
                     have c50b0 : decide (x21_5 < (t490.length : Int)) = false := decide_eq_false c50
                     clear c50
                     obtain ⟨y520, hy520⟩ : ∃ y_ : List (List Int), y_ = (([x20_5] : List (List Int))) := ⟨_, rfl⟩
                     replace H : ((replay_Join.f k5 y520 ji34).bind fun t523 => (if (t523.length : Int) = 0 then ((iceboxlaw9_awake.f k5).bind fun t526 => (some t526)) else (some false))) = some r := by first | (rw [hy520]; with_reducible exact H) | (have H2_ := (Option.bind_some _ _).symm.trans H; rw [hy520]; with_reducible exact H2_) | (have H2_ := (Option.bind_some _ _).symm.trans H; with_reducible exact H2_) | with_reducible exact H | (rw [hy520]; exact H) | exact H
                     have Ny520 := Aside0.mk hy520
                     clear hy520
                     replace H := Option.bind_eq_some_iff.mp H
                     obtain ⟨t523, A570, H⟩ := H
                     replace H : (if (t523.length : Int) = 0 then ((iceboxlaw9_awake.f k5).bind fun t526 => (some t526)) else (some false)) = some r := H
                     have A57 := Aside0.mk A570
                     clear A570
                     by_cases c58 : (t523.length : Int) = 0
                     ·
                      rw [if_pos c58] at H
                      have c58b0 : ((t523.length : Int) == 0) = true := beq_iff_eq.mpr c58
                      have c58b1 : ((t523.length : Int) != 0) = false := bne_eq_false_iff_eq.mpr c58
                      clear c58
                      replace H := Option.bind_eq_some_iff.mp H
                      obtain ⟨t526, A590, H⟩ := H
                      replace H : (some t526) = some r := H
                      have A59 := Aside0.mk A590
                      clear A590
                      obtain rfl := Option.some.inj H
                      obtain ⟨Ao60, co60, eo60⟩ := Kd.R_slice HO_20.out
                      subst eo60
                      go_wp2_with (first | ((with_reducible refine gate_dst (N := 126) rfl ?_); (try (refine gate_guard (by rfl) ?_; dsimp only)); refine Kd.N_lit (Kd.slice 5 (Kd.int .u8)) _ 33 ?hg (N' := 126) ?hd (xs := ([x20_5] : List (List Int))) (inner := [.slice Ao60 x20_5.length co60]) (ok := (fun k_ => some k_ ≠ (.slice Ao41 t490.length co41 : Value).ownBlock)) (okp := (fun k_ => some k_ ≠ (.slice Ao41 t490.length co41 : Value).ownBlock)) ?hr ?hp (fun _ hk => hk) ((show ∀ k_, wr.heap.size ≤ k_ → (fun k_ => some k_ ≠ (.slice Ao41 t490.length co41 : Value).ownBlock) k_ from fun k_ hk => Kd.fresh' (Kd.N_lt (by (with_reducible repeat (first | apply Kd.N_alloc | apply Kd.N_drewN | apply Kd.N_drew)); exact HO_11.out)) k_ hk) _ (Nat.le_refl _)) (Below.refl _ _) (Nat.le_refl _) (by simp) ?_; (case hd => rfl); (case hg => rfl); (case hr => first | (go_simp; done) | (go_simp; rfl)); (case hp => exact (Reps.one (show Kd.FK (Kd.slice 5 (Kd.int .u8)) _ _ x20_5 [.slice Ao60 x20_5.length co60] from (Kd.FK_slice_mk (Kd.R_reads' (Kd.R_mono (ok' := (fun k_ => some k_ ≠ (.slice Ao41 t490.length co41 : Value).ownBlock)) (Kd.R_apart' (HO_20.out) (Kd.N_typed HO_11.out) (by decide)) (fun k_ hk => hk.2))).2.1 (Kd.R_F (Kd.R_mono (ok' := (fun k_ => some k_ ≠ (.slice Ao41 t490.length co41 : Value).ownBlock)) (Kd.R_apart' (HO_20.out) (Kd.N_typed HO_11.out) (by decide)) (fun k_ hk => hk.2))))) (Reps.none _ _))); intro v521 w61 ho62 hb hg_ hnew_; clear hg_ hnew_; (first | rw [← Ny520.out] at ho62 | (simp only [Int.reduceToNat] at ho62; rw [← Ny520.out] at ho62)); have n0_ := Aside0.mk (Kd.N_elder' (by (with_reducible repeat (first | apply Kd.N_alloc | apply Kd.N_drewN | apply Kd.N_drew)); exact HO_11.out) (Kd.N_base ho62) hb); have n1_ := Aside0.mk (Kd.N_lower ho62 (below_size (by repeat (first | (with_reducible first | exact HB.out | apply below_alloc | apply pw_below_drewN | apply below_drew1) | exact HB.out | exact Below.refl _ _)))); have n2_ := Aside0.mk (below_step (by repeat (first | (with_reducible first | exact HB.out | apply below_alloc | apply pw_below_drewN | apply below_drew1) | exact HB.out | exact Below.refl _ _)) hb); clear HO_11; clear HB; clear HO_20; have HO_11 := n0_; have HO522 := n1_; have HB := n2_; clear n0_ n1_ n2_; clear hb ho62; obtain ⟨Ao63, co63, eo63⟩ := Kd.N_slice HO522.out; subst eo63) | ((with_reducible refine gate_callee (f := 35) rfl ?_); refine goesL_ (some 128) rfl rfl Try.func35 (by kernel_rfl) rfl #[.slice Ao63 y520.length co63, .int .i64 ji34] rfl (by (try simp only [List.map_toArray, List.map_cons, List.map_nil]); first | done | (simp only [hji34]; rfl) | rfl | (simp only [List.length_drop, List.length_take]; rfl)) ?_; (with_reducible refine (replay_Join.calls k5 _ _ y520 ji34 t523 _ ?side1 ?side2 A57.out).mono ?_); (case side1 => repeat (first | exact (Kd.N_reads' HO522.out).2.2 | (with_reducible refine Kd.C_alloc ?_ _) | (with_reducible refine Kd.C_drewN ?_ _) | (with_reducible refine Kd.C_drew ?_))); (case side2 => exact (Kd.N_reads' HO522.out).2.1); rintro e w64 ⟨v524, rfl, ho0, hb⟩; refine ⟨_, rfl, ?_⟩; have n0_ := Aside0.mk (Kd.N_elder' (by (with_reducible repeat (first | apply Kd.N_alloc | apply Kd.N_drewN | apply Kd.N_drew)); exact HO_11.out) (by first | exact Kd.N_base ho0 | exact Kd.N_base (Kd.S_N ho0)) hb); have n1_ := Aside0.mk (Kd.N_elder' (by (with_reducible repeat (first | apply Kd.N_alloc | apply Kd.N_drewN | apply Kd.N_drew)); exact HO522.out) (by first | exact Kd.N_base ho0 | exact Kd.N_base (Kd.S_N ho0)) hb); have n2_ := Aside0.mk (Kd.N_lower (Kd.N_mono (ok' := fun k_ => some k_ ≠ (.slice Ao41 t490.length co41 : Value).ownBlock ∧ some k_ ≠ (.slice Ao63 y520.length co63 : Value).ownBlock) ho0 (fun k_ hk_ => ⟨(Kd.fresh' (Kd.N_lt (by (with_reducible repeat (first | apply Kd.N_alloc | apply Kd.N_drewN | apply Kd.N_drew)); exact HO_11.out)) k_ hk_), (Kd.fresh' (Kd.N_lt (by (with_reducible repeat (first | apply Kd.N_alloc | apply Kd.N_drewN | apply Kd.N_drew)); exact HO522.out)) k_ hk_)⟩)) (below_size (by repeat (first | (with_reducible first | exact HB.out | apply below_alloc | apply pw_below_drewN | apply below_drew1) | exact HB.out | exact Below.refl _ _)))); have n3_ := Aside0.mk (below_step (by repeat (first | (with_reducible first | exact HB.out | apply below_alloc | apply pw_below_drewN | apply below_drew1) | exact HB.out | exact Below.refl _ _)) hb); clear HO_11; clear HO522; clear HB; have HO_11 := n0_; have HO522 := n1_; have HO525 := n2_; have HB := n3_; clear n0_ n1_ n2_ n3_; (try clear hb); (try clear hb2); (try clear hk); (try clear hi); (try clear ho0); obtain ⟨Ao65, co65, eo65⟩ := Kd.N_slice HO525.out; subst eo65) | (go_at_call 28; (with_reducible refine (iceboxlaw9_awake.calls k5  t526 _ A59.out).mono ?_); rintro e w66 ⟨rfl, hb⟩; have n0_ := Aside0.mk (Kd.N_below (by (with_reducible repeat (first | apply Kd.N_alloc | apply Kd.N_drewN | apply Kd.N_drew)); exact HO_11.out) hb); have n1_ := Aside0.mk (Kd.N_below (by (with_reducible repeat (first | apply Kd.N_alloc | apply Kd.N_drewN | apply Kd.N_drew)); exact HO522.out) hb); have n2_ := Aside0.mk (Kd.N_below (by (with_reducible repeat (first | apply Kd.N_alloc | apply Kd.N_drewN | apply Kd.N_drew)); exact HO525.out) hb); have n3_ := Aside0.mk (below_step (by repeat (first | (with_reducible first | exact HB.out | apply below_alloc | apply pw_below_drewN | apply below_drew1) | exact HB.out | exact Below.refl _ _)) hb); clear HO_11; clear HO522; clear HO525; clear HB; have HO_11 := n0_; have HO522 := n1_; have HO525 := n2_; have HB := n3_; clear n0_ n1_ n2_ n3_; (try clear hb); (try clear hb2); (try clear hk); (try clear hi)))
                      go_ret
                      exact ⟨by first | rfl | (simp [errW_none, errW_some] <;> rfl) | (simp only [← hji34]; first | rfl | (simp [errW_none, errW_some] <;> rfl)) | (simp [*, errW_none, errW_some] <;> rfl), by repeat (first | (with_reducible first | exact HB.out | apply below_alloc | apply pw_below_drewN | apply below_drew1) | exact HB.out | exact Below.refl _ _)⟩
                     ·
                      rw [if_neg c58] at H
                      have c58b0 : ((t523.length : Int) == 0) = false := beq_eq_false_iff_ne.mpr c58
                      have c58b1 : ((t523.length : Int) != 0) = true := bne_iff_ne.mpr c58
                      have c58b2 : ¬ (t523 = []) := fun h_ => c58 (by rw [h_]; rfl)
                      exact absurd ((Option.some.inj H).trans hR_.out) (by decide)
                 ·
                  replace c49 := Bool.eq_false_iff.mpr c49
                  subst c49
                  have H1 : ((iceboxlaw9_awake.f kj39).bind fun t527 => (some t527)) = some r := by rw [if_neg (show ¬ (false = true) by decide)] at H; exact H
                  clear H
                  have H := H1
                  clear H1
                  replace H := Option.bind_eq_some_iff.mp H
                  obtain ⟨t527, A670, H⟩ := H
                  replace H : (some t527) = some r := H
                  have A67 := Aside0.mk A670
                  clear A670
                  obtain rfl := Option.some.inj H
                  go_wp2_with (first | ((with_reducible refine gate_callee (f := 28) rfl ?_); refine goesL_ (some 134) rfl rfl Try.func28 (by kernel_rfl) rfl #[] rfl (by (try simp only [List.map_toArray, List.map_cons, List.map_nil]); first | done | rfl | (simp only [List.length_drop, List.length_take]; rfl)) ?_; (with_reducible refine (iceboxlaw9_awake.calls kj39  t527 _ A67.out).mono ?_); rintro e w68 ⟨rfl, hb⟩; refine ⟨_, rfl, ?_⟩; have n0_ := Aside0.mk (Kd.N_below (by (with_reducible repeat (first | apply Kd.N_alloc | apply Kd.N_drewN | apply Kd.N_drew)); exact HO_11.out) hb); have n1_ := Aside0.mk (below_step (by repeat (first | (with_reducible first | exact HB.out | apply below_alloc | apply pw_below_drewN | apply below_drew1) | exact HB.out | exact Below.refl _ _)) hb); clear HO_11; clear HB; have HO_11 := n0_; have HB := n1_; clear n0_ n1_; (try clear hb); (try clear hb2); (try clear hk); (try clear hi)))
                  go_ret
                  exact ⟨by first | rfl | (simp [errW_none, errW_some] <;> rfl) | (simp only [← hji34]; first | rfl | (simp [errW_none, errW_some] <;> rfl)) | (simp [*, errW_none, errW_some] <;> rfl), by repeat (first | (with_reducible first | exact HB.out | apply below_alloc | apply pw_below_drewN | apply below_drew1) | exact HB.out | exact Below.refl _ _)⟩
             ·
              replace c39 := Bool.eq_false_iff.mpr c39
              subst c39
              have H1 : (some false) = some r := by rw [if_neg (show ¬ (false = true) by decide)] at H; exact H
              clear H
              have H := H1
              clear H1
              exact absurd ((Option.some.inj H).trans hR_.out) (by decide)
            ·
             rw [if_neg c37] at H
             exact absurd H (by simp)
           ·
            rw [if_neg c36] at H
            exact absurd H (by simp)

/-- THE ONE PURE STATEMENT of iceboxlaw9_ReplayJoins: yours. -/
def iceboxlaw9_ReplayJoins.Pure : Prop := ∀ (l0 : List Int) (l1 : List Int) (a2 : Int) (a3 : Int) (a4 : Bool), l0.length ≤ maxLen → l0.length * 1 ≤ 140737488351232 → (∀ x ∈ l0, (Lit.int .u8 x).wf = true) → l1.length ≤ maxLen → l1.length * 1 ≤ 140737488351232 → (∀ x ∈ l1, (Lit.int .u8 x).wf = true) → (Lit.int .u8 a2).wf = true → (Lit.int .u8 a3).wf = true → ∃ k, iceboxlaw9_ReplayJoins.f k l0 l1 a2 a3 a4 = some true
theorem iceboxlaw9_ReplayJoins.walk (P : iceboxlaw9_ReplayJoins.Pure) (a0 : Option Addr) (len0 cap0 : Nat) (z0 : List Int) (a1 : Option Addr) (len1 cap1 : Nat) (z1 : List Int) (a2 : Int) (a3 : Int) (a4 : Bool) (w : World) (w0 : (a0 = none ∧ len0 = 0 ∧ cap0 = 0 ∧ z0 = []) ∨ ∃ x, a0 = some x ∧ len0 ≤ cap0 ∧ cap0 ≤ maxLen ∧ z0.length = cap0 ∧ (∀ i, i < z0.length → w.cell? (x.add i) = some (.int .u8 (z0.getD i 0))) ∧ ∀ n ∈ z0, (Lit.int .u8 n).wf = true) (y0 : len0 * 1 ≤ 140737488351232) (w1 : (a1 = none ∧ len1 = 0 ∧ cap1 = 0 ∧ z1 = []) ∨ ∃ x, a1 = some x ∧ len1 ≤ cap1 ∧ cap1 ≤ maxLen ∧ z1.length = cap1 ∧ (∀ i, i < z1.length → w.cell? (x.add i) = some (.int .u8 (z1.getD i 0))) ∧ ∀ n ∈ z1, (Lit.int .u8 n).wf = true) (y1 : len1 * 1 ≤ 140737488351232) (w2 : (Lit.int .u8 a2).wf = true) (w3 : (Lit.int .u8 a3).wf = true) :
 Calls Try.prog 10 #[.slice a0 len0 cap0, .slice a1 len1 cap1, .int .u8 a2, .int .u8 a3, .bool a4] w fun e w' => e = .returned (.bool true) ∧ Below w.heap.size w w' := by
 obtain ⟨l0, rfl, hr0, hm0, hw0, hc0⟩ := ReadsInt.ofRowC w0
 obtain ⟨l1, rfl, hr1, hm1, hw1, hc1⟩ := ReadsInt.ofRowC w1
 obtain ⟨k, h⟩ := P l0 l1 a2 a3 a4 hm0 y0 hw0 hm1 y1 hw1 w2 w3
 refine (iceboxlaw9_ReplayJoins.calls k _ _ l0 _ _ l1 a2 a3 a4 true w ⟨rfl⟩ (Kd.C_of_reads (d := (0 : Int)) (h1 := fun _ => rfl) hr0) hc0 (Kd.C_of_reads (d := (0 : Int)) (h1 := fun _ => rfl) hr1) hc1 h).mono ?_
 rintro e w' ⟨rfl, hd⟩
 exact ⟨rfl, hd⟩

end Go.Proofs.Ytgannkfpfhdhjaa.PReplayJoins
