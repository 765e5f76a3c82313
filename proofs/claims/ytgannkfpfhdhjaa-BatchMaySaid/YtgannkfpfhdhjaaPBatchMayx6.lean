/- The functions that a law reaches, as Lean functions, each with the contract that its Go code comes to just these answers. Written by a program of this claim's author (wip/mkprint.py). No conditions. -/
import Derived.Test.YtgannkfpfhdhjaaPBatchMayx0
import Derived.Test.YtgannkfpfhdhjaaPBatchMayx3
import Derived.Test.YtgannkfpfhdhjaaPBatchMayx5
namespace Go.Proofs.Ytgannkfpfhdhjaa.PBatchMay
open Go.RowKit Go.Proofs.YtgannkfpfhdhjaaW.PrintWords Go.Proofs.YtgannkfpfhdhjaaW.PrintLast Go.Proofs.YtgannkfpfhdhjaaW.PrintMore
attribute [local go_sem] max2_int min2_int max_two min_two max_three min_three max_four min_four   -- for this text's walks alone
set_option linter.unusedVariables false
set_option linter.unusedSimpArgs false

/-! ### iceboxlaw8_BatchMay: function 4 -/
mutual
def iceboxlaw8_BatchMay.l0 : Nat → Int → Int → Int → Int → Int → List (S27) → Int → Option (Bool)
 | 0, _, _, _, _, _, _, _ => none
 | k + 1, x1, x2, x3, x4, x11, x12, x13 => if x13 < x11 then (if x12.length < 3518437208883 then (iceboxlaw8_BatchMay.l0 k x1 x2 x3 x4 x11 (x12 ++ [(⟨1, (⟨#[107]⟩ : ByteArray), (⟨#[118]⟩ : ByteArray)⟩ : S27)]) (wrap64 (x13 + 1))) else (none)) else ((batch_May.f k x12).bind fun t289 => ((iceboxlaw1_Num.f t289).bind fun t290 => (if x11 ≥ 1 then (if ((t290 == 0) != (decide (x11 ≤ 32))) = true then (iceboxlaw8_BatchMay.j1 k x1 x2 x3 x4 x11 x12 true) else (if x11 = 0 then ((iceboxlaw1_Num.f t289).bind fun t291 => (if t291 = 1 then (if x11 > 32 then ((iceboxlaw1_Num.f t289).bind fun t292 => (iceboxlaw8_BatchMay.j1 k x1 x2 x3 x4 x11 x12 (t292 != 4))) else (iceboxlaw8_BatchMay.j1 k x1 x2 x3 x4 x11 x12 false)) else (iceboxlaw8_BatchMay.j1 k x1 x2 x3 x4 x11 x12 true))) else (if x11 > 32 then ((iceboxlaw1_Num.f t289).bind fun t293 => (iceboxlaw8_BatchMay.j1 k x1 x2 x3 x4 x11 x12 (t293 != 4))) else (iceboxlaw8_BatchMay.j1 k x1 x2 x3 x4 x11 x12 false)))) else (if ((t290 == 0) != false) = true then (iceboxlaw8_BatchMay.j1 k x1 x2 x3 x4 x11 x12 true) else (if x11 = 0 then ((iceboxlaw1_Num.f t289).bind fun t294 => (if t294 = 1 then (if x11 > 32 then ((iceboxlaw1_Num.f t289).bind fun t295 => (iceboxlaw8_BatchMay.j1 k x1 x2 x3 x4 x11 x12 (t295 != 4))) else (iceboxlaw8_BatchMay.j1 k x1 x2 x3 x4 x11 x12 false)) else (iceboxlaw8_BatchMay.j1 k x1 x2 x3 x4 x11 x12 true))) else (if x11 > 32 then ((iceboxlaw1_Num.f t289).bind fun t296 => (iceboxlaw8_BatchMay.j1 k x1 x2 x3 x4 x11 x12 (t296 != 4))) else (iceboxlaw8_BatchMay.j1 k x1 x2 x3 x4 x11 x12 false)))))))
def iceboxlaw8_BatchMay.j1 : Nat → Int → Int → Int → Int → Int → List (S27) → Bool → Option (Bool)
 | 0, _, _, _, _, _, _, _ => none
 | k + 1, x1, x2, x3, x4, x11, x12, x59 => if x59 = true then (some false) else (if x11 = 0 then (iceboxlaw8_BatchMay.j2 k x1 x2 x3 x4 x11 x12 true) else (iceboxlaw8_BatchMay.j2 k x1 x2 x3 x4 x11 x12 (decide (x11 > 32))))
def iceboxlaw8_BatchMay.j2 : Nat → Int → Int → Int → Int → Int → List (S27) → Bool → Option (Bool)
 | 0, _, _, _, _, _, _, _ => none
 | k + 1, x1, x2, x3, x4, x11, x12, x65 => if x65 = true then ((iceboxlaw8_awake.f k).bind fun t297 => (some t297)) else (if x11 = 0 then (none) else (if 0 ≤ (Int.tmod (wrap64 (x1)) 80) then (if (Int.tmod (wrap64 (x1)) 80 : Int).toNat ≤ 281474976710656 then (if 0 ≤ (Int.tmod (wrap64 (x2)) 600) then (if (Int.tmod (wrap64 (x2)) 600 : Int).toNat ≤ 281474976710656 then (if 0 ≤ (Int.tmod (wrap64 (x4)) x11) then (if (Int.tmod (wrap64 (x4)) x11) < (x12.length : Int) then ((some (x12.set ((Int.tmod (wrap64 (x4)) x11) : Int).toNat (⟨Int.tmod (wrap64 (x3)) 4, strOfNums (List.replicate (Int.tmod (wrap64 (x1)) 80 : Int).toNat 0), strOfNums (List.replicate (Int.tmod (wrap64 (x2)) 600 : Int).toNat 0)⟩ : S27) : List (S27))).bind fun y304 => ((batch_May.f k y304).bind fun t305 => (if ((rd_T27 y304 (Int.tmod (wrap64 (x4)) x11)).f0) = 0 then (iceboxlaw8_BatchMay.j3 k y304 (Int.tmod (wrap64 (x4)) x11) t305 0 true) else (iceboxlaw8_BatchMay.j3 k y304 (Int.tmod (wrap64 (x4)) x11) t305 0 (((rd_T27 y304 (Int.tmod (wrap64 (x4)) x11)).f0) == 3))))) else (none)) else (none)) else (none)) else (none)) else (none)) else (none)))
def iceboxlaw8_BatchMay.j3 : Nat → List (S27) → Int → Int → Int → Bool → Option (Bool)
 | 0, _, _, _, _, _ => none
 | k + 1, x12, x15, x16, x17, x90 => if x90 = true then ((iceboxlaw1_Num.f x16).bind fun t308 => (if t308 = 1 then ((iceboxlaw8_awake.f k).bind fun t309 => (some t309)) else (some false))) else (if 0 ≤ x15 then (if x15 < (x12.length : Int) then (if (((rd_T27 x12 x15).f1).size : Int) > 64 then (iceboxlaw8_BatchMay.j4 k x12 x15 x16 x17 true) else (iceboxlaw8_BatchMay.j4 k x12 x15 x16 x17 (decide ((((rd_T27 x12 x15).f2).size : Int) > 512)))) else (none)) else (none))
def iceboxlaw8_BatchMay.j4 : Nat → List (S27) → Int → Int → Int → Bool → Option (Bool)
 | 0, _, _, _, _, _ => none
 | k + 1, x12, x15, x16, x17, x105 => if x105 = true then ((iceboxlaw1_Num.f x16).bind fun t312 => (if t312 = 4 then ((iceboxlaw8_awake.f k).bind fun t313 => (some t313)) else (some false))) else (if 0 ≤ x15 then (if x15 < (x12.length : Int) then (if ((rd_T27 x12 x15).f0) = 2 then (iceboxlaw8_BatchMay.j5 k x16 x17 (((rd_T27 x12 x15).f2).toList != ([] : List UInt8))) else (iceboxlaw8_BatchMay.j5 k x16 x17 false)) else (none)) else (none))
def iceboxlaw8_BatchMay.j5 : Nat → Int → Int → Bool → Option (Bool)
 | 0, _, _, _ => none
 | k + 1, x16, x17, x122 => if x122 = true then ((iceboxlaw1_Num.f x16).bind fun t316 => (if t316 = 1 then ((iceboxlaw8_awake.f k).bind fun t317 => (some t317)) else (some false))) else ((iceboxlaw1_Num.f x16).bind fun t318 => (if t318 = x17 then ((iceboxlaw8_awake.f k).bind fun t319 => (some t319)) else (some false)))
end
def iceboxlaw8_BatchMay.f (k : Nat) (a0 : Int) (a1 : Int) (a2 : Int) (a3 : Int) (a4 : Int) : Option (Bool) := iceboxlaw8_BatchMay.l0 k a1 a2 a3 a4 (Int.tmod (wrap64 (a0)) 40) ([] : List (S27)) 0
theorem iceboxlaw8_BatchMay.mono_l : ∀ k, (∀ y0 y1 y2 y3 y4 y5 y6, LeO (iceboxlaw8_BatchMay.l0 k y0 y1 y2 y3 y4 y5 y6) (iceboxlaw8_BatchMay.l0 (k + 1) y0 y1 y2 y3 y4 y5 y6)) ∧ (∀ y0 y1 y2 y3 y4 y5 y6, LeO (iceboxlaw8_BatchMay.j1 k y0 y1 y2 y3 y4 y5 y6) (iceboxlaw8_BatchMay.j1 (k + 1) y0 y1 y2 y3 y4 y5 y6)) ∧ (∀ y0 y1 y2 y3 y4 y5 y6, LeO (iceboxlaw8_BatchMay.j2 k y0 y1 y2 y3 y4 y5 y6) (iceboxlaw8_BatchMay.j2 (k + 1) y0 y1 y2 y3 y4 y5 y6)) ∧ (∀ y0 y1 y2 y3 y4, LeO (iceboxlaw8_BatchMay.j3 k y0 y1 y2 y3 y4) (iceboxlaw8_BatchMay.j3 (k + 1) y0 y1 y2 y3 y4)) ∧ (∀ y0 y1 y2 y3 y4, LeO (iceboxlaw8_BatchMay.j4 k y0 y1 y2 y3 y4) (iceboxlaw8_BatchMay.j4 (k + 1) y0 y1 y2 y3 y4)) ∧ (∀ y0 y1 y2, LeO (iceboxlaw8_BatchMay.j5 k y0 y1 y2) (iceboxlaw8_BatchMay.j5 (k + 1) y0 y1 y2))
 | 0 => ⟨fun _ _ _ _ _ _ _ r h => by simp [iceboxlaw8_BatchMay.l0] at h, fun _ _ _ _ _ _ _ r h => by simp [iceboxlaw8_BatchMay.j1] at h, fun _ _ _ _ _ _ _ r h => by simp [iceboxlaw8_BatchMay.j2] at h, fun _ _ _ _ _ r h => by simp [iceboxlaw8_BatchMay.j3] at h, fun _ _ _ _ _ r h => by simp [iceboxlaw8_BatchMay.j4] at h, fun _ _ _ r h => by simp [iceboxlaw8_BatchMay.j5] at h⟩
 | k + 1 => by
  obtain ⟨ih0, ih1, ih2, ih3, ih4, ih5⟩ := iceboxlaw8_BatchMay.mono_l k
  refine ⟨?_, ?_, ?_, ?_, ?_, ?_⟩
  ·
   intro y0 y1 y2 y3 y4 y5 y6
   unfold iceboxlaw8_BatchMay.l0
   repeat' first
   | (with_reducible exact ih0 _ _ _ _ _ _ _)
   | (with_reducible exact ih1 _ _ _ _ _ _ _)
   | (with_reducible exact ih2 _ _ _ _ _ _ _)
   | (with_reducible exact ih3 _ _ _ _ _)
   | (with_reducible exact ih4 _ _ _ _ _)
   | (with_reducible exact ih5 _ _ _)
   | (with_reducible exact batch_May.mono _ _)
   | (with_reducible exact iceboxlaw8_awake.mono _)
   | (with_reducible exact LeO.refl _)
   | (with_reducible exact LeO.none _)
   | (with_reducible refine LeO.ite ?_ ?_)
   | (with_reducible refine LeO.bind ?_ (fun _ => ?_))
   | exact ih0 _ _ _ _ _ _ _
   | exact ih1 _ _ _ _ _ _ _
   | exact ih2 _ _ _ _ _ _ _
   | exact ih3 _ _ _ _ _
   | exact ih4 _ _ _ _ _
   | exact ih5 _ _ _
   | exact batch_May.mono _ _
   | exact iceboxlaw8_awake.mono _
   | exact LeO.none _
   | refine LeO.ite ?_ ?_
   | refine LeO.bind ?_ (fun _ => ?_)
  ·
   intro y0 y1 y2 y3 y4 y5 y6
   unfold iceboxlaw8_BatchMay.j1
   repeat' first
   | (with_reducible exact ih0 _ _ _ _ _ _ _)
   | (with_reducible exact ih1 _ _ _ _ _ _ _)
   | (with_reducible exact ih2 _ _ _ _ _ _ _)
   | (with_reducible exact ih3 _ _ _ _ _)
   | (with_reducible exact ih4 _ _ _ _ _)
   | (with_reducible exact ih5 _ _ _)
   | (with_reducible exact batch_May.mono _ _)
   | (with_reducible exact iceboxlaw8_awake.mono _)
   | (with_reducible exact LeO.refl _)
   | (with_reducible exact LeO.none _)
   | (with_reducible refine LeO.ite ?_ ?_)
   | (with_reducible refine LeO.bind ?_ (fun _ => ?_))
   | exact ih0 _ _ _ _ _ _ _
   | exact ih1 _ _ _ _ _ _ _
   | exact ih2 _ _ _ _ _ _ _
   | exact ih3 _ _ _ _ _
   | exact ih4 _ _ _ _ _
   | exact ih5 _ _ _
   | exact batch_May.mono _ _
   | exact iceboxlaw8_awake.mono _
   | exact LeO.none _
   | refine LeO.ite ?_ ?_
   | refine LeO.bind ?_ (fun _ => ?_)
  ·
   intro y0 y1 y2 y3 y4 y5 y6
   unfold iceboxlaw8_BatchMay.j2
   repeat' first
   | (with_reducible exact ih0 _ _ _ _ _ _ _)
   | (with_reducible exact ih1 _ _ _ _ _ _ _)
   | (with_reducible exact ih2 _ _ _ _ _ _ _)
   | (with_reducible exact ih3 _ _ _ _ _)
   | (with_reducible exact ih4 _ _ _ _ _)
   | (with_reducible exact ih5 _ _ _)
   | (with_reducible exact batch_May.mono _ _)
   | (with_reducible exact iceboxlaw8_awake.mono _)
   | (with_reducible exact LeO.refl _)
   | (with_reducible exact LeO.none _)
   | (with_reducible refine LeO.ite ?_ ?_)
   | (with_reducible refine LeO.bind ?_ (fun _ => ?_))
   | exact ih0 _ _ _ _ _ _ _
   | exact ih1 _ _ _ _ _ _ _
   | exact ih2 _ _ _ _ _ _ _
   | exact ih3 _ _ _ _ _
   | exact ih4 _ _ _ _ _
   | exact ih5 _ _ _
   | exact batch_May.mono _ _
   | exact iceboxlaw8_awake.mono _
   | exact LeO.none _
   | refine LeO.ite ?_ ?_
   | refine LeO.bind ?_ (fun _ => ?_)
  ·
   intro y0 y1 y2 y3 y4
   unfold iceboxlaw8_BatchMay.j3
   repeat' first
   | (with_reducible exact ih0 _ _ _ _ _ _ _)
   | (with_reducible exact ih1 _ _ _ _ _ _ _)
   | (with_reducible exact ih2 _ _ _ _ _ _ _)
   | (with_reducible exact ih3 _ _ _ _ _)
   | (with_reducible exact ih4 _ _ _ _ _)
   | (with_reducible exact ih5 _ _ _)
   | (with_reducible exact batch_May.mono _ _)
   | (with_reducible exact iceboxlaw8_awake.mono _)
   | (with_reducible exact LeO.refl _)
   | (with_reducible exact LeO.none _)
   | (with_reducible refine LeO.ite ?_ ?_)
   | (with_reducible refine LeO.bind ?_ (fun _ => ?_))
   | exact ih0 _ _ _ _ _ _ _
   | exact ih1 _ _ _ _ _ _ _
   | exact ih2 _ _ _ _ _ _ _
   | exact ih3 _ _ _ _ _
   | exact ih4 _ _ _ _ _
   | exact ih5 _ _ _
   | exact batch_May.mono _ _
   | exact iceboxlaw8_awake.mono _
   | exact LeO.none _
   | refine LeO.ite ?_ ?_
   | refine LeO.bind ?_ (fun _ => ?_)
  ·
   intro y0 y1 y2 y3 y4
   unfold iceboxlaw8_BatchMay.j4
   repeat' first
   | (with_reducible exact ih0 _ _ _ _ _ _ _)
   | (with_reducible exact ih1 _ _ _ _ _ _ _)
   | (with_reducible exact ih2 _ _ _ _ _ _ _)
   | (with_reducible exact ih3 _ _ _ _ _)
   | (with_reducible exact ih4 _ _ _ _ _)
   | (with_reducible exact ih5 _ _ _)
   | (with_reducible exact batch_May.mono _ _)
   | (with_reducible exact iceboxlaw8_awake.mono _)
   | (with_reducible exact LeO.refl _)
   | (with_reducible exact LeO.none _)
   | (with_reducible refine LeO.ite ?_ ?_)
   | (with_reducible refine LeO.bind ?_ (fun _ => ?_))
   | exact ih0 _ _ _ _ _ _ _
   | exact ih1 _ _ _ _ _ _ _
   | exact ih2 _ _ _ _ _ _ _
   | exact ih3 _ _ _ _ _
   | exact ih4 _ _ _ _ _
   | exact ih5 _ _ _
   | exact batch_May.mono _ _
   | exact iceboxlaw8_awake.mono _
   | exact LeO.none _
   | refine LeO.ite ?_ ?_
   | refine LeO.bind ?_ (fun _ => ?_)
  ·
   intro y0 y1 y2
   unfold iceboxlaw8_BatchMay.j5
   repeat' first
   | (with_reducible exact ih0 _ _ _ _ _ _ _)
   | (with_reducible exact ih1 _ _ _ _ _ _ _)
   | (with_reducible exact ih2 _ _ _ _ _ _ _)
   | (with_reducible exact ih3 _ _ _ _ _)
   | (with_reducible exact ih4 _ _ _ _ _)
   | (with_reducible exact ih5 _ _ _)
   | (with_reducible exact batch_May.mono _ _)
   | (with_reducible exact iceboxlaw8_awake.mono _)
   | (with_reducible exact LeO.refl _)
   | (with_reducible exact LeO.none _)
   | (with_reducible refine LeO.ite ?_ ?_)
   | (with_reducible refine LeO.bind ?_ (fun _ => ?_))
   | exact ih0 _ _ _ _ _ _ _
   | exact ih1 _ _ _ _ _ _ _
   | exact ih2 _ _ _ _ _ _ _
   | exact ih3 _ _ _ _ _
   | exact ih4 _ _ _ _ _
   | exact ih5 _ _ _
   | exact batch_May.mono _ _
   | exact iceboxlaw8_awake.mono _
   | exact LeO.none _
   | refine LeO.ite ?_ ?_
   | refine LeO.bind ?_ (fun _ => ?_)
theorem iceboxlaw8_BatchMay.mono : ∀ a0 a1 a2 a3 a4 k, LeO (iceboxlaw8_BatchMay.f k a0 a1 a2 a3 a4) (iceboxlaw8_BatchMay.f (k + 1) a0 a1 a2 a3 a4) := by
 intro a0 a1 a2 a3 a4 k
 obtain ⟨ih0, ih1, ih2, ih3, ih4, ih5⟩ := iceboxlaw8_BatchMay.mono_l k
 unfold iceboxlaw8_BatchMay.f
 repeat' first
  | (with_reducible exact ih0 _ _ _ _ _ _ _)
  | (with_reducible exact ih1 _ _ _ _ _ _ _)
  | (with_reducible exact ih2 _ _ _ _ _ _ _)
  | (with_reducible exact ih3 _ _ _ _ _)
  | (with_reducible exact ih4 _ _ _ _ _)
  | (with_reducible exact ih5 _ _ _)
  | (with_reducible exact batch_May.mono _ _)
  | (with_reducible exact iceboxlaw8_awake.mono _)
  | (with_reducible exact LeO.refl _)
  | (with_reducible exact LeO.none _)
  | (with_reducible refine LeO.ite ?_ ?_)
  | (with_reducible refine LeO.bind ?_ (fun _ => ?_))
  | exact ih0 _ _ _ _ _ _ _
  | exact ih1 _ _ _ _ _ _ _
  | exact ih2 _ _ _ _ _ _ _
  | exact ih3 _ _ _ _ _
  | exact ih4 _ _ _ _ _
  | exact ih5 _ _ _
  | exact batch_May.mono _ _
  | exact iceboxlaw8_awake.mono _
  | exact LeO.none _
  | refine LeO.ite ?_ ?_
  | refine LeO.bind ?_ (fun _ => ?_)
def iceboxlaw8_BatchMay.T13 : Bool × List (List Nat × List Nat) := (true, [([], []), ([], []), ([], []), ([2], [2]), ([3], [3]), ([], []), ([5], [5]), ([6], [6]), ([7, 7], [7]), ([8], [8]), ([], []), ([10], [10]), ([11], [11]), ([12, 12], [12]), ([13], [13]), ([4, 9, 14], [4, 9, 14]), ([0, 1, 0, 1, 2, 3, 4, 5, 6, 7, 8, 9, 10, 11, 12, 13, 14, 15], [0, 1]), ([16, 15, 0, 1, 2, 3, 4, 5, 6, 7, 8, 9, 10, 11, 12, 13, 14, 15], [15, 16])])
def iceboxlaw8_BatchMay.B13 : List Nat := [0, 0, 0, 4, 12, 0, 32, 96, 224, 480, 0, 1024, 3072, 7168, 15360, 32764, 65535, 131071]
theorem iceboxlaw8_BatchMay.tab13 : rtab .any (opsOf Try.f4 13) = iceboxlaw8_BatchMay.T13 := by kernel_rfl
theorem iceboxlaw8_BatchMay.bits13 : waitsOk iceboxlaw8_BatchMay.T13.2 iceboxlaw8_BatchMay.B13 = true := by kernel_rfl
set_option maxHeartbeats 80000000 in
set_option maxRecDepth 100000 in
theorem iceboxlaw8_BatchMay.calls (k : Nat) (a0 : Int) (a1 : Int) (a2 : Int) (a3 : Int) (a4 : Int) (r : Bool) (w : World) (hR_ : Aside0 (r = true)) (h : iceboxlaw8_BatchMay.f k a0 a1 a2 a3 a4 = some r) :
 Calls Try.prog 4 #[.int .u8 a0, .int .u8 a1, .int .u16 a2, .int .u8 a3, .int .u8 a4] w fun e w' => e = .returned (.bool r) ∧ Below w.heap.size w w' := by
 have hu27 := Try.underlying27
 have HB := Aside0.mk (Below.refl w.heap.size w)
 have H : (iceboxlaw8_BatchMay.l0 k a1 a2 a3 a4 (Int.tmod (wrap64 (a0)) 40) ([] : List (S27)) 0) = some r := h
 clear h
 have H' := Aside0.mk H
 clear H
 go_enter Try.func4, Try.ntmps4
 go_wp2
 go_loopg [12, 13] k (fun kq v12 v13 w' => ∃ (x12_1 : List (S27)) (x13_1 : Int), v13 = .int .i64 x13_1 ∧ Aside0 (iceboxlaw8_BatchMay.l0 kq a1 a2 a3 a4 (Int.tmod (wrap64 (a0)) 40) x12_1 x13_1 = some r) ∧ Aside0 (kq ≤ k) ∧ Aside0 (Kd.R k27 27 w' w.heap.size (fun _ => True) v12 x12_1) ∧ Aside0 (Below w.heap.size w w'))
 case atStart => exact ⟨(([] : List (S27))), (0), (by first | rfl | (simp; done) | (simp [*]; done)), H', ⟨Nat.le_refl _⟩, ⟨by first | exact Kd.R_nil _ _ _ _ _ | exact Kd.N_nil _ _ _ _ _ | exact Kd.V_nil _ _ _ _ _ | exact Kd.Q_nil _ _ _ _ _ | exact Kd.S_nil _ _ _ _ _⟩, ⟨by repeat (first | (with_reducible first | exact HB.out | apply below_alloc | apply pw_below_drewN | apply below_drew1) | exact HB.out | exact Below.refl _ _)⟩⟩
 case round =>
  clear H'
  obtain ⟨x12_1, x13_1, rfl, HA, HK1, HO_12, HB⟩ := hrel
  cases gk with
  | zero => exact absurd HA.out (by simp [iceboxlaw8_BatchMay.l0])
  | succ k1 =>
   have H := HA.out
   clear HA
   simp only [iceboxlaw8_BatchMay.l0] at H
   by_cases c6 : x13_1 < (Int.tmod (wrap64 (a0)) 40)
   ·
    rw [if_pos c6] at H
    have c6b0 : decide (x13_1 < (Int.tmod (wrap64 (a0)) 40)) = true := decide_eq_true c6
    clear c6
    by_cases c7 : x12_1.length < 3518437208883
    ·
     rw [if_pos c7] at H
     have LMc7 := Aside0.mk c7
     clear c7
     obtain ⟨y286, hy286⟩ : ∃ y_ : List (S27), y_ = (x12_1 ++ [(⟨1, (⟨#[107]⟩ : ByteArray), (⟨#[118]⟩ : ByteArray)⟩ : S27)]) := ⟨_, rfl⟩
     replace H : (iceboxlaw8_BatchMay.l0 k1 a1 a2 a3 a4 (Int.tmod (wrap64 (a0)) 40) y286 (wrap64 (x13_1 + 1))) = some r := by first | (rw [hy286]; with_reducible exact H) | (have H2_ := (Option.bind_some _ _).symm.trans H; rw [hy286]; with_reducible exact H2_) | (have H2_ := (Option.bind_some _ _).symm.trans H; with_reducible exact H2_) | with_reducible exact H | (rw [hy286]; exact H) | exact H
     have Ny286 := Aside0.mk hy286
     clear hy286
     have H' := Aside0.mk H
     clear H
     go_wp2_with (first | ((with_reducible refine gate_builtin (b := .append) (xs := #[.tmp 26, .tmp 28]) rfl ?_); (try (refine gate_guard (by rfl) ?_; dsimp only)); at_builtin; refine Kd.R_append k27 (w0 := w) w.heap.size rfl (.tmp 26) (.tmp 28) 22 27 (.agg #[(.int .i64 0), (.string ⟨#[]⟩), (.string ⟨#[]⟩)]) 40 rfl Try.underlying22 info27 rfl (by decide) (by omega) u12 x12_1 (⟨1, (⟨#[107]⟩ : ByteArray), (⟨#[118]⟩ : ByteArray)⟩ : S27) [.int .i64 1, .string (⟨#[107]⟩ : ByteArray), .string (⟨#[118]⟩ : ByteArray)] (fun _ => True) (fun _ => False) rfl rfl ?aP (fun _ hk => hk.elim) ?aF ?aO ?aB ?aS ?aL ?_; (case aP => exact k27_mkM _ _ _ (⟨1, (⟨#[107]⟩ : ByteArray), (⟨#[118]⟩ : ByteArray)⟩ : S27)); (case aB => exact (by repeat (first | (with_reducible first | exact HB.out | apply below_alloc | apply pw_below_drewN | apply below_drew1) | exact HB.out | exact Below.refl _ _))); (case aF => exact (fun _ _ => trivial)); (case aO => exact (by (with_reducible repeat (first | apply Kd.R_alloc | apply Kd.R_drewN | apply Kd.R_drew)); exact HO_12.out)); (case aS => exact (below_size (by repeat (first | (with_reducible first | exact HB.out | apply below_alloc | apply pw_below_drewN | apply below_drew1) | exact HB.out | exact Below.refl _ _)))); (case aL => have := LMc7.out; omega); intro v287 w8 ho hb hg hat; rw [← Ny286.out] at ho; have n0_ := Aside0.mk (hb); have n1_ := Aside0.mk (ho); clear HB; clear HO_12; have HB := n0_; have HO288 := n1_; clear n0_ n1_; clear ho hb hg hat))
     go_roundg k1
     case measure => have := HK1.out; omega
     case rel => exact ⟨(y286), (wrap64 (x13_1 + 1)), (by first | rfl | (simp; done) | (simp [*]; done)), H', ⟨by have := HK1.out; omega⟩, ⟨by (with_reducible repeat (first | apply Kd.R_alloc | apply Kd.R_drewN | apply Kd.R_drew)); exact HO288.out⟩, ⟨by repeat (first | (with_reducible first | exact HB.out | apply below_alloc | apply pw_below_drewN | apply below_drew1) | exact HB.out | exact Below.refl _ _)⟩⟩
    ·
     rw [if_neg c7] at H
     exact absurd H (by simp)
   ·
    rw [if_neg c6] at H
    have c6b0 : decide (x13_1 < (Int.tmod (wrap64 (a0)) 40)) = false := decide_eq_false c6
    clear c6
    replace H := Option.bind_eq_some_iff.mp H
    obtain ⟨t289, A90, H⟩ := H
    replace H : ((iceboxlaw1_Num.f t289).bind fun t290 => (if (Int.tmod (wrap64 (a0)) 40) ≥ 1 then (if ((t290 == 0) != (decide ((Int.tmod (wrap64 (a0)) 40) ≤ 32))) = true then (iceboxlaw8_BatchMay.j1 k1 a1 a2 a3 a4 (Int.tmod (wrap64 (a0)) 40) x12_1 true) else (if (Int.tmod (wrap64 (a0)) 40) = 0 then ((iceboxlaw1_Num.f t289).bind fun t291 => (if t291 = 1 then (if (Int.tmod (wrap64 (a0)) 40) > 32 then ((iceboxlaw1_Num.f t289).bind fun t292 => (iceboxlaw8_BatchMay.j1 k1 a1 a2 a3 a4 (Int.tmod (wrap64 (a0)) 40) x12_1 (t292 != 4))) else (iceboxlaw8_BatchMay.j1 k1 a1 a2 a3 a4 (Int.tmod (wrap64 (a0)) 40) x12_1 false)) else (iceboxlaw8_BatchMay.j1 k1 a1 a2 a3 a4 (Int.tmod (wrap64 (a0)) 40) x12_1 true))) else (if (Int.tmod (wrap64 (a0)) 40) > 32 then ((iceboxlaw1_Num.f t289).bind fun t293 => (iceboxlaw8_BatchMay.j1 k1 a1 a2 a3 a4 (Int.tmod (wrap64 (a0)) 40) x12_1 (t293 != 4))) else (iceboxlaw8_BatchMay.j1 k1 a1 a2 a3 a4 (Int.tmod (wrap64 (a0)) 40) x12_1 false)))) else (if ((t290 == 0) != false) = true then (iceboxlaw8_BatchMay.j1 k1 a1 a2 a3 a4 (Int.tmod (wrap64 (a0)) 40) x12_1 true) else (if (Int.tmod (wrap64 (a0)) 40) = 0 then ((iceboxlaw1_Num.f t289).bind fun t294 => (if t294 = 1 then (if (Int.tmod (wrap64 (a0)) 40) > 32 then ((iceboxlaw1_Num.f t289).bind fun t295 => (iceboxlaw8_BatchMay.j1 k1 a1 a2 a3 a4 (Int.tmod (wrap64 (a0)) 40) x12_1 (t295 != 4))) else (iceboxlaw8_BatchMay.j1 k1 a1 a2 a3 a4 (Int.tmod (wrap64 (a0)) 40) x12_1 false)) else (iceboxlaw8_BatchMay.j1 k1 a1 a2 a3 a4 (Int.tmod (wrap64 (a0)) 40) x12_1 true))) else (if (Int.tmod (wrap64 (a0)) 40) > 32 then ((iceboxlaw1_Num.f t289).bind fun t296 => (iceboxlaw8_BatchMay.j1 k1 a1 a2 a3 a4 (Int.tmod (wrap64 (a0)) 40) x12_1 (t296 != 4))) else (iceboxlaw8_BatchMay.j1 k1 a1 a2 a3 a4 (Int.tmod (wrap64 (a0)) 40) x12_1 false)))))) = some r := H
    have A9 := Aside0.mk A90
    clear A90
    have HC10 := Aside0.mk H
    clear H
    obtain ⟨Ao11, co11, eo11⟩ := Kd.R_slice HO_12.out
    subst eo11
    go_upto_region 8 with (first | ((with_reducible refine gate_callee (f := 16) rfl ?_); refine goesL_ (some 31) rfl rfl Try.func16 (by kernel_rfl) rfl #[.slice Ao11 x12_1.length co11] rfl (by (try simp only [List.map_toArray, List.map_cons, List.map_nil]); first | done | rfl | (simp only [List.length_drop, List.length_take]; rfl)) ?_; (with_reducible refine (batch_May.calls k1 _ _ x12_1 t289 _ ?side1 ?side2 A9.out).mono ?_); (case side1 => repeat (first | exact (Kd.R_reads' HO_12.out).2.2 | (with_reducible refine Kd.C_alloc ?_ _) | (with_reducible refine Kd.C_drewN ?_ _) | (with_reducible refine Kd.C_drew ?_))); (case side2 => exact (Kd.R_reads' HO_12.out).2.1); rintro e w12 ⟨rfl, hb⟩; refine ⟨_, rfl, ?_⟩; have n0_ := Aside0.mk (Kd.R_below (by (with_reducible repeat (first | apply Kd.R_alloc | apply Kd.R_drewN | apply Kd.R_drew)); exact HO_12.out) hb); have n1_ := Aside0.mk (below_step (by repeat (first | (with_reducible first | exact HB.out | apply below_alloc | apply pw_below_drewN | apply below_drew1) | exact HB.out | exact Below.refl _ _)) hb); clear HO_12; clear HB; have HO_12 := n0_; have HB := n1_; clear n0_ n1_; (try clear hb); (try clear hb2); (try clear hk); (try clear hi)))
    (try simp only [Act.put, List.setIfInBounds_toArray, List.set_cons_zero, List.set_cons_succ])
    go_cut [59] (fun v59 wc => ∃ (kq : Nat) (x59_9 : Bool), v59 = .bool x59_9 ∧ Aside0 (iceboxlaw8_BatchMay.j1 kq a1 a2 a3 a4 (Int.tmod (wrap64 (a0)) 40) x12_1 x59_9 = some r) ∧ Aside0 (kq ≤ k1) ∧ Aside0 (Kd.R k27 27 wc w.heap.size (fun _ => True) (.slice Ao11 x12_1.length co11) x12_1) ∧ Aside0 (Below w.heap.size w wc))
    case first =>
     have H := HC10.out
     clear HC10
     replace H := Option.bind_eq_some_iff.mp H
     obtain ⟨t290, A130, H⟩ := H
     replace H : (if (Int.tmod (wrap64 (a0)) 40) ≥ 1 then (if ((t290 == 0) != (decide ((Int.tmod (wrap64 (a0)) 40) ≤ 32))) = true then (iceboxlaw8_BatchMay.j1 k1 a1 a2 a3 a4 (Int.tmod (wrap64 (a0)) 40) x12_1 true) else (if (Int.tmod (wrap64 (a0)) 40) = 0 then ((iceboxlaw1_Num.f t289).bind fun t291 => (if t291 = 1 then (if (Int.tmod (wrap64 (a0)) 40) > 32 then ((iceboxlaw1_Num.f t289).bind fun t292 => (iceboxlaw8_BatchMay.j1 k1 a1 a2 a3 a4 (Int.tmod (wrap64 (a0)) 40) x12_1 (t292 != 4))) else (iceboxlaw8_BatchMay.j1 k1 a1 a2 a3 a4 (Int.tmod (wrap64 (a0)) 40) x12_1 false)) else (iceboxlaw8_BatchMay.j1 k1 a1 a2 a3 a4 (Int.tmod (wrap64 (a0)) 40) x12_1 true))) else (if (Int.tmod (wrap64 (a0)) 40) > 32 then ((iceboxlaw1_Num.f t289).bind fun t293 => (iceboxlaw8_BatchMay.j1 k1 a1 a2 a3 a4 (Int.tmod (wrap64 (a0)) 40) x12_1 (t293 != 4))) else (iceboxlaw8_BatchMay.j1 k1 a1 a2 a3 a4 (Int.tmod (wrap64 (a0)) 40) x12_1 false)))) else (if ((t290 == 0) != false) = true then (iceboxlaw8_BatchMay.j1 k1 a1 a2 a3 a4 (Int.tmod (wrap64 (a0)) 40) x12_1 true) else (if (Int.tmod (wrap64 (a0)) 40) = 0 then ((iceboxlaw1_Num.f t289).bind fun t294 => (if t294 = 1 then (if (Int.tmod (wrap64 (a0)) 40) > 32 then ((iceboxlaw1_Num.f t289).bind fun t295 => (iceboxlaw8_BatchMay.j1 k1 a1 a2 a3 a4 (Int.tmod (wrap64 (a0)) 40) x12_1 (t295 != 4))) else (iceboxlaw8_BatchMay.j1 k1 a1 a2 a3 a4 (Int.tmod (wrap64 (a0)) 40) x12_1 false)) else (iceboxlaw8_BatchMay.j1 k1 a1 a2 a3 a4 (Int.tmod (wrap64 (a0)) 40) x12_1 true))) else (if (Int.tmod (wrap64 (a0)) 40) > 32 then ((iceboxlaw1_Num.f t289).bind fun t296 => (iceboxlaw8_BatchMay.j1 k1 a1 a2 a3 a4 (Int.tmod (wrap64 (a0)) 40) x12_1 (t296 != 4))) else (iceboxlaw8_BatchMay.j1 k1 a1 a2 a3 a4 (Int.tmod (wrap64 (a0)) 40) x12_1 false))))) = some r := H
     have A13 := Aside0.mk A130
     clear A130
     by_cases c14 : (Int.tmod (wrap64 (a0)) 40) ≥ 1
     ·
      rw [if_pos c14] at H
      have c14b0 : decide (1 ≤ (Int.tmod (wrap64 (a0)) 40)) = true := decide_eq_true c14
      clear c14
      (first | rw [c14b0] | (simp only [i64_w, i32_w]; rw [c14b0]) | skip)
      by_cases c15 : ((t290 == 0) != (decide ((Int.tmod (wrap64 (a0)) 40) ≤ 32))) = true
      ·
       rw [if_pos c15] at H
       have c15b0 : ((t290 == 0) != (decide ((Int.tmod (wrap64 (a0)) 40) ≤ 32))) = true := c15
       (try (have c15b1 : decide ((t290 == 0) = (decide ((Int.tmod (wrap64 (a0)) 40) ≤ 32))) = false := by simpa using c15))
       (try (have c15b2 : ((t290 == 0) == (decide ((Int.tmod (wrap64 (a0)) 40) ≤ 32))) = false := by simpa using c15))
       (try (have c15b3 : ¬ ((t290 == 0) = (decide ((Int.tmod (wrap64 (a0)) 40) ≤ 32))) := by simpa using c15))
       clear c15
       have H' := Aside0.mk H
       clear H
       go_wp2_with (first | ((with_reducible refine gate_callee (f := 17) rfl ?_); refine goesL_ (some 33) rfl rfl Try.func17 (by kernel_rfl) rfl #[.int .i64 t289] rfl (by (try simp only [List.map_toArray, List.map_cons, List.map_nil]); first | done | rfl | (simp only [List.length_drop, List.length_take]; rfl)) ?_; (with_reducible refine (iceboxlaw1_Num.calls t289 t290 _ A13.out).mono ?_); rintro e w' ⟨rfl, ⟨nd, rfl⟩⟩; refine ⟨_, rfl, ?_⟩))
       go_meet
       case rel => exact ⟨_, (true), (by first | rfl | (simp; done) | (simp [*]; done)), H', ⟨by have := HK1.out; first | omega | exact Nat.le_refl _⟩, ⟨by (with_reducible repeat (first | apply Kd.R_alloc | apply Kd.R_drewN | apply Kd.R_drew)); exact HO_12.out⟩, ⟨by repeat (first | (with_reducible first | exact HB.out | apply below_alloc | apply pw_below_drewN | apply below_drew1) | exact HB.out | exact Below.refl _ _)⟩⟩
      ·
       rw [if_neg c15] at H
       have c15b0 : ((t290 == 0) != (decide ((Int.tmod (wrap64 (a0)) 40) ≤ 32))) = false := by simpa using c15
       (try (have c15b1 : decide ((t290 == 0) = (decide ((Int.tmod (wrap64 (a0)) 40) ≤ 32))) = true := by simpa using c15))
       (try (have c15b2 : ((t290 == 0) == (decide ((Int.tmod (wrap64 (a0)) 40) ≤ 32))) = true := by simpa using c15))
       clear c15
       by_cases c16 : (Int.tmod (wrap64 (a0)) 40) = 0
       ·
        rw [if_pos c16] at H
        have c16b0 : ((Int.tmod (wrap64 (a0)) 40) == 0) = true := beq_iff_eq.mpr c16
        have c16b1 : ((Int.tmod (wrap64 (a0)) 40) != 0) = false := bne_eq_false_iff_eq.mpr c16
        clear c16
        replace H := Option.bind_eq_some_iff.mp H
        obtain ⟨t291, A170, H⟩ := H
        replace H : (if t291 = 1 then (if (Int.tmod (wrap64 (a0)) 40) > 32 then ((iceboxlaw1_Num.f t289).bind fun t292 => (iceboxlaw8_BatchMay.j1 k1 a1 a2 a3 a4 (Int.tmod (wrap64 (a0)) 40) x12_1 (t292 != 4))) else (iceboxlaw8_BatchMay.j1 k1 a1 a2 a3 a4 (Int.tmod (wrap64 (a0)) 40) x12_1 false)) else (iceboxlaw8_BatchMay.j1 k1 a1 a2 a3 a4 (Int.tmod (wrap64 (a0)) 40) x12_1 true)) = some r := H
        have A17 := Aside0.mk A170
        clear A170
        by_cases c18 : t291 = 1
        ·
         rw [if_pos c18] at H
         have c18b0 : (t291 == 1) = true := beq_iff_eq.mpr c18
         have c18b1 : (t291 != 1) = false := bne_eq_false_iff_eq.mpr c18
         clear c18
         by_cases c19 : (Int.tmod (wrap64 (a0)) 40) > 32
         ·
          rw [if_pos c19] at H
          have c19b0 : decide (32 < (Int.tmod (wrap64 (a0)) 40)) = true := decide_eq_true c19
          clear c19
          replace H := Option.bind_eq_some_iff.mp H
          obtain ⟨t292, A200, H⟩ := H
          replace H : (iceboxlaw8_BatchMay.j1 k1 a1 a2 a3 a4 (Int.tmod (wrap64 (a0)) 40) x12_1 (t292 != 4)) = some r := H
          have A20 := Aside0.mk A200
          clear A200
          have H' := Aside0.mk H
          clear H
          go_wp2_with (first | ((with_reducible refine gate_callee (f := 17) rfl ?_); refine goesL_ (some 33) rfl rfl Try.func17 (by kernel_rfl) rfl #[.int .i64 t289] rfl (by (try simp only [List.map_toArray, List.map_cons, List.map_nil]); first | done | rfl | (simp only [List.length_drop, List.length_take]; rfl)) ?_; (with_reducible refine (iceboxlaw1_Num.calls t289 t290 _ A13.out).mono ?_); rintro e w' ⟨rfl, ⟨nd, rfl⟩⟩; refine ⟨_, rfl, ?_⟩) | (go_at_call 17; (with_reducible refine (iceboxlaw1_Num.calls t289 t291 _ A17.out).mono ?_); rintro e w' ⟨rfl, ⟨nd, rfl⟩⟩) | (go_at_call 17; (with_reducible refine (iceboxlaw1_Num.calls t289 t292 _ A20.out).mono ?_); rintro e w' ⟨rfl, ⟨nd, rfl⟩⟩))
          go_meet
          case rel => exact ⟨_, ((t292 != 4)), (by first | rfl | (rw [Option.some.inj (A13.out.symm.trans A20.out)]; done) | (rw [Option.some.inj (A17.out.symm.trans A20.out)]; done) | (simp; done) | (simp [*]; done)), H', ⟨by have := HK1.out; first | omega | exact Nat.le_refl _⟩, ⟨by (with_reducible repeat (first | apply Kd.R_alloc | apply Kd.R_drewN | apply Kd.R_drew)); exact HO_12.out⟩, ⟨by repeat (first | (with_reducible first | exact HB.out | apply below_alloc | apply pw_below_drewN | apply below_drew1) | exact HB.out | exact Below.refl _ _)⟩⟩
         ·
          rw [if_neg c19] at H
          have c19b0 : decide (32 < (Int.tmod (wrap64 (a0)) 40)) = false := decide_eq_false c19
          clear c19
          have H' := Aside0.mk H
          clear H
          go_wp2_with (first | ((with_reducible refine gate_callee (f := 17) rfl ?_); refine goesL_ (some 33) rfl rfl Try.func17 (by kernel_rfl) rfl #[.int .i64 t289] rfl (by (try simp only [List.map_toArray, List.map_cons, List.map_nil]); first | done | rfl | (simp only [List.length_drop, List.length_take]; rfl)) ?_; (with_reducible refine (iceboxlaw1_Num.calls t289 t290 _ A13.out).mono ?_); rintro e w' ⟨rfl, ⟨nd, rfl⟩⟩; refine ⟨_, rfl, ?_⟩) | (go_at_call 17; (with_reducible refine (iceboxlaw1_Num.calls t289 t291 _ A17.out).mono ?_); rintro e w' ⟨rfl, ⟨nd, rfl⟩⟩))
          go_meet
          case rel => exact ⟨_, (false), (by first | rfl | (simp; done) | (simp [*]; done)), H', ⟨by have := HK1.out; first | omega | exact Nat.le_refl _⟩, ⟨by (with_reducible repeat (first | apply Kd.R_alloc | apply Kd.R_drewN | apply Kd.R_drew)); exact HO_12.out⟩, ⟨by repeat (first | (with_reducible first | exact HB.out | apply below_alloc | apply pw_below_drewN | apply below_drew1) | exact HB.out | exact Below.refl _ _)⟩⟩
        ·
         rw [if_neg c18] at H
         have c18b0 : (t291 == 1) = false := beq_eq_false_iff_ne.mpr c18
         have c18b1 : (t291 != 1) = true := bne_iff_ne.mpr c18
         have H' := Aside0.mk H
         clear H
         go_wp2_with (first | ((with_reducible refine gate_callee (f := 17) rfl ?_); refine goesL_ (some 33) rfl rfl Try.func17 (by kernel_rfl) rfl #[.int .i64 t289] rfl (by (try simp only [List.map_toArray, List.map_cons, List.map_nil]); first | done | rfl | (simp only [List.length_drop, List.length_take]; rfl)) ?_; (with_reducible refine (iceboxlaw1_Num.calls t289 t290 _ A13.out).mono ?_); rintro e w' ⟨rfl, ⟨nd, rfl⟩⟩; refine ⟨_, rfl, ?_⟩) | (go_at_call 17; (with_reducible refine (iceboxlaw1_Num.calls t289 t291 _ A17.out).mono ?_); rintro e w' ⟨rfl, ⟨nd, rfl⟩⟩))
         go_meet
         case rel => exact ⟨_, (true), (by first | rfl | (simp; done) | (simp [*]; done)), H', ⟨by have := HK1.out; first | omega | exact Nat.le_refl _⟩, ⟨by (with_reducible repeat (first | apply Kd.R_alloc | apply Kd.R_drewN | apply Kd.R_drew)); exact HO_12.out⟩, ⟨by repeat (first | (with_reducible first | exact HB.out | apply below_alloc | apply pw_below_drewN | apply below_drew1) | exact HB.out | exact Below.refl _ _)⟩⟩
       ·
        rw [if_neg c16] at H
        have c16b0 : ((Int.tmod (wrap64 (a0)) 40) == 0) = false := beq_eq_false_iff_ne.mpr c16
        have c16b1 : ((Int.tmod (wrap64 (a0)) 40) != 0) = true := bne_iff_ne.mpr c16
        by_cases c21 : (Int.tmod (wrap64 (a0)) 40) > 32
        ·
         rw [if_pos c21] at H
         have c21b0 : decide (32 < (Int.tmod (wrap64 (a0)) 40)) = true := decide_eq_true c21
         clear c21
         replace H := Option.bind_eq_some_iff.mp H
         obtain ⟨t293, A220, H⟩ := H
         replace H : (iceboxlaw8_BatchMay.j1 k1 a1 a2 a3 a4 (Int.tmod (wrap64 (a0)) 40) x12_1 (t293 != 4)) = some r := H
         have A22 := Aside0.mk A220
         clear A220
         have H' := Aside0.mk H
         clear H
         go_wp2_with (first | ((with_reducible refine gate_callee (f := 17) rfl ?_); refine goesL_ (some 33) rfl rfl Try.func17 (by kernel_rfl) rfl #[.int .i64 t289] rfl (by (try simp only [List.map_toArray, List.map_cons, List.map_nil]); first | done | rfl | (simp only [List.length_drop, List.length_take]; rfl)) ?_; (with_reducible refine (iceboxlaw1_Num.calls t289 t290 _ A13.out).mono ?_); rintro e w' ⟨rfl, ⟨nd, rfl⟩⟩; refine ⟨_, rfl, ?_⟩) | (go_at_call 17; (with_reducible refine (iceboxlaw1_Num.calls t289 t293 _ A22.out).mono ?_); rintro e w' ⟨rfl, ⟨nd, rfl⟩⟩))
         go_meet
         case rel => exact ⟨_, ((t293 != 4)), (by first | rfl | (rw [Option.some.inj (A13.out.symm.trans A22.out)]; done) | (simp; done) | (simp [*]; done)), H', ⟨by have := HK1.out; first | omega | exact Nat.le_refl _⟩, ⟨by (with_reducible repeat (first | apply Kd.R_alloc | apply Kd.R_drewN | apply Kd.R_drew)); exact HO_12.out⟩, ⟨by repeat (first | (with_reducible first | exact HB.out | apply below_alloc | apply pw_below_drewN | apply below_drew1) | exact HB.out | exact Below.refl _ _)⟩⟩
        ·
         rw [if_neg c21] at H
         have c21b0 : decide (32 < (Int.tmod (wrap64 (a0)) 40)) = false := decide_eq_false c21
         clear c21
         have H' := Aside0.mk H
         clear H
         go_wp2_with (first | ((with_reducible refine gate_callee (f := 17) rfl ?_); refine goesL_ (some 33) rfl rfl Try.func17 (by kernel_rfl) rfl #[.int .i64 t289] rfl (by (try simp only [List.map_toArray, List.map_cons, List.map_nil]); first | done | rfl | (simp only [List.length_drop, List.length_take]; rfl)) ?_; (with_reducible refine (iceboxlaw1_Num.calls t289 t290 _ A13.out).mono ?_); rintro e w' ⟨rfl, ⟨nd, rfl⟩⟩; refine ⟨_, rfl, ?_⟩))
         go_meet
         case rel => exact ⟨_, (false), (by first | rfl | (simp; done) | (simp [*]; done)), H', ⟨by have := HK1.out; first | omega | exact Nat.le_refl _⟩, ⟨by (with_reducible repeat (first | apply Kd.R_alloc | apply Kd.R_drewN | apply Kd.R_drew)); exact HO_12.out⟩, ⟨by repeat (first | (with_reducible first | exact HB.out | apply below_alloc | apply pw_below_drewN | apply below_drew1) | exact HB.out | exact Below.refl _ _)⟩⟩
     ·
      rw [if_neg c14] at H
      have c14b0 : decide (1 ≤ (Int.tmod (wrap64 (a0)) 40)) = false := decide_eq_false c14
      clear c14
      (first | rw [c14b0] | (simp only [i64_w, i32_w]; rw [c14b0]) | skip)
      by_cases c23 : ((t290 == 0) != false) = true
      ·
       rw [if_pos c23] at H
       have c23b0 : ((t290 == 0) != false) = true := c23
       (try (have c23b1 : decide ((t290 == 0) = false) = false := by simpa using c23))
       (try (have c23b2 : ((t290 == 0) == false) = false := by simpa using c23))
       (try (have c23b3 : ¬ ((t290 == 0) = false) := by simpa using c23))
       clear c23
       have H' := Aside0.mk H
       clear H
       go_wp2_with (first | ((with_reducible refine gate_callee (f := 17) rfl ?_); refine goesL_ (some 33) rfl rfl Try.func17 (by kernel_rfl) rfl #[.int .i64 t289] rfl (by (try simp only [List.map_toArray, List.map_cons, List.map_nil]); first | done | rfl | (simp only [List.length_drop, List.length_take]; rfl)) ?_; (with_reducible refine (iceboxlaw1_Num.calls t289 t290 _ A13.out).mono ?_); rintro e w' ⟨rfl, ⟨nd, rfl⟩⟩; refine ⟨_, rfl, ?_⟩))
       go_meet
       case rel => exact ⟨_, (true), (by first | rfl | (simp; done) | (simp [*]; done)), H', ⟨by have := HK1.out; first | omega | exact Nat.le_refl _⟩, ⟨by (with_reducible repeat (first | apply Kd.R_alloc | apply Kd.R_drewN | apply Kd.R_drew)); exact HO_12.out⟩, ⟨by repeat (first | (with_reducible first | exact HB.out | apply below_alloc | apply pw_below_drewN | apply below_drew1) | exact HB.out | exact Below.refl _ _)⟩⟩
      ·
       rw [if_neg c23] at H
       have c23b0 : ((t290 == 0) != false) = false := by simpa using c23
       (try (have c23b1 : decide ((t290 == 0) = false) = true := by simpa using c23))
       (try (have c23b2 : ((t290 == 0) == false) = true := by simpa using c23))
       clear c23
       by_cases c24 : (Int.tmod (wrap64 (a0)) 40) = 0
       ·
        rw [if_pos c24] at H
        have c24b0 : ((Int.tmod (wrap64 (a0)) 40) == 0) = true := beq_iff_eq.mpr c24
        have c24b1 : ((Int.tmod (wrap64 (a0)) 40) != 0) = false := bne_eq_false_iff_eq.mpr c24
        clear c24
        replace H := Option.bind_eq_some_iff.mp H
        obtain ⟨t294, A250, H⟩ := H
        replace H : (if t294 = 1 then (if (Int.tmod (wrap64 (a0)) 40) > 32 then ((iceboxlaw1_Num.f t289).bind fun t295 => (iceboxlaw8_BatchMay.j1 k1 a1 a2 a3 a4 (Int.tmod (wrap64 (a0)) 40) x12_1 (t295 != 4))) else (iceboxlaw8_BatchMay.j1 k1 a1 a2 a3 a4 (Int.tmod (wrap64 (a0)) 40) x12_1 false)) else (iceboxlaw8_BatchMay.j1 k1 a1 a2 a3 a4 (Int.tmod (wrap64 (a0)) 40) x12_1 true)) = some r := H
        have A25 := Aside0.mk A250
        clear A250
        by_cases c26 : t294 = 1
        ·
         rw [if_pos c26] at H
         have c26b0 : (t294 == 1) = true := beq_iff_eq.mpr c26
         have c26b1 : (t294 != 1) = false := bne_eq_false_iff_eq.mpr c26
         clear c26
         by_cases c27 : (Int.tmod (wrap64 (a0)) 40) > 32
         ·
          rw [if_pos c27] at H
          have c27b0 : decide (32 < (Int.tmod (wrap64 (a0)) 40)) = true := decide_eq_true c27
          clear c27
          replace H := Option.bind_eq_some_iff.mp H
          obtain ⟨t295, A280, H⟩ := H
          replace H : (iceboxlaw8_BatchMay.j1 k1 a1 a2 a3 a4 (Int.tmod (wrap64 (a0)) 40) x12_1 (t295 != 4)) = some r := H
          have A28 := Aside0.mk A280
          clear A280
          have H' := Aside0.mk H
          clear H
          go_wp2_with (first | ((with_reducible refine gate_callee (f := 17) rfl ?_); refine goesL_ (some 33) rfl rfl Try.func17 (by kernel_rfl) rfl #[.int .i64 t289] rfl (by (try simp only [List.map_toArray, List.map_cons, List.map_nil]); first | done | rfl | (simp only [List.length_drop, List.length_take]; rfl)) ?_; (with_reducible refine (iceboxlaw1_Num.calls t289 t290 _ A13.out).mono ?_); rintro e w' ⟨rfl, ⟨nd, rfl⟩⟩; refine ⟨_, rfl, ?_⟩) | (go_at_call 17; (with_reducible refine (iceboxlaw1_Num.calls t289 t294 _ A25.out).mono ?_); rintro e w' ⟨rfl, ⟨nd, rfl⟩⟩) | (go_at_call 17; (with_reducible refine (iceboxlaw1_Num.calls t289 t295 _ A28.out).mono ?_); rintro e w' ⟨rfl, ⟨nd, rfl⟩⟩))
          go_meet
          case rel => exact ⟨_, ((t295 != 4)), (by first | rfl | (rw [Option.some.inj (A13.out.symm.trans A28.out)]; done) | (rw [Option.some.inj (A25.out.symm.trans A28.out)]; done) | (simp; done) | (simp [*]; done)), H', ⟨by have := HK1.out; first | omega | exact Nat.le_refl _⟩, ⟨by (with_reducible repeat (first | apply Kd.R_alloc | apply Kd.R_drewN | apply Kd.R_drew)); exact HO_12.out⟩, ⟨by repeat (first | (with_reducible first | exact HB.out | apply below_alloc | apply pw_below_drewN | apply below_drew1) | exact HB.out | exact Below.refl _ _)⟩⟩
         ·
          rw [if_neg c27] at H
          have c27b0 : decide (32 < (Int.tmod (wrap64 (a0)) 40)) = false := decide_eq_false c27
          clear c27
          have H' := Aside0.mk H
          clear H
          go_wp2_with (first | ((with_reducible refine gate_callee (f := 17) rfl ?_); refine goesL_ (some 33) rfl rfl Try.func17 (by kernel_rfl) rfl #[.int .i64 t289] rfl (by (try simp only [List.map_toArray, List.map_cons, List.map_nil]); first | done | rfl | (simp only [List.length_drop, List.length_take]; rfl)) ?_; (with_reducible refine (iceboxlaw1_Num.calls t289 t290 _ A13.out).mono ?_); rintro e w' ⟨rfl, ⟨nd, rfl⟩⟩; refine ⟨_, rfl, ?_⟩) | (go_at_call 17; (with_reducible refine (iceboxlaw1_Num.calls t289 t294 _ A25.out).mono ?_); rintro e w' ⟨rfl, ⟨nd, rfl⟩⟩))
          go_meet
          case rel => exact ⟨_, (false), (by first | rfl | (simp; done) | (simp [*]; done)), H', ⟨by have := HK1.out; first | omega | exact Nat.le_refl _⟩, ⟨by (with_reducible repeat (first | apply Kd.R_alloc | apply Kd.R_drewN | apply Kd.R_drew)); exact HO_12.out⟩, ⟨by repeat (first | (with_reducible first | exact HB.out | apply below_alloc | apply pw_below_drewN | apply below_drew1) | exact HB.out | exact Below.refl _ _)⟩⟩
        ·
         rw [if_neg c26] at H
         have c26b0 : (t294 == 1) = false := beq_eq_false_iff_ne.mpr c26
         have c26b1 : (t294 != 1) = true := bne_iff_ne.mpr c26
         have H' := Aside0.mk H
         clear H
         go_wp2_with (first | ((with_reducible refine gate_callee (f := 17) rfl ?_); refine goesL_ (some 33) rfl rfl Try.func17 (by kernel_rfl) rfl #[.int .i64 t289] rfl (by (try simp only [List.map_toArray, List.map_cons, List.map_nil]); first | done | rfl | (simp only [List.length_drop, List.length_take]; rfl)) ?_; (with_reducible refine (iceboxlaw1_Num.calls t289 t290 _ A13.out).mono ?_); rintro e w' ⟨rfl, ⟨nd, rfl⟩⟩; refine ⟨_, rfl, ?_⟩) | (go_at_call 17; (with_reducible refine (iceboxlaw1_Num.calls t289 t294 _ A25.out).mono ?_); rintro e w' ⟨rfl, ⟨nd, rfl⟩⟩))
         go_meet
         case rel => exact ⟨_, (true), (by first | rfl | (simp; done) | (simp [*]; done)), H', ⟨by have := HK1.out; first | omega | exact Nat.le_refl _⟩, ⟨by (with_reducible repeat (first | apply Kd.R_alloc | apply Kd.R_drewN | apply Kd.R_drew)); exact HO_12.out⟩, ⟨by repeat (first | (with_reducible first | exact HB.out | apply below_alloc | apply pw_below_drewN | apply below_drew1) | exact HB.out | exact Below.refl _ _)⟩⟩
       ·
        rw [if_neg c24] at H
        have c24b0 : ((Int.tmod (wrap64 (a0)) 40) == 0) = false := beq_eq_false_iff_ne.mpr c24
        have c24b1 : ((Int.tmod (wrap64 (a0)) 40) != 0) = true := bne_iff_ne.mpr c24
        by_cases c29 : (Int.tmod (wrap64 (a0)) 40) > 32
        ·
         rw [if_pos c29] at H
         have c29b0 : decide (32 < (Int.tmod (wrap64 (a0)) 40)) = true := decide_eq_true c29
         clear c29
         replace H := Option.bind_eq_some_iff.mp H
         obtain ⟨t296, A300, H⟩ := H
         replace H : (iceboxlaw8_BatchMay.j1 k1 a1 a2 a3 a4 (Int.tmod (wrap64 (a0)) 40) x12_1 (t296 != 4)) = some r := H
         have A30 := Aside0.mk A300
         clear A300
         have H' := Aside0.mk H
         clear H
         go_wp2_with (first | ((with_reducible refine gate_callee (f := 17) rfl ?_); refine goesL_ (some 33) rfl rfl Try.func17 (by kernel_rfl) rfl #[.int .i64 t289] rfl (by (try simp only [List.map_toArray, List.map_cons, List.map_nil]); first | done | rfl | (simp only [List.length_drop, List.length_take]; rfl)) ?_; (with_reducible refine (iceboxlaw1_Num.calls t289 t290 _ A13.out).mono ?_); rintro e w' ⟨rfl, ⟨nd, rfl⟩⟩; refine ⟨_, rfl, ?_⟩) | (go_at_call 17; (with_reducible refine (iceboxlaw1_Num.calls t289 t296 _ A30.out).mono ?_); rintro e w' ⟨rfl, ⟨nd, rfl⟩⟩))
         go_meet
         case rel => exact ⟨_, ((t296 != 4)), (by first | rfl | (rw [Option.some.inj (A13.out.symm.trans A30.out)]; done) | (simp; done) | (simp [*]; done)), H', ⟨by have := HK1.out; first | omega | exact Nat.le_refl _⟩, ⟨by (with_reducible repeat (first | apply Kd.R_alloc | apply Kd.R_drewN | apply Kd.R_drew)); exact HO_12.out⟩, ⟨by repeat (first | (with_reducible first | exact HB.out | apply below_alloc | apply pw_below_drewN | apply below_drew1) | exact HB.out | exact Below.refl _ _)⟩⟩
        ·
         rw [if_neg c29] at H
         have c29b0 : decide (32 < (Int.tmod (wrap64 (a0)) 40)) = false := decide_eq_false c29
         clear c29
         have H' := Aside0.mk H
         clear H
         go_wp2_with (first | ((with_reducible refine gate_callee (f := 17) rfl ?_); refine goesL_ (some 33) rfl rfl Try.func17 (by kernel_rfl) rfl #[.int .i64 t289] rfl (by (try simp only [List.map_toArray, List.map_cons, List.map_nil]); first | done | rfl | (simp only [List.length_drop, List.length_take]; rfl)) ?_; (with_reducible refine (iceboxlaw1_Num.calls t289 t290 _ A13.out).mono ?_); rintro e w' ⟨rfl, ⟨nd, rfl⟩⟩; refine ⟨_, rfl, ?_⟩))
         go_meet
         case rel => exact ⟨_, (false), (by first | rfl | (simp; done) | (simp [*]; done)), H', ⟨by have := HK1.out; first | omega | exact Nat.le_refl _⟩, ⟨by (with_reducible repeat (first | apply Kd.R_alloc | apply Kd.R_drewN | apply Kd.R_drew)); exact HO_12.out⟩, ⟨by repeat (first | (with_reducible first | exact HB.out | apply below_alloc | apply pw_below_drewN | apply below_drew1) | exact HB.out | exact Below.refl _ _)⟩⟩
    case rest =>
     as_aux_lemma =>
      clear HC10
      obtain ⟨kq, x59_9, rfl, HA, HJ9, HO_12, HB⟩ := hcut
      cases kq with
      | zero => exact absurd HA.out (by simp [iceboxlaw8_BatchMay.j1])
      | succ kj9 =>
       have H := HA.out
       clear HA
       simp only [iceboxlaw8_BatchMay.j1] at H
       by_cases c31 : x59_9 = true
       ·
        subst c31
        have H1 : (some false) = some r := by rw [if_pos rfl] at H; exact H
        clear H
        have H := H1
        clear H1
        exact absurd ((Option.some.inj H).trans hR_.out) (by decide)
       ·
        replace c31 := Bool.eq_false_iff.mpr c31
        subst c31
        have H1 : (if (Int.tmod (wrap64 (a0)) 40) = 0 then (iceboxlaw8_BatchMay.j2 kj9 a1 a2 a3 a4 (Int.tmod (wrap64 (a0)) 40) x12_1 true) else (iceboxlaw8_BatchMay.j2 kj9 a1 a2 a3 a4 (Int.tmod (wrap64 (a0)) 40) x12_1 (decide ((Int.tmod (wrap64 (a0)) 40) > 32)))) = some r := by rw [if_neg (show ¬ (false = true) by decide)] at H; exact H
        clear H
        have H := H1
        clear H1
        have HC32 := Aside0.mk H
        clear H
        go_upto_region 10 with (fail)
        go_cut [65] (fun v65 wc => ∃ (kq : Nat) (x65_31 : Bool), v65 = .bool x65_31 ∧ Aside0 (iceboxlaw8_BatchMay.j2 kq a1 a2 a3 a4 (Int.tmod (wrap64 (a0)) 40) x12_1 x65_31 = some r) ∧ Aside0 (kq ≤ kj9) ∧ Aside0 (Kd.R k27 27 wc w.heap.size (fun _ => True) (.slice Ao11 x12_1.length co11) x12_1) ∧ Aside0 (Below w.heap.size w wc))
        case first =>
         have H := HC32.out
         clear HC32
         by_cases c33 : (Int.tmod (wrap64 (a0)) 40) = 0
         ·
          rw [if_pos c33] at H
          have c33b0 : ((Int.tmod (wrap64 (a0)) 40) == 0) = true := beq_iff_eq.mpr c33
          have c33b1 : ((Int.tmod (wrap64 (a0)) 40) != 0) = false := bne_eq_false_iff_eq.mpr c33
          clear c33
          (first | rw [c33b0] | (simp only [i64_w, i32_w]; rw [c33b0]) | skip)
          have H' := Aside0.mk H
          clear H
          go_wp2
          go_meet
          case rel => exact ⟨_, (true), (by first | rfl | (simp; done) | (simp [*]; done)), H', ⟨by have := HK1.out; have := HJ9.out; first | omega | exact Nat.le_refl _⟩, ⟨by (with_reducible repeat (first | apply Kd.R_alloc | apply Kd.R_drewN | apply Kd.R_drew)); exact HO_12.out⟩, ⟨by repeat (first | (with_reducible first | exact HB.out | apply below_alloc | apply pw_below_drewN | apply below_drew1) | exact HB.out | exact Below.refl _ _)⟩⟩
         ·
          rw [if_neg c33] at H
          have c33b0 : ((Int.tmod (wrap64 (a0)) 40) == 0) = false := beq_eq_false_iff_ne.mpr c33
          have c33b1 : ((Int.tmod (wrap64 (a0)) 40) != 0) = true := bne_iff_ne.mpr c33
          (first | rw [c33b0] | (simp only [i64_w, i32_w]; rw [c33b0]) | skip)
          have H' := Aside0.mk H
          clear H
          go_wp2
          go_meet
          case rel => exact ⟨_, (decide ((Int.tmod (wrap64 (a0)) 40) > 32)), (by first | rfl | (simp; done) | (simp [*]; done)), H', ⟨by have := HK1.out; have := HJ9.out; first | omega | exact Nat.le_refl _⟩, ⟨by (with_reducible repeat (first | apply Kd.R_alloc | apply Kd.R_drewN | apply Kd.R_drew)); exact HO_12.out⟩, ⟨by repeat (first | (with_reducible first | exact HB.out | apply below_alloc | apply pw_below_drewN | apply below_drew1) | exact HB.out | exact Below.refl _ _)⟩⟩
        case rest =>
         as_aux_lemma =>
          clear HC32
          obtain ⟨kq, x65_31, rfl, HA, HJ31, HO_12, HB⟩ := hcut
          cases kq with
          | zero => exact absurd HA.out (by simp [iceboxlaw8_BatchMay.j2])
          | succ kj31 =>
           have H := HA.out
           clear HA
           simp only [iceboxlaw8_BatchMay.j2] at H
           by_cases c34 : x65_31 = true
           ·
            subst c34
            have H1 : ((iceboxlaw8_awake.f kj31).bind fun t297 => (some t297)) = some r := by rw [if_pos rfl] at H; exact H
            clear H
            have H := H1
            clear H1
            replace H := Option.bind_eq_some_iff.mp H
            obtain ⟨t297, A350, H⟩ := H
            replace H : (some t297) = some r := H
            have A35 := Aside0.mk A350
            clear A350
            obtain rfl := Option.some.inj H
            go_wp2_with (first | ((with_reducible refine gate_callee (f := 13) rfl ?_); refine goesL_ (some 66) rfl rfl Try.func13 (by kernel_rfl) rfl #[] rfl (by (try simp only [List.map_toArray, List.map_cons, List.map_nil]); first | done | rfl | (simp only [List.length_drop, List.length_take]; rfl)) ?_; (with_reducible refine (iceboxlaw8_awake.calls kj31  t297 _ A35.out).mono ?_); rintro e w36 ⟨rfl, hb⟩; refine ⟨_, rfl, ?_⟩; have n0_ := Aside0.mk (Kd.R_below (by (with_reducible repeat (first | apply Kd.R_alloc | apply Kd.R_drewN | apply Kd.R_drew)); exact HO_12.out) hb); have n1_ := Aside0.mk (below_step (by repeat (first | (with_reducible first | exact HB.out | apply below_alloc | apply pw_below_drewN | apply below_drew1) | exact HB.out | exact Below.refl _ _)) hb); clear HO_12; clear HB; have HO_12 := n0_; have HB := n1_; clear n0_ n1_; (try clear hb); (try clear hb2); (try clear hk); (try clear hi)))
            go_ret
            exact ⟨by first | rfl | (simp [errW_none, errW_some] <;> rfl) | (simp [*, errW_none, errW_some] <;> rfl), by repeat (first | (with_reducible first | exact HB.out | apply below_alloc | apply pw_below_drewN | apply below_drew1) | exact HB.out | exact Below.refl _ _)⟩
           ·
            replace c34 := Bool.eq_false_iff.mpr c34
            subst c34
            have H1 : (if (Int.tmod (wrap64 (a0)) 40) = 0 then (none) else (if 0 ≤ (Int.tmod (wrap64 (a1)) 80) then (if (Int.tmod (wrap64 (a1)) 80 : Int).toNat ≤ 281474976710656 then (if 0 ≤ (Int.tmod (wrap64 (a2)) 600) then (if (Int.tmod (wrap64 (a2)) 600 : Int).toNat ≤ 281474976710656 then (if 0 ≤ (Int.tmod (wrap64 (a4)) (Int.tmod (wrap64 (a0)) 40)) then (if (Int.tmod (wrap64 (a4)) (Int.tmod (wrap64 (a0)) 40)) < (x12_1.length : Int) then ((some (x12_1.set ((Int.tmod (wrap64 (a4)) (Int.tmod (wrap64 (a0)) 40)) : Int).toNat (⟨Int.tmod (wrap64 (a3)) 4, strOfNums (List.replicate (Int.tmod (wrap64 (a1)) 80 : Int).toNat 0), strOfNums (List.replicate (Int.tmod (wrap64 (a2)) 600 : Int).toNat 0)⟩ : S27) : List (S27))).bind fun y304 => ((batch_May.f kj31 y304).bind fun t305 => (if ((rd_T27 y304 (Int.tmod (wrap64 (a4)) (Int.tmod (wrap64 (a0)) 40))).f0) = 0 then (iceboxlaw8_BatchMay.j3 kj31 y304 (Int.tmod (wrap64 (a4)) (Int.tmod (wrap64 (a0)) 40)) t305 0 true) else (iceboxlaw8_BatchMay.j3 kj31 y304 (Int.tmod (wrap64 (a4)) (Int.tmod (wrap64 (a0)) 40)) t305 0 (((rd_T27 y304 (Int.tmod (wrap64 (a4)) (Int.tmod (wrap64 (a0)) 40))).f0) == 3))))) else (none)) else (none)) else (none)) else (none)) else (none)) else (none))) = some r := by rw [if_neg (show ¬ (false = true) by decide)] at H; exact H
            clear H
            have H := H1
            clear H1
            by_cases c37 : (Int.tmod (wrap64 (a0)) 40) = 0
            ·
             rw [if_pos c37] at H
             exact absurd H (by simp)
            ·
             rw [if_neg c37] at H
             have c37b0 : ((Int.tmod (wrap64 (a0)) 40) == 0) = false := beq_eq_false_iff_ne.mpr c37
             have c37b1 : ((Int.tmod (wrap64 (a0)) 40) != 0) = true := bne_iff_ne.mpr c37
             obtain ⟨ji38, hji38⟩ : ∃ j_ : Int, (Int.tmod (wrap64 (a1)) 80) = j_ := ⟨_, rfl⟩
             replace H : (if 0 ≤ (ji38) then (if (ji38 : Int).toNat ≤ 281474976710656 then (if 0 ≤ (Int.tmod (wrap64 (a2)) 600) then (if (Int.tmod (wrap64 (a2)) 600 : Int).toNat ≤ 281474976710656 then (if 0 ≤ (Int.tmod (wrap64 (a4)) (Int.tmod (wrap64 (a0)) 40)) then (if (Int.tmod (wrap64 (a4)) (Int.tmod (wrap64 (a0)) 40)) < (x12_1.length : Int) then ((some (x12_1.set ((Int.tmod (wrap64 (a4)) (Int.tmod (wrap64 (a0)) 40)) : Int).toNat (⟨Int.tmod (wrap64 (a3)) 4, strOfNums (List.replicate (ji38 : Int).toNat 0), strOfNums (List.replicate (Int.tmod (wrap64 (a2)) 600 : Int).toNat 0)⟩ : S27) : List (S27))).bind fun y304 => ((batch_May.f kj31 y304).bind fun t305 => (if ((rd_T27 y304 (Int.tmod (wrap64 (a4)) (Int.tmod (wrap64 (a0)) 40))).f0) = 0 then (iceboxlaw8_BatchMay.j3 kj31 y304 (Int.tmod (wrap64 (a4)) (Int.tmod (wrap64 (a0)) 40)) t305 0 true) else (iceboxlaw8_BatchMay.j3 kj31 y304 (Int.tmod (wrap64 (a4)) (Int.tmod (wrap64 (a0)) 40)) t305 0 (((rd_T27 y304 (Int.tmod (wrap64 (a4)) (Int.tmod (wrap64 (a0)) 40))).f0) == 3))))) else (none)) else (none)) else (none)) else (none)) else (none)) else (none)) = some r := by first | (rw [hji38] at H; exact H) | (simp only [hji38] at H ⊢; exact H)
             by_cases c39 : 0 ≤ (ji38)
             ·
              rw [if_pos c39] at H
              have c39b0 := eq_true c39
              have c39b1 : decide (0 ≤ (ji38)) = true := decide_eq_true c39
              clear c39
              by_cases c40 : (ji38 : Int).toNat ≤ 281474976710656
              ·
               rw [if_pos c40] at H
               have c40b0 := eq_true c40
               have c40b1 : decide ((ji38 : Int).toNat ≤ 281474976710656) = true := decide_eq_true c40
               clear c40
               obtain ⟨y298, hy298⟩ : ∃ y_ : List Int, y_ = (List.replicate (ji38 : Int).toNat 0) := ⟨_, rfl⟩
               replace H : (if 0 ≤ (Int.tmod (wrap64 (a2)) 600) then (if (Int.tmod (wrap64 (a2)) 600 : Int).toNat ≤ 281474976710656 then (if 0 ≤ (Int.tmod (wrap64 (a4)) (Int.tmod (wrap64 (a0)) 40)) then (if (Int.tmod (wrap64 (a4)) (Int.tmod (wrap64 (a0)) 40)) < (x12_1.length : Int) then ((some (x12_1.set ((Int.tmod (wrap64 (a4)) (Int.tmod (wrap64 (a0)) 40)) : Int).toNat (⟨Int.tmod (wrap64 (a3)) 4, strOfNums y298, strOfNums (List.replicate (Int.tmod (wrap64 (a2)) 600 : Int).toNat 0)⟩ : S27) : List (S27))).bind fun y304 => ((batch_May.f kj31 y304).bind fun t305 => (if ((rd_T27 y304 (Int.tmod (wrap64 (a4)) (Int.tmod (wrap64 (a0)) 40))).f0) = 0 then (iceboxlaw8_BatchMay.j3 kj31 y304 (Int.tmod (wrap64 (a4)) (Int.tmod (wrap64 (a0)) 40)) t305 0 true) else (iceboxlaw8_BatchMay.j3 kj31 y304 (Int.tmod (wrap64 (a4)) (Int.tmod (wrap64 (a0)) 40)) t305 0 (((rd_T27 y304 (Int.tmod (wrap64 (a4)) (Int.tmod (wrap64 (a0)) 40))).f0) == 3))))) else (none)) else (none)) else (none)) else (none)) = some r := by first | (rw [hy298]; with_reducible exact H) | (have H2_ := (Option.bind_some _ _).symm.trans H; rw [hy298]; with_reducible exact H2_) | (have H2_ := (Option.bind_some _ _).symm.trans H; with_reducible exact H2_) | with_reducible exact H | (rw [hy298]; exact H) | exact H
               have Ny298 := Aside0.mk hy298
               clear hy298
               obtain ⟨ji41, hji41⟩ : ∃ j_ : Int, (Int.tmod (wrap64 (a2)) 600) = j_ := ⟨_, rfl⟩
               replace H : (if 0 ≤ (ji41) then (if (ji41 : Int).toNat ≤ 281474976710656 then (if 0 ≤ (Int.tmod (wrap64 (a4)) (Int.tmod (wrap64 (a0)) 40)) then (if (Int.tmod (wrap64 (a4)) (Int.tmod (wrap64 (a0)) 40)) < (x12_1.length : Int) then ((some (x12_1.set ((Int.tmod (wrap64 (a4)) (Int.tmod (wrap64 (a0)) 40)) : Int).toNat (⟨Int.tmod (wrap64 (a3)) 4, strOfNums y298, strOfNums (List.replicate (ji41 : Int).toNat 0)⟩ : S27) : List (S27))).bind fun y304 => ((batch_May.f kj31 y304).bind fun t305 => (if ((rd_T27 y304 (Int.tmod (wrap64 (a4)) (Int.tmod (wrap64 (a0)) 40))).f0) = 0 then (iceboxlaw8_BatchMay.j3 kj31 y304 (Int.tmod (wrap64 (a4)) (Int.tmod (wrap64 (a0)) 40)) t305 0 true) else (iceboxlaw8_BatchMay.j3 kj31 y304 (Int.tmod (wrap64 (a4)) (Int.tmod (wrap64 (a0)) 40)) t305 0 (((rd_T27 y304 (Int.tmod (wrap64 (a4)) (Int.tmod (wrap64 (a0)) 40))).f0) == 3))))) else (none)) else (none)) else (none)) else (none)) = some r := by first | (rw [hji41] at H; exact H) | (simp only [hji41] at H ⊢; exact H)
               by_cases c42 : 0 ≤ (ji41)
               ·
                rw [if_pos c42] at H
                have c42b0 := eq_true c42
                have c42b1 : decide (0 ≤ (ji41)) = true := decide_eq_true c42
                clear c42
                by_cases c43 : (ji41 : Int).toNat ≤ 281474976710656
                ·
                 rw [if_pos c43] at H
                 have c43b0 := eq_true c43
                 have c43b1 : decide ((ji41 : Int).toNat ≤ 281474976710656) = true := decide_eq_true c43
                 clear c43
                 obtain ⟨y301, hy301⟩ : ∃ y_ : List Int, y_ = (List.replicate (ji41 : Int).toNat 0) := ⟨_, rfl⟩
                 replace H : (if 0 ≤ (Int.tmod (wrap64 (a4)) (Int.tmod (wrap64 (a0)) 40)) then (if (Int.tmod (wrap64 (a4)) (Int.tmod (wrap64 (a0)) 40)) < (x12_1.length : Int) then ((some (x12_1.set ((Int.tmod (wrap64 (a4)) (Int.tmod (wrap64 (a0)) 40)) : Int).toNat (⟨Int.tmod (wrap64 (a3)) 4, strOfNums y298, strOfNums y301⟩ : S27) : List (S27))).bind fun y304 => ((batch_May.f kj31 y304).bind fun t305 => (if ((rd_T27 y304 (Int.tmod (wrap64 (a4)) (Int.tmod (wrap64 (a0)) 40))).f0) = 0 then (iceboxlaw8_BatchMay.j3 kj31 y304 (Int.tmod (wrap64 (a4)) (Int.tmod (wrap64 (a0)) 40)) t305 0 true) else (iceboxlaw8_BatchMay.j3 kj31 y304 (Int.tmod (wrap64 (a4)) (Int.tmod (wrap64 (a0)) 40)) t305 0 (((rd_T27 y304 (Int.tmod (wrap64 (a4)) (Int.tmod (wrap64 (a0)) 40))).f0) == 3))))) else (none)) else (none)) = some r := by first | (rw [hy301]; with_reducible exact H) | (have H2_ := (Option.bind_some _ _).symm.trans H; rw [hy301]; with_reducible exact H2_) | (have H2_ := (Option.bind_some _ _).symm.trans H; with_reducible exact H2_) | with_reducible exact H | (rw [hy301]; exact H) | exact H
                 have Ny301 := Aside0.mk hy301
                 clear hy301
                 obtain ⟨ji44, hji44⟩ : ∃ j_ : Int, (Int.tmod (wrap64 (a4)) (Int.tmod (wrap64 (a0)) 40)) = j_ := ⟨_, rfl⟩
                 replace H : (if 0 ≤ (ji44) then (if (ji44) < (x12_1.length : Int) then ((some (x12_1.set ((ji44) : Int).toNat (⟨Int.tmod (wrap64 (a3)) 4, strOfNums y298, strOfNums y301⟩ : S27) : List (S27))).bind fun y304 => ((batch_May.f kj31 y304).bind fun t305 => (if ((rd_T27 y304 (ji44)).f0) = 0 then (iceboxlaw8_BatchMay.j3 kj31 y304 ji44 t305 0 true) else (iceboxlaw8_BatchMay.j3 kj31 y304 ji44 t305 0 (((rd_T27 y304 (ji44)).f0) == 3))))) else (none)) else (none)) = some r := by first | (rw [hji44] at H; exact H) | (simp only [hji44] at H ⊢; exact H)
                 by_cases c45 : 0 ≤ (ji44)
                 ·
                  rw [if_pos c45] at H
                  have c45b0 : decide (0 ≤ (ji44)) = true := decide_eq_true c45
                  clear c45
                  by_cases c46 : (ji44) < (x12_1.length : Int)
                  ·
                   rw [if_pos c46] at H
                   have c46b0 : decide ((ji44) < (x12_1.length : Int)) = true := decide_eq_true c46
                   clear c46
                   obtain ⟨y304, hy304⟩ : ∃ y_ : List (S27), y_ = (x12_1.set ((ji44) : Int).toNat (⟨Int.tmod (wrap64 (a3)) 4, strOfNums y298, strOfNums y301⟩ : S27)) := ⟨_, rfl⟩
                   replace H : ((batch_May.f kj31 y304).bind fun t305 => (if ((rd_T27 y304 (ji44)).f0) = 0 then (iceboxlaw8_BatchMay.j3 kj31 y304 ji44 t305 0 true) else (iceboxlaw8_BatchMay.j3 kj31 y304 ji44 t305 0 (((rd_T27 y304 (ji44)).f0) == 3)))) = some r := by first | (rw [hy304]; with_reducible exact H) | (have H2_ := (Option.bind_some _ _).symm.trans H; rw [hy304]; with_reducible exact H2_) | (have H2_ := (Option.bind_some _ _).symm.trans H; with_reducible exact H2_) | with_reducible exact H | (rw [hy304]; exact H) | exact H
                   have Ny304 := Aside0.mk hy304
                   clear hy304
                   replace H := Option.bind_eq_some_iff.mp H
                   obtain ⟨t305, A480, H⟩ := H
                   replace H : (if ((rd_T27 y304 (ji44)).f0) = 0 then (iceboxlaw8_BatchMay.j3 kj31 y304 ji44 t305 0 true) else (iceboxlaw8_BatchMay.j3 kj31 y304 ji44 t305 0 (((rd_T27 y304 (ji44)).f0) == 3))) = some r := H
                   have A48 := Aside0.mk A480
                   clear A480
                   have HC49 := Aside0.mk H
                   clear H
                   try go_wp2
                   have n0_ := Aside0.mk (Kd.R_drew HO_12.out)
                   have n1_ := Aside0.mk (below_drew1 HB.out)
                   clear HO_12
                   clear HB
                   have HO_12 := n0_
                   have HB := n1_
                   clear n0_ n1_
                   refine start_ (n := 18) (S := fun w' => True) (ds := [17]) #[false, false, false, false, false, false, false, false, false, false, false, false, false, false, false, false, false, false] (by kernel_rfl) rfl rfl trivial (fun hHeld => ?_); refine with_tabW iceboxlaw8_BatchMay.tab13 iceboxlaw8_BatchMay.bits13 (fun HT_ HW_ => ?_)
                   generalize wc.drew = w50 at HO_12 HB hHeld ⊢
                   refine pure_ (i := 0) (N := some 71) (v := ?_) (a' := ?_) #[true, false, false, false, false, false, false, false, false, false, false, false, false, false, false, false, false, false] rfl rfl (any_of HT_.out (by kernel_rfl)) (fun _ _ _ h => h) (Or.inl ⟨by rfl, ?_⟩) ?_ ?_
                   rotate_left
                   ·
                    intro w'
                    go_simp
                    with_reducible rfl
                   rotate_left
                   ·
                    simp only [Act.put, List.setIfInBounds_toArray, List.set_cons_zero, List.set_cons_succ, i64_w, i32_w]
                    rfl
                   refine pure_ (i := 1) (N := some 72) (v := ?_) (a' := ?_) #[true, true, false, false, false, false, false, false, false, false, false, false, false, false, false, false, false, false] rfl rfl (any_of HT_.out (by kernel_rfl)) (fun _ _ _ h => h) (Or.inl ⟨by rfl, ?_⟩) ?_ ?_
                   rotate_left
                   ·
                    intro w'
                    go_simp
                    with_reducible rfl
                   rotate_left
                   ·
                    simp only [Act.put, List.setIfInBounds_toArray, List.set_cons_zero, List.set_cons_succ, i64_w, i32_w]
                    rfl
                   refine pure_ (i := 2) (N := some 73) (v := ?_) (a' := ?_) #[true, true, true, false, false, false, false, false, false, false, false, false, false, false, false, false, false, false] rfl rfl (any_of HT_.out (by kernel_rfl)) (fun _ _ _ h => h) (Or.inl ⟨by rfl, ?_⟩) ?_ ?_
                   rotate_left
                   ·
                    intro w'
                    go_simp
                    with_reducible rfl
                   rotate_left
                   ·
                    simp only [Act.put, List.setIfInBounds_toArray, List.set_cons_zero, List.set_cons_succ, i64_w, i32_w]
                    rfl
                   refine pure_ (i := 3) (N := some 74) (v := ?_) (a' := ?_) #[true, true, true, true, false, false, false, false, false, false, false, false, false, false, false, false, false, false] rfl rfl (any_of HT_.out (by kernel_rfl)) (fun _ _ _ h => h) (Or.inl ⟨by rfl, ?_⟩) ?_ ?_
                   rotate_left
                   ·
                    intro w'
                    go_simp
                    with_reducible rfl
                   rotate_left
                   ·
                    simp only [Act.put, List.setIfInBounds_toArray, List.set_cons_zero, List.set_cons_succ, i64_w, i32_w]
                    rfl
                   refine pure_ (i := 4) (N := some 75) (v := ?_) (a' := ?_) #[true, true, true, true, true, false, false, false, false, false, false, false, false, false, false, false, false, false] rfl rfl (any_of HT_.out (by kernel_rfl)) (fun _ _ _ h => h) (Or.inl ⟨by rfl, ?_⟩) ?_ ?_
                   rotate_left
                   ·
                    intro w'
                    go_simp
                    with_reducible rfl
                   rotate_left
                   ·
                    simp only [Act.put, List.setIfInBounds_toArray, List.set_cons_zero, List.set_cons_succ, i64_w, i32_w]
                    rfl
                   refine pure_ (i := 5) (N := some 76) (v := ?_) (a' := ?_) #[true, true, true, true, true, true, false, false, false, false, false, false, false, false, false, false, false, false] rfl rfl (any_of HT_.out (by kernel_rfl)) (fun _ _ _ h => h) (Or.inl ⟨by rfl, ?_⟩) ?_ ?_
                   rotate_left
                   ·
                    intro w'
                    go_simp
                    with_reducible rfl
                   rotate_left
                   ·
                    simp only [Act.put, List.setIfInBounds_toArray, List.set_cons_zero, List.set_cons_succ, i64_w, i32_w]
                    rfl
                   refine pure_ (i := 6) (N := some 77) (v := ?_) (a' := ?_) #[true, true, true, true, true, true, true, false, false, false, false, false, false, false, false, false, false, false] rfl rfl (any_of HT_.out (by kernel_rfl)) (fun _ _ _ h => h) (Or.inl ⟨by rfl, ?_⟩) ?_ ?_
                   rotate_left
                   ·
                    intro w'
                    go_simp
                    with_reducible rfl
                   rotate_left
                   ·
                    simp only [Act.put, List.setIfInBounds_toArray, List.set_cons_zero, List.set_cons_succ, i64_w, i32_w]
                    rfl
                   refine pure_ (i := 7) (N := some 78) (v := ?_) (a' := ?_) #[true, true, true, true, true, true, true, true, false, false, false, false, false, false, false, false, false, false] rfl rfl (any_of HT_.out (by kernel_rfl)) (fun _ _ _ h => h) (Or.inl ⟨by rfl, ?_⟩) ?_ ?_
                   rotate_left
                   ·
                    intro w'
                    go_simp
                    with_reducible rfl
                   rotate_left
                   ·
                    simp only [Act.put, List.setIfInBounds_toArray, List.set_cons_zero, List.set_cons_succ, i64_w, i32_w]
                    rfl
                   refine pure_ (i := 10) (N := some 81) (v := ?_) (a' := ?_) #[true, true, true, true, true, true, true, true, false, false, true, false, false, false, false, false, false, false] rfl rfl (any_of HT_.out (by kernel_rfl)) (fun _ _ _ h => h) (Or.inl ⟨by rfl, ?_⟩) ?_ ?_
                   rotate_left
                   ·
                    intro w'
                    go_simp
                    with_reducible rfl
                   rotate_left
                   ·
                    simp only [Act.put, List.setIfInBounds_toArray, List.set_cons_zero, List.set_cons_succ, i64_w, i32_w]
                    rfl
                   refine pure_ (i := 11) (N := some 82) (v := ?_) (a' := ?_) #[true, true, true, true, true, true, true, true, false, false, true, true, false, false, false, false, false, false] rfl rfl (any_of HT_.out (by kernel_rfl)) (fun _ _ _ h => h) (Or.inl ⟨by rfl, ?_⟩) ?_ ?_
                   rotate_left
                   ·
                    intro w'
                    go_simp
                    with_reducible rfl
                   rotate_left
                   ·
                    simp only [Act.put, List.setIfInBounds_toArray, List.set_cons_zero, List.set_cons_succ, i64_w, i32_w]
                    rfl
                   refine pure_ (i := 12) (N := some 83) (v := ?_) (a' := ?_) #[true, true, true, true, true, true, true, true, false, false, true, true, true, false, false, false, false, false] rfl rfl (any_of HT_.out (by kernel_rfl)) (fun _ _ _ h => h) (Or.inl ⟨by rfl, ?_⟩) ?_ ?_
                   rotate_left
                   ·
                    intro w'
                    go_simp
                    with_reducible rfl
                   rotate_left
                   ·
                    simp only [Act.put, List.setIfInBounds_toArray, List.set_cons_zero, List.set_cons_succ, i64_w, i32_w]
                    rfl
                   refine join_ (σ := Value × Value) 3 #[true, true, true, true, true, true, true, true, true, true, true, true, true, true, true, false, false, false] (fun s_ => [(79, s_.1), (80, .string (strOfNums y298)), (84, s_.2), (85, .string (strOfNums y301))]) (fun s_ w' => (Kd.R (Kd.int .u8) 5 w' w.heap.size (fun k_ => some k_ ≠ (s_.2 : Value).ownBlock) s_.1 y298) ∧ (Kd.R (Kd.int .u8) 5 w' w.heap.size (fun k_ => some k_ ≠ (s_.1 : Value).ownBlock) s_.2 y301) ∧ (Kd.R k27 27 w' w.heap.size (fun _ => True) (.slice Ao11 x12_1.length co11) x12_1) ∧ (Below w.heap.size w w')) ?_ ?_
                   rotate_left
                   ·
                    intro hJ8_9_13_14
                    refine join_ (σ := Value × Value) 4 #[true, true, true, true, true, true, true, true, true, true, true, true, true, true, false, false, false, false] (fun s_ => [(79, s_.1), (80, .string (strOfNums y298)), (84, s_.2)]) (fun s_ w' => (Kd.R (Kd.int .u8) 5 w' w.heap.size (fun k_ => some k_ ≠ (s_.2 : Value).ownBlock) s_.1 y298) ∧ (Kd.R (Kd.int .u8) 5 w' w.heap.size (fun k_ => some k_ ≠ (s_.1 : Value).ownBlock) s_.2 y301) ∧ (Kd.R k27 27 w' w.heap.size (fun _ => True) (.slice Ao11 x12_1.length co11) x12_1) ∧ (Below w.heap.size w w')) ?_ ?_
                    rotate_left
                    ·
                     intro hJ8_9_13
                     refine join_ (σ := Value × Value) 4 #[true, true, true, true, true, true, true, true, true, false, true, true, true, true, true, false, false, false] (fun s_ => [(79, s_.1), (84, s_.2), (85, .string (strOfNums y301))]) (fun s_ w' => (Kd.R (Kd.int .u8) 5 w' w.heap.size (fun k_ => some k_ ≠ (s_.2 : Value).ownBlock) s_.1 y298) ∧ (Kd.R (Kd.int .u8) 5 w' w.heap.size (fun k_ => some k_ ≠ (s_.1 : Value).ownBlock) s_.2 y301) ∧ (Kd.R k27 27 w' w.heap.size (fun _ => True) (.slice Ao11 x12_1.length co11) x12_1) ∧ (Below w.heap.size w w')) ?_ ?_
                     rotate_left
                     ·
                      intro hJ8_13_14
                      refine join_ (σ := Value) 5 #[true, true, true, true, true, true, true, true, true, true, true, true, true, false, false, false, false, false] (fun s_ => [(79, s_), (80, .string (strOfNums y298))]) (fun s_ w' => (Kd.R (Kd.int .u8) 5 w' w.heap.size (fun _ => True) s_ y298) ∧ (Kd.R k27 27 w' w.heap.size (fun _ => True) (.slice Ao11 x12_1.length co11) x12_1) ∧ (Below w.heap.size w w')) ?_ ?_
                      rotate_left
                      ·
                       intro hJ8_9
                       refine join_ (σ := Value × Value) 5 #[true, true, true, true, true, true, true, true, true, false, true, true, true, true, false, false, false, false] (fun s_ => [(79, s_.1), (84, s_.2)]) (fun s_ w' => (Kd.R (Kd.int .u8) 5 w' w.heap.size (fun k_ => some k_ ≠ (s_.2 : Value).ownBlock) s_.1 y298) ∧ (Kd.R (Kd.int .u8) 5 w' w.heap.size (fun k_ => some k_ ≠ (s_.1 : Value).ownBlock) s_.2 y301) ∧ (Kd.R k27 27 w' w.heap.size (fun _ => True) (.slice Ao11 x12_1.length co11) x12_1) ∧ (Below w.heap.size w w')) ?_ ?_
                       rotate_left
                       ·
                        intro hJ8_13
                        refine join_ (σ := Value) 5 #[true, true, true, true, true, true, true, true, false, false, true, true, true, true, true, false, false, false] (fun s_ => [(84, s_), (85, .string (strOfNums y301))]) (fun s_ w' => (Kd.R (Kd.int .u8) 5 w' w.heap.size (fun _ => True) s_ y301) ∧ (Kd.R k27 27 w' w.heap.size (fun _ => True) (.slice Ao11 x12_1.length co11) x12_1) ∧ (Below w.heap.size w w')) ?_ ?_
                        rotate_left
                        ·
                         intro hJ13_14
                         refine join_ (σ := Value) 6 #[true, true, true, true, true, true, true, true, true, false, true, true, true, false, false, false, false, false] (fun s_ => [(79, s_)]) (fun s_ w' => (Kd.R (Kd.int .u8) 5 w' w.heap.size (fun _ => True) s_ y298) ∧ (Kd.R k27 27 w' w.heap.size (fun _ => True) (.slice Ao11 x12_1.length co11) x12_1) ∧ (Below w.heap.size w w')) ?_ ?_
                         rotate_left
                         ·
                          intro hJ8
                          refine join_ (σ := Value) 6 #[true, true, true, true, true, true, true, true, false, false, true, true, true, true, false, false, false, false] (fun s_ => [(84, s_)]) (fun s_ w' => (Kd.R (Kd.int .u8) 5 w' w.heap.size (fun _ => True) s_ y301) ∧ (Kd.R k27 27 w' w.heap.size (fun _ => True) (.slice Ao11 x12_1.length co11) x12_1) ∧ (Below w.heap.size w w')) ?_ ?_
                          rotate_left
                          ·
                           intro hJ13
                           refine two_ (i := 8) (j := 13) (Ni := some 79) (Nj := some 84) #[true, true, true, true, true, true, true, true, true, false, true, true, true, false, false, false, false, false] #[true, true, true, true, true, true, true, true, false, false, true, true, true, true, false, false, false, false] rfl rfl rfl rfl (two_of HT_.out (by kernel_rfl)) (by decide) (by decide) (fun K hK => ?_) (fun K hK => ?_)
                           ·
                            skip
                            refine Kd.R_make_step (Kd.int .u8) _ 5 (by rfl) (N := 79) rfl 33 _ _ rfl ji38 rfl rfl Try.underlying33 (.int .u8 0) 1 info5 rfl (by decide) (by omega) 0 (ok := fun _ => True) (okp := fun _ => True) rfl (fun _ hk => hk) trivial (of_decide_eq_true (by first | (with_reducible assumption) | assumption)) (Nat.le_trans (Nat.mul_le_mul_right _ (of_decide_eq_true (by first | (with_reducible assumption) | assumption) : ji38.toNat ≤ 281474976710656)) (by omega)) (Below.refl _ _) (Nat.le_refl _) ?_
                            intro v299 w51 ho52 hb hg_ hnew_
                            clear hg_ hnew_
                            (first | rw [← Ny298.out] at ho52 | (simp only [Int.reduceToNat] at ho52; rw [← Ny298.out] at ho52))
                            have n0_ := Aside0.mk (Kd.R_below (by (with_reducible repeat (first | apply Kd.R_alloc | apply Kd.R_drewN | apply Kd.R_drew)); exact HO_12.out) hb)
                            have n1_ := Aside0.mk (Kd.R_lower ho52 (below_size (by repeat (first | (with_reducible first | exact HB.out | apply below_alloc | apply pw_below_drewN | apply below_drew1) | exact HB.out | exact Below.refl _ _))))
                            have n2_ := Aside0.mk (below_step (by repeat (first | (with_reducible first | exact HB.out | apply below_alloc | apply pw_below_drewN | apply below_drew1) | exact HB.out | exact Below.refl _ _)) hb)
                            clear HO_12
                            clear HB
                            have HO_12 := n0_
                            have HO300 := n1_
                            have HB := n2_
                            clear n0_ n1_ n2_
                            clear hb ho52
                            refine hK.out _ _ trivial (fun hHeld => ?_)
                            clear hK K
                            refine norm_ (a' := ?_) ?_ ?_
                            rotate_left
                            ·
                             show Act.put _ (some 79) _ = _
                             simp only [Act.put, List.setIfInBounds_toArray, List.set_cons_zero, List.set_cons_succ, i64_w, i32_w]
                             rfl
                            exact norm_ (by first | (simp only [putAll, Act.put, List.setIfInBounds_toArray, List.set_cons_zero, List.set_cons_succ]; done) | (simp only [putAll, Act.put, List.setIfInBounds_toArray, List.set_cons_zero, List.set_cons_succ]; rfl)) (hJ8 (v299) _ ⟨(by (with_reducible repeat (first | apply Kd.R_alloc | apply Kd.R_drewN | apply Kd.R_drew)); exact HO300.out), (by (with_reducible repeat (first | apply Kd.R_alloc | apply Kd.R_drewN | apply Kd.R_drew)); exact HO_12.out), (by repeat (first | (with_reducible first | exact HB.out | apply below_alloc | apply pw_below_drewN | apply below_drew1) | exact HB.out | exact Below.refl _ _))⟩)
                           ·
                            skip
                            refine Kd.R_make_step (Kd.int .u8) _ 5 (by rfl) (N := 84) rfl 33 _ _ rfl ji41 rfl rfl Try.underlying33 (.int .u8 0) 1 info5 rfl (by decide) (by omega) 0 (ok := fun _ => True) (okp := fun _ => True) rfl (fun _ hk => hk) trivial (of_decide_eq_true (by first | (with_reducible assumption) | assumption)) (Nat.le_trans (Nat.mul_le_mul_right _ (of_decide_eq_true (by first | (with_reducible assumption) | assumption) : ji41.toNat ≤ 281474976710656)) (by omega)) (Below.refl _ _) (Nat.le_refl _) ?_
                            intro v302 w51 ho52 hb hg_ hnew_
                            clear hg_ hnew_
                            (first | rw [← Ny301.out] at ho52 | (simp only [Int.reduceToNat] at ho52; rw [← Ny301.out] at ho52))
                            have n0_ := Aside0.mk (Kd.R_below (by (with_reducible repeat (first | apply Kd.R_alloc | apply Kd.R_drewN | apply Kd.R_drew)); exact HO_12.out) hb)
                            have n1_ := Aside0.mk (Kd.R_lower ho52 (below_size (by repeat (first | (with_reducible first | exact HB.out | apply below_alloc | apply pw_below_drewN | apply below_drew1) | exact HB.out | exact Below.refl _ _))))
                            have n2_ := Aside0.mk (below_step (by repeat (first | (with_reducible first | exact HB.out | apply below_alloc | apply pw_below_drewN | apply below_drew1) | exact HB.out | exact Below.refl _ _)) hb)
                            clear HO_12
                            clear HB
                            have HO_12 := n0_
                            have HO303 := n1_
                            have HB := n2_
                            clear n0_ n1_ n2_
                            clear hb ho52
                            refine hK.out _ _ trivial (fun hHeld => ?_)
                            clear hK K
                            refine norm_ (a' := ?_) ?_ ?_
                            rotate_left
                            ·
                             show Act.put _ (some 84) _ = _
                             simp only [Act.put, List.setIfInBounds_toArray, List.set_cons_zero, List.set_cons_succ, i64_w, i32_w]
                             rfl
                            exact norm_ (by first | (simp only [putAll, Act.put, List.setIfInBounds_toArray, List.set_cons_zero, List.set_cons_succ]; done) | (simp only [putAll, Act.put, List.setIfInBounds_toArray, List.set_cons_zero, List.set_cons_succ]; rfl)) (hJ13 (v302) _ ⟨(by (with_reducible repeat (first | apply Kd.R_alloc | apply Kd.R_drewN | apply Kd.R_drew)); exact HO303.out), (by (with_reducible repeat (first | apply Kd.R_alloc | apply Kd.R_drewN | apply Kd.R_drew)); exact HO_12.out), (by repeat (first | (with_reducible first | exact HB.out | apply below_alloc | apply pw_below_drewN | apply below_drew1) | exact HB.out | exact Below.refl _ _))⟩)
                          ·
                           skip
                           rintro v302 w53 ⟨h0_, h1_, h2_⟩
                           have n0_ : Aside0 (Kd.R (Kd.int .u8) 5 w53 w.heap.size (fun _ => True) v302 y301) := ⟨h0_⟩
                           have n1_ : Aside0 (Kd.R k27 27 w53 w.heap.size (fun _ => True) (.slice Ao11 x12_1.length co11) x12_1) := ⟨h1_⟩
                           have n2_ : Aside0 (Below w.heap.size w w53) := ⟨h2_⟩
                           clear HO_12
                           clear HB
                           clear h0_ h1_ h2_
                           have HO303 := n0_
                           have HO_12 := n1_
                           have HB := n2_
                           clear n0_ n1_ n2_
                           have hHeld := trivial
                           refine norm_ (a' := ?_) ?_ ?_
                           rotate_left
                           ·
                            simp only [putAll, Act.put, List.setIfInBounds_toArray, List.set_cons_zero, List.set_cons_succ]
                            rfl
                           refine two_ (i := 8) (j := 14) (Ni := some 79) (Nj := some 85) #[true, true, true, true, true, true, true, true, true, false, true, true, true, true, false, false, false, false] #[true, true, true, true, true, true, true, true, false, false, true, true, true, true, true, false, false, false] rfl rfl rfl rfl (two_of HT_.out (by kernel_rfl)) (by decide) (by decide) (fun K hK => ?_) (fun K hK => ?_)
                           ·
                            skip
                            refine Kd.R_make_step (Kd.int .u8) _ 5 (by rfl) (N := 79) rfl 33 _ _ rfl ji38 rfl rfl Try.underlying33 (.int .u8 0) 1 info5 rfl (by decide) (by omega) 0 (ok := fun _ => True) (okp := fun _ => True) rfl (fun _ hk => hk) trivial (of_decide_eq_true (by first | (with_reducible assumption) | assumption)) (Nat.le_trans (Nat.mul_le_mul_right _ (of_decide_eq_true (by first | (with_reducible assumption) | assumption) : ji38.toNat ≤ 281474976710656)) (by omega)) (Below.refl _ _) (Nat.le_refl _) ?_
                            intro v299 w54 ho55 hb hg_ hnew_
                            clear hg_ hnew_
                            (first | rw [← Ny298.out] at ho55 | (simp only [Int.reduceToNat] at ho55; rw [← Ny298.out] at ho55))
                            have n0_ := Aside0.mk (Kd.R_below (by (with_reducible repeat (first | apply Kd.R_alloc | apply Kd.R_drewN | apply Kd.R_drew)); exact HO_12.out) hb)
                            have n1_ := Aside0.mk (Kd.R_elder' (by (with_reducible repeat (first | apply Kd.R_alloc | apply Kd.R_drewN | apply Kd.R_drew)); exact HO303.out) (Kd.R_base ho55) hb)
                            have n2_ := Aside0.mk (Kd.R_lower (Kd.R_new' ho55 (Kd.R_lt (by (with_reducible repeat (first | apply Kd.R_alloc | apply Kd.R_drewN | apply Kd.R_drew)); exact HO303.out))) (below_size (by repeat (first | (with_reducible first | exact HB.out | apply below_alloc | apply pw_below_drewN | apply below_drew1) | exact HB.out | exact Below.refl _ _))))
                            have n3_ := Aside0.mk (below_step (by repeat (first | (with_reducible first | exact HB.out | apply below_alloc | apply pw_below_drewN | apply below_drew1) | exact HB.out | exact Below.refl _ _)) hb)
                            clear HO_12
                            clear HO303
                            clear HB
                            have HO_12 := n0_
                            have HO303 := n1_
                            have HO300 := n2_
                            have HB := n3_
                            clear n0_ n1_ n2_ n3_
                            clear hb ho55
                            refine hK.out _ _ trivial (fun hHeld => ?_)
                            clear hK K
                            refine norm_ (a' := ?_) ?_ ?_
                            rotate_left
                            ·
                             show Act.put _ (some 79) _ = _
                             simp only [Act.put, List.setIfInBounds_toArray, List.set_cons_zero, List.set_cons_succ, i64_w, i32_w]
                             rfl
                            exact norm_ (by first | (simp only [putAll, Act.put, List.setIfInBounds_toArray, List.set_cons_zero, List.set_cons_succ]; done) | (simp only [putAll, Act.put, List.setIfInBounds_toArray, List.set_cons_zero, List.set_cons_succ]; rfl)) (hJ8_13 (v299, v302) _ ⟨(by (with_reducible repeat (first | apply Kd.R_alloc | apply Kd.R_drewN | apply Kd.R_drew)); exact Kd.R_mono HO300.out (fun _ hk => hk.2)), (by (with_reducible repeat (first | apply Kd.R_alloc | apply Kd.R_drewN | apply Kd.R_drew)); exact Kd.R_mono HO303.out (fun _ hk => hk.2)), (by (with_reducible repeat (first | apply Kd.R_alloc | apply Kd.R_drewN | apply Kd.R_drew)); exact HO_12.out), (by repeat (first | (with_reducible first | exact HB.out | apply below_alloc | apply pw_below_drewN | apply below_drew1) | exact HB.out | exact Below.refl _ _))⟩)
                           ·
                            skip
                            have hcv54 := own_string (P := Try.prog) Try.underlying33 Try.underlying5 Try.underlying9 (Kd.own_of_R HO303.out)
                            refine value_ (w1 := ?_) (v := ?_) (by rfl) rfl ?_ ?_
                            rotate_left 2
                            ·
                             go_simp
                             constructor
                             · rfl
                             · rfl
                            clear hcv54
                            refine hK.out _ _ trivial (fun hHeld => ?_)
                            clear hK K
                            refine norm_ (a' := ?_) ?_ ?_
                            rotate_left
                            ·
                             show Act.put _ (some 85) _ = _
                             simp only [Act.put, List.setIfInBounds_toArray, List.set_cons_zero, List.set_cons_succ, i64_w, i32_w]
                             rfl
                            exact norm_ (by first | (simp only [putAll, Act.put, List.setIfInBounds_toArray, List.set_cons_zero, List.set_cons_succ]; done) | (simp only [putAll, Act.put, List.setIfInBounds_toArray, List.set_cons_zero, List.set_cons_succ]; rfl)) (hJ13_14 (v302) _ ⟨(by (with_reducible repeat (first | apply Kd.R_alloc | apply Kd.R_drewN | apply Kd.R_drew)); exact HO303.out), (by (with_reducible repeat (first | apply Kd.R_alloc | apply Kd.R_drewN | apply Kd.R_drew)); exact HO_12.out), (by repeat (first | (with_reducible first | exact HB.out | apply below_alloc | apply pw_below_drewN | apply below_drew1) | exact HB.out | exact Below.refl _ _))⟩)
                         ·
                          skip
                          rintro v299 w53 ⟨h0_, h1_, h2_⟩
                          have n0_ : Aside0 (Kd.R (Kd.int .u8) 5 w53 w.heap.size (fun _ => True) v299 y298) := ⟨h0_⟩
                          have n1_ : Aside0 (Kd.R k27 27 w53 w.heap.size (fun _ => True) (.slice Ao11 x12_1.length co11) x12_1) := ⟨h1_⟩
                          have n2_ : Aside0 (Below w.heap.size w w53) := ⟨h2_⟩
                          clear HO_12
                          clear HB
                          clear h0_ h1_ h2_
                          have HO300 := n0_
                          have HO_12 := n1_
                          have HB := n2_
                          clear n0_ n1_ n2_
                          have hHeld := trivial
                          refine norm_ (a' := ?_) ?_ ?_
                          rotate_left
                          ·
                           simp only [putAll, Act.put, List.setIfInBounds_toArray, List.set_cons_zero, List.set_cons_succ]
                           rfl
                          refine two_ (i := 9) (j := 13) (Ni := some 80) (Nj := some 84) #[true, true, true, true, true, true, true, true, true, true, true, true, true, false, false, false, false, false] #[true, true, true, true, true, true, true, true, true, false, true, true, true, true, false, false, false, false] rfl rfl rfl rfl (two_of HT_.out (by kernel_rfl)) (by decide) (by decide) (fun K hK => ?_) (fun K hK => ?_)
                          ·
                           skip
                           have hcv54 := own_string (P := Try.prog) Try.underlying33 Try.underlying5 Try.underlying9 (Kd.own_of_R HO300.out)
                           refine value_ (w1 := ?_) (v := ?_) (by rfl) rfl ?_ ?_
                           rotate_left 2
                           ·
                            go_simp
                            constructor
                            · rfl
                            · rfl
                           clear hcv54
                           refine hK.out _ _ trivial (fun hHeld => ?_)
                           clear hK K
                           refine norm_ (a' := ?_) ?_ ?_
                           rotate_left
                           ·
                            show Act.put _ (some 80) _ = _
                            simp only [Act.put, List.setIfInBounds_toArray, List.set_cons_zero, List.set_cons_succ, i64_w, i32_w]
                            rfl
                           exact norm_ (by first | (simp only [putAll, Act.put, List.setIfInBounds_toArray, List.set_cons_zero, List.set_cons_succ]; done) | (simp only [putAll, Act.put, List.setIfInBounds_toArray, List.set_cons_zero, List.set_cons_succ]; rfl)) (hJ8_9 (v299) _ ⟨(by (with_reducible repeat (first | apply Kd.R_alloc | apply Kd.R_drewN | apply Kd.R_drew)); exact HO300.out), (by (with_reducible repeat (first | apply Kd.R_alloc | apply Kd.R_drewN | apply Kd.R_drew)); exact HO_12.out), (by repeat (first | (with_reducible first | exact HB.out | apply below_alloc | apply pw_below_drewN | apply below_drew1) | exact HB.out | exact Below.refl _ _))⟩)
                          ·
                           skip
                           refine Kd.R_make_step (Kd.int .u8) _ 5 (by rfl) (N := 84) rfl 33 _ _ rfl ji41 rfl rfl Try.underlying33 (.int .u8 0) 1 info5 rfl (by decide) (by omega) 0 (ok := fun _ => True) (okp := fun _ => True) rfl (fun _ hk => hk) trivial (of_decide_eq_true (by first | (with_reducible assumption) | assumption)) (Nat.le_trans (Nat.mul_le_mul_right _ (of_decide_eq_true (by first | (with_reducible assumption) | assumption) : ji41.toNat ≤ 281474976710656)) (by omega)) (Below.refl _ _) (Nat.le_refl _) ?_
                           intro v302 w54 ho55 hb hg_ hnew_
                           clear hg_ hnew_
                           (first | rw [← Ny301.out] at ho55 | (simp only [Int.reduceToNat] at ho55; rw [← Ny301.out] at ho55))
                           have n0_ := Aside0.mk (Kd.R_below (by (with_reducible repeat (first | apply Kd.R_alloc | apply Kd.R_drewN | apply Kd.R_drew)); exact HO_12.out) hb)
                           have n1_ := Aside0.mk (Kd.R_elder' (by (with_reducible repeat (first | apply Kd.R_alloc | apply Kd.R_drewN | apply Kd.R_drew)); exact HO300.out) (Kd.R_base ho55) hb)
                           have n2_ := Aside0.mk (Kd.R_lower (Kd.R_new' ho55 (Kd.R_lt (by (with_reducible repeat (first | apply Kd.R_alloc | apply Kd.R_drewN | apply Kd.R_drew)); exact HO300.out))) (below_size (by repeat (first | (with_reducible first | exact HB.out | apply below_alloc | apply pw_below_drewN | apply below_drew1) | exact HB.out | exact Below.refl _ _))))
                           have n3_ := Aside0.mk (below_step (by repeat (first | (with_reducible first | exact HB.out | apply below_alloc | apply pw_below_drewN | apply below_drew1) | exact HB.out | exact Below.refl _ _)) hb)
                           clear HO_12
                           clear HO300
                           clear HB
                           have HO_12 := n0_
                           have HO300 := n1_
                           have HO303 := n2_
                           have HB := n3_
                           clear n0_ n1_ n2_ n3_
                           clear hb ho55
                           refine hK.out _ _ trivial (fun hHeld => ?_)
                           clear hK K
                           refine norm_ (a' := ?_) ?_ ?_
                           rotate_left
                           ·
                            show Act.put _ (some 84) _ = _
                            simp only [Act.put, List.setIfInBounds_toArray, List.set_cons_zero, List.set_cons_succ, i64_w, i32_w]
                            rfl
                           exact norm_ (by first | (simp only [putAll, Act.put, List.setIfInBounds_toArray, List.set_cons_zero, List.set_cons_succ]; done) | (simp only [putAll, Act.put, List.setIfInBounds_toArray, List.set_cons_zero, List.set_cons_succ]; rfl)) (hJ8_13 (v299, v302) _ ⟨(by (with_reducible repeat (first | apply Kd.R_alloc | apply Kd.R_drewN | apply Kd.R_drew)); exact Kd.R_mono HO300.out (fun _ hk => hk.2)), (by (with_reducible repeat (first | apply Kd.R_alloc | apply Kd.R_drewN | apply Kd.R_drew)); exact Kd.R_mono HO303.out (fun _ hk => hk.2)), (by (with_reducible repeat (first | apply Kd.R_alloc | apply Kd.R_drewN | apply Kd.R_drew)); exact HO_12.out), (by repeat (first | (with_reducible first | exact HB.out | apply below_alloc | apply pw_below_drewN | apply below_drew1) | exact HB.out | exact Below.refl _ _))⟩)
                        ·
                         skip
                         rintro v302 w54 ⟨h0_, h1_, h2_⟩
                         have n0_ : Aside0 (Kd.R (Kd.int .u8) 5 w54 w.heap.size (fun _ => True) v302 y301) := ⟨h0_⟩
                         have n1_ : Aside0 (Kd.R k27 27 w54 w.heap.size (fun _ => True) (.slice Ao11 x12_1.length co11) x12_1) := ⟨h1_⟩
                         have n2_ : Aside0 (Below w.heap.size w w54) := ⟨h2_⟩
                         clear HO_12
                         clear HB
                         clear h0_ h1_ h2_
                         have HO303 := n0_
                         have HO_12 := n1_
                         have HB := n2_
                         clear n0_ n1_ n2_
                         have hHeld := trivial
                         refine norm_ (a' := ?_) ?_ ?_
                         rotate_left
                         ·
                          simp only [putAll, Act.put, List.setIfInBounds_toArray, List.set_cons_zero, List.set_cons_succ]
                          rfl
                         refine one_ (i := 8) (N := some 79) #[true, true, true, true, true, true, true, true, true, false, true, true, true, true, true, false, false, false] rfl rfl (one_of HT_.out (by kernel_rfl)) (by decide) (fun K hK => ?_)
                         refine Kd.R_make_step (Kd.int .u8) _ 5 (by rfl) (N := 79) rfl 33 _ _ rfl ji38 rfl rfl Try.underlying33 (.int .u8 0) 1 info5 rfl (by decide) (by omega) 0 (ok := fun _ => True) (okp := fun _ => True) rfl (fun _ hk => hk) trivial (of_decide_eq_true (by first | (with_reducible assumption) | assumption)) (Nat.le_trans (Nat.mul_le_mul_right _ (of_decide_eq_true (by first | (with_reducible assumption) | assumption) : ji38.toNat ≤ 281474976710656)) (by omega)) (Below.refl _ _) (Nat.le_refl _) ?_
                         intro v299 w55 ho56 hb hg_ hnew_
                         clear hg_ hnew_
                         (first | rw [← Ny298.out] at ho56 | (simp only [Int.reduceToNat] at ho56; rw [← Ny298.out] at ho56))
                         have n0_ := Aside0.mk (Kd.R_below (by (with_reducible repeat (first | apply Kd.R_alloc | apply Kd.R_drewN | apply Kd.R_drew)); exact HO_12.out) hb)
                         have n1_ := Aside0.mk (Kd.R_elder' (by (with_reducible repeat (first | apply Kd.R_alloc | apply Kd.R_drewN | apply Kd.R_drew)); exact HO303.out) (Kd.R_base ho56) hb)
                         have n2_ := Aside0.mk (Kd.R_lower (Kd.R_new' ho56 (Kd.R_lt (by (with_reducible repeat (first | apply Kd.R_alloc | apply Kd.R_drewN | apply Kd.R_drew)); exact HO303.out))) (below_size (by repeat (first | (with_reducible first | exact HB.out | apply below_alloc | apply pw_below_drewN | apply below_drew1) | exact HB.out | exact Below.refl _ _))))
                         have n3_ := Aside0.mk (below_step (by repeat (first | (with_reducible first | exact HB.out | apply below_alloc | apply pw_below_drewN | apply below_drew1) | exact HB.out | exact Below.refl _ _)) hb)
                         clear HO_12
                         clear HO303
                         clear HB
                         have HO_12 := n0_
                         have HO303 := n1_
                         have HO300 := n2_
                         have HB := n3_
                         clear n0_ n1_ n2_ n3_
                         clear hb ho56
                         refine hK.out _ _ trivial (fun hHeld => ?_)
                         clear hK K
                         refine norm_ (a' := ?_) ?_ ?_
                         rotate_left
                         ·
                          show Act.put _ (some 79) _ = _
                          simp only [Act.put, List.setIfInBounds_toArray, List.set_cons_zero, List.set_cons_succ, i64_w, i32_w]
                          rfl
                         exact norm_ (by first | (simp only [putAll, Act.put, List.setIfInBounds_toArray, List.set_cons_zero, List.set_cons_succ]; done) | (simp only [putAll, Act.put, List.setIfInBounds_toArray, List.set_cons_zero, List.set_cons_succ]; rfl)) (hJ8_13_14 (v299, v302) _ ⟨(by (with_reducible repeat (first | apply Kd.R_alloc | apply Kd.R_drewN | apply Kd.R_drew)); exact Kd.R_mono HO300.out (fun _ hk => hk.2)), (by (with_reducible repeat (first | apply Kd.R_alloc | apply Kd.R_drewN | apply Kd.R_drew)); exact Kd.R_mono HO303.out (fun _ hk => hk.2)), (by (with_reducible repeat (first | apply Kd.R_alloc | apply Kd.R_drewN | apply Kd.R_drew)); exact HO_12.out), (by repeat (first | (with_reducible first | exact HB.out | apply below_alloc | apply pw_below_drewN | apply below_drew1) | exact HB.out | exact Below.refl _ _))⟩)
                       ·
                        skip
                        rintro ⟨v299, v302⟩ w55 ⟨h0_, h1_, h2_, h3_⟩
                        have n0_ : Aside0 (Kd.R (Kd.int .u8) 5 w55 w.heap.size (fun k_ => some k_ ≠ (v302 : Value).ownBlock) v299 y298) := ⟨h0_⟩
                        have n1_ : Aside0 (Kd.R (Kd.int .u8) 5 w55 w.heap.size (fun k_ => some k_ ≠ (v299 : Value).ownBlock) v302 y301) := ⟨h1_⟩
                        have n2_ : Aside0 (Kd.R k27 27 w55 w.heap.size (fun _ => True) (.slice Ao11 x12_1.length co11) x12_1) := ⟨h2_⟩
                        have n3_ : Aside0 (Below w.heap.size w w55) := ⟨h3_⟩
                        clear HO_12
                        clear HB
                        clear h0_ h1_ h2_ h3_
                        have HO300 := n0_
                        have HO303 := n1_
                        have HO_12 := n2_
                        have HB := n3_
                        clear n0_ n1_ n2_ n3_
                        have hHeld := trivial
                        refine norm_ (a' := ?_) ?_ ?_
                        rotate_left
                        ·
                         simp only [putAll, Act.put, List.setIfInBounds_toArray, List.set_cons_zero, List.set_cons_succ]
                         rfl
                        refine two_ (i := 9) (j := 14) (Ni := some 80) (Nj := some 85) #[true, true, true, true, true, true, true, true, true, true, true, true, true, true, false, false, false, false] #[true, true, true, true, true, true, true, true, true, false, true, true, true, true, true, false, false, false] rfl rfl rfl rfl (two_of HT_.out (by kernel_rfl)) (by decide) (by decide) (fun K hK => ?_) (fun K hK => ?_)
                        ·
                         skip
                         have hcv56 := own_string (P := Try.prog) Try.underlying33 Try.underlying5 Try.underlying9 (Kd.own_of_R HO300.out)
                         refine value_ (w1 := ?_) (v := ?_) (by rfl) rfl ?_ ?_
                         rotate_left 2
                         ·
                          go_simp
                          constructor
                          · rfl
                          · rfl
                         clear hcv56
                         refine hK.out _ _ trivial (fun hHeld => ?_)
                         clear hK K
                         refine norm_ (a' := ?_) ?_ ?_
                         rotate_left
                         ·
                          show Act.put _ (some 80) _ = _
                          simp only [Act.put, List.setIfInBounds_toArray, List.set_cons_zero, List.set_cons_succ, i64_w, i32_w]
                          rfl
                         exact norm_ (by first | (simp only [putAll, Act.put, List.setIfInBounds_toArray, List.set_cons_zero, List.set_cons_succ]; done) | (simp only [putAll, Act.put, List.setIfInBounds_toArray, List.set_cons_zero, List.set_cons_succ]; rfl)) (hJ8_9_13 (v299, v302) _ ⟨(by (with_reducible repeat (first | apply Kd.R_alloc | apply Kd.R_drewN | apply Kd.R_drew)); exact HO300.out), (by (with_reducible repeat (first | apply Kd.R_alloc | apply Kd.R_drewN | apply Kd.R_drew)); exact HO303.out), (by (with_reducible repeat (first | apply Kd.R_alloc | apply Kd.R_drewN | apply Kd.R_drew)); exact HO_12.out), (by repeat (first | (with_reducible first | exact HB.out | apply below_alloc | apply pw_below_drewN | apply below_drew1) | exact HB.out | exact Below.refl _ _))⟩)
                        ·
                         skip
                         have hcv56 := own_string (P := Try.prog) Try.underlying33 Try.underlying5 Try.underlying9 (Kd.own_of_R HO303.out)
                         refine value_ (w1 := ?_) (v := ?_) (by rfl) rfl ?_ ?_
                         rotate_left 2
                         ·
                          go_simp
                          constructor
                          · rfl
                          · rfl
                         clear hcv56
                         refine hK.out _ _ trivial (fun hHeld => ?_)
                         clear hK K
                         refine norm_ (a' := ?_) ?_ ?_
                         rotate_left
                         ·
                          show Act.put _ (some 85) _ = _
                          simp only [Act.put, List.setIfInBounds_toArray, List.set_cons_zero, List.set_cons_succ, i64_w, i32_w]
                          rfl
                         exact norm_ (by first | (simp only [putAll, Act.put, List.setIfInBounds_toArray, List.set_cons_zero, List.set_cons_succ]; done) | (simp only [putAll, Act.put, List.setIfInBounds_toArray, List.set_cons_zero, List.set_cons_succ]; rfl)) (hJ8_13_14 (v299, v302) _ ⟨(by (with_reducible repeat (first | apply Kd.R_alloc | apply Kd.R_drewN | apply Kd.R_drew)); exact HO300.out), (by (with_reducible repeat (first | apply Kd.R_alloc | apply Kd.R_drewN | apply Kd.R_drew)); exact HO303.out), (by (with_reducible repeat (first | apply Kd.R_alloc | apply Kd.R_drewN | apply Kd.R_drew)); exact HO_12.out), (by repeat (first | (with_reducible first | exact HB.out | apply below_alloc | apply pw_below_drewN | apply below_drew1) | exact HB.out | exact Below.refl _ _))⟩)
                      ·
                       skip
                       rintro v299 w54 ⟨h0_, h1_, h2_⟩
                       have n0_ : Aside0 (Kd.R (Kd.int .u8) 5 w54 w.heap.size (fun _ => True) v299 y298) := ⟨h0_⟩
                       have n1_ : Aside0 (Kd.R k27 27 w54 w.heap.size (fun _ => True) (.slice Ao11 x12_1.length co11) x12_1) := ⟨h1_⟩
                       have n2_ : Aside0 (Below w.heap.size w w54) := ⟨h2_⟩
                       clear HO_12
                       clear HB
                       clear h0_ h1_ h2_
                       have HO300 := n0_
                       have HO_12 := n1_
                       have HB := n2_
                       clear n0_ n1_ n2_
                       have hHeld := trivial
                       refine norm_ (a' := ?_) ?_ ?_
                       rotate_left
                       ·
                        simp only [putAll, Act.put, List.setIfInBounds_toArray, List.set_cons_zero, List.set_cons_succ]
                        rfl
                       refine one_ (i := 13) (N := some 84) #[true, true, true, true, true, true, true, true, true, true, true, true, true, true, false, false, false, false] rfl rfl (one_of HT_.out (by kernel_rfl)) (by decide) (fun K hK => ?_)
                       refine Kd.R_make_step (Kd.int .u8) _ 5 (by rfl) (N := 84) rfl 33 _ _ rfl ji41 rfl rfl Try.underlying33 (.int .u8 0) 1 info5 rfl (by decide) (by omega) 0 (ok := fun _ => True) (okp := fun _ => True) rfl (fun _ hk => hk) trivial (of_decide_eq_true (by first | (with_reducible assumption) | assumption)) (Nat.le_trans (Nat.mul_le_mul_right _ (of_decide_eq_true (by first | (with_reducible assumption) | assumption) : ji41.toNat ≤ 281474976710656)) (by omega)) (Below.refl _ _) (Nat.le_refl _) ?_
                       intro v302 w55 ho56 hb hg_ hnew_
                       clear hg_ hnew_
                       (first | rw [← Ny301.out] at ho56 | (simp only [Int.reduceToNat] at ho56; rw [← Ny301.out] at ho56))
                       have n0_ := Aside0.mk (Kd.R_below (by (with_reducible repeat (first | apply Kd.R_alloc | apply Kd.R_drewN | apply Kd.R_drew)); exact HO_12.out) hb)
                       have n1_ := Aside0.mk (Kd.R_elder' (by (with_reducible repeat (first | apply Kd.R_alloc | apply Kd.R_drewN | apply Kd.R_drew)); exact HO300.out) (Kd.R_base ho56) hb)
                       have n2_ := Aside0.mk (Kd.R_lower (Kd.R_new' ho56 (Kd.R_lt (by (with_reducible repeat (first | apply Kd.R_alloc | apply Kd.R_drewN | apply Kd.R_drew)); exact HO300.out))) (below_size (by repeat (first | (with_reducible first | exact HB.out | apply below_alloc | apply pw_below_drewN | apply below_drew1) | exact HB.out | exact Below.refl _ _))))
                       have n3_ := Aside0.mk (below_step (by repeat (first | (with_reducible first | exact HB.out | apply below_alloc | apply pw_below_drewN | apply below_drew1) | exact HB.out | exact Below.refl _ _)) hb)
                       clear HO_12
                       clear HO300
                       clear HB
                       have HO_12 := n0_
                       have HO300 := n1_
                       have HO303 := n2_
                       have HB := n3_
                       clear n0_ n1_ n2_ n3_
                       clear hb ho56
                       refine hK.out _ _ trivial (fun hHeld => ?_)
                       clear hK K
                       refine norm_ (a' := ?_) ?_ ?_
                       rotate_left
                       ·
                        show Act.put _ (some 84) _ = _
                        simp only [Act.put, List.setIfInBounds_toArray, List.set_cons_zero, List.set_cons_succ, i64_w, i32_w]
                        rfl
                       exact norm_ (by first | (simp only [putAll, Act.put, List.setIfInBounds_toArray, List.set_cons_zero, List.set_cons_succ]; done) | (simp only [putAll, Act.put, List.setIfInBounds_toArray, List.set_cons_zero, List.set_cons_succ]; rfl)) (hJ8_9_13 (v299, v302) _ ⟨(by (with_reducible repeat (first | apply Kd.R_alloc | apply Kd.R_drewN | apply Kd.R_drew)); exact Kd.R_mono HO300.out (fun _ hk => hk.2)), (by (with_reducible repeat (first | apply Kd.R_alloc | apply Kd.R_drewN | apply Kd.R_drew)); exact Kd.R_mono HO303.out (fun _ hk => hk.2)), (by (with_reducible repeat (first | apply Kd.R_alloc | apply Kd.R_drewN | apply Kd.R_drew)); exact HO_12.out), (by repeat (first | (with_reducible first | exact HB.out | apply below_alloc | apply pw_below_drewN | apply below_drew1) | exact HB.out | exact Below.refl _ _))⟩)
                     ·
                      skip
                      rintro ⟨v299, v302⟩ w56 ⟨h0_, h1_, h2_, h3_⟩
                      have n0_ : Aside0 (Kd.R (Kd.int .u8) 5 w56 w.heap.size (fun k_ => some k_ ≠ (v302 : Value).ownBlock) v299 y298) := ⟨h0_⟩
                      have n1_ : Aside0 (Kd.R (Kd.int .u8) 5 w56 w.heap.size (fun k_ => some k_ ≠ (v299 : Value).ownBlock) v302 y301) := ⟨h1_⟩
                      have n2_ : Aside0 (Kd.R k27 27 w56 w.heap.size (fun _ => True) (.slice Ao11 x12_1.length co11) x12_1) := ⟨h2_⟩
                      have n3_ : Aside0 (Below w.heap.size w w56) := ⟨h3_⟩
                      clear HO_12
                      clear HB
                      clear h0_ h1_ h2_ h3_
                      have HO300 := n0_
                      have HO303 := n1_
                      have HO_12 := n2_
                      have HB := n3_
                      clear n0_ n1_ n2_ n3_
                      have hHeld := trivial
                      refine norm_ (a' := ?_) ?_ ?_
                      rotate_left
                      ·
                       simp only [putAll, Act.put, List.setIfInBounds_toArray, List.set_cons_zero, List.set_cons_succ]
                       rfl
                      refine one_ (i := 9) (N := some 80) #[true, true, true, true, true, true, true, true, true, true, true, true, true, true, true, false, false, false] rfl rfl (one_of HT_.out (by kernel_rfl)) (by decide) (fun K hK => ?_)
                      have hcv57 := own_string (P := Try.prog) Try.underlying33 Try.underlying5 Try.underlying9 (Kd.own_of_R HO300.out)
                      refine value_ (w1 := ?_) (v := ?_) (by rfl) rfl ?_ ?_
                      rotate_left 2
                      ·
                       go_simp
                       constructor
                       · rfl
                       · rfl
                      clear hcv57
                      refine hK.out _ _ trivial (fun hHeld => ?_)
                      clear hK K
                      refine norm_ (a' := ?_) ?_ ?_
                      rotate_left
                      ·
                       show Act.put _ (some 80) _ = _
                       simp only [Act.put, List.setIfInBounds_toArray, List.set_cons_zero, List.set_cons_succ, i64_w, i32_w]
                       rfl
                      exact norm_ (by first | (simp only [putAll, Act.put, List.setIfInBounds_toArray, List.set_cons_zero, List.set_cons_succ]; done) | (simp only [putAll, Act.put, List.setIfInBounds_toArray, List.set_cons_zero, List.set_cons_succ]; rfl)) (hJ8_9_13_14 (v299, v302) _ ⟨(by (with_reducible repeat (first | apply Kd.R_alloc | apply Kd.R_drewN | apply Kd.R_drew)); exact HO300.out), (by (with_reducible repeat (first | apply Kd.R_alloc | apply Kd.R_drewN | apply Kd.R_drew)); exact HO303.out), (by (with_reducible repeat (first | apply Kd.R_alloc | apply Kd.R_drewN | apply Kd.R_drew)); exact HO_12.out), (by repeat (first | (with_reducible first | exact HB.out | apply below_alloc | apply pw_below_drewN | apply below_drew1) | exact HB.out | exact Below.refl _ _))⟩)
                    ·
                     skip
                     rintro ⟨v299, v302⟩ w56 ⟨h0_, h1_, h2_, h3_⟩
                     have n0_ : Aside0 (Kd.R (Kd.int .u8) 5 w56 w.heap.size (fun k_ => some k_ ≠ (v302 : Value).ownBlock) v299 y298) := ⟨h0_⟩
                     have n1_ : Aside0 (Kd.R (Kd.int .u8) 5 w56 w.heap.size (fun k_ => some k_ ≠ (v299 : Value).ownBlock) v302 y301) := ⟨h1_⟩
                     have n2_ : Aside0 (Kd.R k27 27 w56 w.heap.size (fun _ => True) (.slice Ao11 x12_1.length co11) x12_1) := ⟨h2_⟩
                     have n3_ : Aside0 (Below w.heap.size w w56) := ⟨h3_⟩
                     clear HO_12
                     clear HB
                     clear h0_ h1_ h2_ h3_
                     have HO300 := n0_
                     have HO303 := n1_
                     have HO_12 := n2_
                     have HB := n3_
                     clear n0_ n1_ n2_ n3_
                     have hHeld := trivial
                     refine norm_ (a' := ?_) ?_ ?_
                     rotate_left
                     ·
                      simp only [putAll, Act.put, List.setIfInBounds_toArray, List.set_cons_zero, List.set_cons_succ]
                      rfl
                     refine one_ (i := 14) (N := some 85) #[true, true, true, true, true, true, true, true, true, true, true, true, true, true, true, false, false, false] rfl rfl (one_of HT_.out (by kernel_rfl)) (by decide) (fun K hK => ?_)
                     have hcv57 := own_string (P := Try.prog) Try.underlying33 Try.underlying5 Try.underlying9 (Kd.own_of_R HO303.out)
                     refine value_ (w1 := ?_) (v := ?_) (by rfl) rfl ?_ ?_
                     rotate_left 2
                     ·
                      go_simp
                      constructor
                      · rfl
                      · rfl
                     clear hcv57
                     refine hK.out _ _ trivial (fun hHeld => ?_)
                     clear hK K
                     refine norm_ (a' := ?_) ?_ ?_
                     rotate_left
                     ·
                      show Act.put _ (some 85) _ = _
                      simp only [Act.put, List.setIfInBounds_toArray, List.set_cons_zero, List.set_cons_succ, i64_w, i32_w]
                      rfl
                     exact norm_ (by first | (simp only [putAll, Act.put, List.setIfInBounds_toArray, List.set_cons_zero, List.set_cons_succ]; done) | (simp only [putAll, Act.put, List.setIfInBounds_toArray, List.set_cons_zero, List.set_cons_succ]; rfl)) (hJ8_9_13_14 (v299, v302) _ ⟨(by (with_reducible repeat (first | apply Kd.R_alloc | apply Kd.R_drewN | apply Kd.R_drew)); exact HO300.out), (by (with_reducible repeat (first | apply Kd.R_alloc | apply Kd.R_drewN | apply Kd.R_drew)); exact HO303.out), (by (with_reducible repeat (first | apply Kd.R_alloc | apply Kd.R_drewN | apply Kd.R_drew)); exact HO_12.out), (by repeat (first | (with_reducible first | exact HB.out | apply below_alloc | apply pw_below_drewN | apply below_drew1) | exact HB.out | exact Below.refl _ _))⟩)
                   rintro ⟨v299, v302⟩ w57 ⟨h0_, h1_, h2_, h3_⟩
                   have n0_ : Aside0 (Kd.R (Kd.int .u8) 5 w57 w.heap.size (fun k_ => some k_ ≠ (v302 : Value).ownBlock) v299 y298) := ⟨h0_⟩
                   have n1_ : Aside0 (Kd.R (Kd.int .u8) 5 w57 w.heap.size (fun k_ => some k_ ≠ (v299 : Value).ownBlock) v302 y301) := ⟨h1_⟩
                   have n2_ : Aside0 (Kd.R k27 27 w57 w.heap.size (fun _ => True) (.slice Ao11 x12_1.length co11) x12_1) := ⟨h2_⟩
                   have n3_ : Aside0 (Below w.heap.size w w57) := ⟨h3_⟩
                   clear HO_12
                   clear HB
                   clear h0_ h1_ h2_ h3_
                   have HO300 := n0_
                   have HO303 := n1_
                   have HO_12 := n2_
                   have HB := n3_
                   clear n0_ n1_ n2_ n3_
                   have hHeld := trivial
                   have p47 : 0 ≤ ((ji44) : Int) := of_decide_eq_true (by first | (with_reducible assumption) | assumption)
                   have q47 : ((ji44) : Int) < ((x12_1.length : Int) : Int) := of_decide_eq_true (by first | (with_reducible assumption) | assumption)
                   obtain ⟨go47, co47, eo47, gb47, gl47, cl47, HG47⟩ := Kd.R_form HO_12.out (by omega)
                   (first | cases eo47 | (injection eo47 with ea_ en_ ec_; (first | subst ea_ | (injection ea_ with ea_; subst ea_)); subst ec_; clear en_))
                   have GB47 := Aside0.mk gb47
                   have GG47 := Aside0.mk HG47
                   clear gb47 gl47 HG47
                   obtain ⟨ce47, hcl47, hM47, hcc47, hfr47⟩ := Kd.R_elem HO_12.out z27 ((ji44) : Int) p47 q47
                   obtain rfl := k27_openM hM47
                   have hx47_0 : World.cell? _ ⟨go47, ((ji44) : Int).toNat * 3, none⟩ = some (.int .i64 ((rd_T27 x12_1 (ji44)).f0)) := hcc47 0 _ rfl
                   have hx47_1 : World.cell? _ ⟨go47, ((ji44) : Int).toNat * 3 + 1, none⟩ = some (.string ((rd_T27 x12_1 (ji44)).f1)) := hcc47 1 _ rfl
                   have hx47_2 : World.cell? _ ⟨go47, ((ji44) : Int).toNat * 3 + 2, none⟩ = some (.string ((rd_T27 x12_1 (ji44)).f2)) := hcc47 2 _ rfl
                   have hf47_0 : World.frozen? _ ⟨go47, ((ji44) : Int).toNat * 3, none⟩ = false := hfr47 0
                   have hf47_1 : World.frozen? _ ⟨go47, ((ji44) : Int).toNat * 3 + 1, none⟩ = false := hfr47 1
                   have hf47_2 : World.frozen? _ ⟨go47, ((ji44) : Int).toNat * 3 + 2, none⟩ = false := hfr47 2
                   clear hcl47 hcc47 hfr47 hM47
                   replace p47 := eq_true p47
                   replace q47 := eq_true q47
                   obtain ⟨ce58, hcl58, hM58, hcc58, hfr58⟩ := Kd.R_elem HO_12.out z27 ((ji44) : Int) (of_decide_eq_true (by first | (with_reducible assumption) | assumption)) (by have h_ : ((ji44) : Int) < ((x12_1.length : Int) : Int) := of_decide_eq_true (by first | (with_reducible assumption) | assumption); first | exact h_ | (have e_ := (Kd.R_reads' HO_12.out).1; omega) | simpa using h_)
                   obtain rfl := k27_openM hM58
                   have HP58 := (Kd.R_seg HO_12.out ((ji44) : Int) (of_decide_eq_true (by first | (with_reducible assumption) | assumption)) (by have h_ : ((ji44) : Int) < ((x12_1.length : Int) : Int) := of_decide_eq_true (by first | (with_reducible assumption) | assumption); first | exact h_ | (have e_ := (Kd.R_reads' HO_12.out).1; omega) | simpa using h_) (seg := [.int .i64 (Int.tmod (wrap64 (a3)) 4), .string (strOfNums y298), .string (strOfNums y301)]) (j := 0) hcl58 hcc58 (show 3 ≤ 3 from by decide) (x' := (⟨Int.tmod (wrap64 (a3)) 4, strOfNums y298, strOfNums y301⟩ : S27)) (k27_mkM _ _ _ (⟨Int.tmod (wrap64 (a3)) 4, strOfNums y298, strOfNums y301⟩ : S27) ) (fun _ hk => hk)).1
                   rw [← Ny304.out] at HP58
                   have HQ58 := Aside0.mk HP58
                   clear hcl58 hcc58 hfr58 hM58 HP58
                   refine norm_ (a' := ?_) ?_ ?_
                   rotate_left
                   ·
                    simp only [putAll, Act.put, List.setIfInBounds_toArray, List.set_cons_zero, List.set_cons_succ]
                    rfl
                   refine pure_ (i := 15) (N := some 86) (v := ?_) (a' := ?_) #[true, true, true, true, true, true, true, true, true, true, true, true, true, true, true, true, false, false] rfl rfl (any_of HT_.out (by kernel_rfl)) (fun _ _ _ h => h) (Or.inl ⟨by rfl, ?_⟩) ?_ ?_
                   rotate_left
                   ·
                    intro w'
                    go_simp
                    with_reducible rfl
                   rotate_left
                   ·
                    simp only [Act.put, List.setIfInBounds_toArray, List.set_cons_zero, List.set_cons_succ, i64_w, i32_w]
                    rfl
                   refine pure_ (i := 16) (N := some 87) (v := ?_) (a' := ?_) #[true, true, true, true, true, true, true, true, true, true, true, true, true, true, true, true, true, false] rfl rfl (any_of HT_.out (by kernel_rfl)) (fun _ _ _ h => h) (Or.inl ⟨by rfl, ?_⟩) ?_ ?_
                   rotate_left
                   ·
                    intro w'
                    go_simp
                    with_reducible rfl
                   rotate_left
                   ·
                    simp only [Act.put, List.setIfInBounds_toArray, List.set_cons_zero, List.set_cons_succ, i64_w, i32_w]
                    rfl
                   refine last_ (i := 17) (N := none) #[true, true, true, true, true, true, true, true, true, true, true, true, true, true, true, true, true, true] rfl rfl (one_of HT_.out (by kernel_rfl)) (by decide) (fun K hK => ?_)
                   refine skip_ (w1 := ?_) (by rfl) rfl ?_ ?_
                   rotate_left
                   ·
                    go_simp
                    rfl
                   refine hK.out _ _ ?_
                   clear hK K
                   refine done_ (done_of HT_.out (by kernel_rfl)) ?_
                   go_upto_region 16 with (first | ((with_reducible refine gate_callee (f := 16) rfl ?_); refine goesL_ (some 89) rfl rfl Try.func16 (by kernel_rfl) rfl #[.slice (some ⟨go47, 0, none⟩) y304.length co11] rfl (by (try simp only [List.map_toArray, List.map_cons, List.map_nil]); first | done | (rw [show y304.length = x12_1.length from (Kd.R_reads' HQ58.out).1.symm] <;> rfl) | rfl | (simp only [List.length_drop, List.length_take]; rfl)) ?_; (with_reducible refine (batch_May.calls kj31 _ _ y304 t305 _ ?side1 ?side2 A48.out).mono ?_); (case side1 => refine (Kd.R_reads' (e := 27) (base := w.heap.size) (ok := fun k_ => True) (n := x12_1.length) (c := co11) ?_).2.2; exact (by (with_reducible repeat (first | apply Kd.R_alloc | apply Kd.R_drewN | apply Kd.R_drew)); exact HQ58.out)); (case side2 => rw [show y304.length = x12_1.length from (Kd.R_reads' HQ58.out).1.symm]; exact (Kd.R_reads' HO_12.out).2.1); rintro e w59 ⟨rfl, hb⟩; refine ⟨_, rfl, ?_⟩; have n0_ := Aside0.mk (Kd.R_below (by (with_reducible repeat (first | apply Kd.R_alloc | apply Kd.R_drewN | apply Kd.R_drew)); exact HQ58.out) hb); have n1_ := Aside0.mk (Kd.R_below (by (with_reducible repeat (first | apply Kd.R_alloc | apply Kd.R_drewN | apply Kd.R_drew)); exact (Kd.R_mono (Kd.R_far (p := ⟨go47, ((ji44) : Int).toNat * 3 + 2, none⟩) (Kd.R_far (p := ⟨go47, ((ji44) : Int).toNat * 3 + 1, none⟩) (Kd.R_far (p := ⟨go47, ((ji44) : Int).toNat * 3, none⟩) (Kd.R_types HO300.out GG47.out (by decide)) (fun _ hk => hk.2) (.int .i64 (Int.tmod (wrap64 (a3)) 4))) (fun _ hk => hk.2) (.string (strOfNums y298))) (fun _ hk => hk.2) (.string (strOfNums y301))) (fun _ h_ => h_.1))) hb); have n2_ := Aside0.mk (Kd.R_below (by (with_reducible repeat (first | apply Kd.R_alloc | apply Kd.R_drewN | apply Kd.R_drew)); exact (Kd.R_mono (Kd.R_far (p := ⟨go47, ((ji44) : Int).toNat * 3 + 2, none⟩) (Kd.R_far (p := ⟨go47, ((ji44) : Int).toNat * 3 + 1, none⟩) (Kd.R_far (p := ⟨go47, ((ji44) : Int).toNat * 3, none⟩) (Kd.R_types HO303.out GG47.out (by decide)) (fun _ hk => hk.2) (.int .i64 (Int.tmod (wrap64 (a3)) 4))) (fun _ hk => hk.2) (.string (strOfNums y298))) (fun _ hk => hk.2) (.string (strOfNums y301))) (fun _ h_ => h_.1))) hb); have n3_ := Aside0.mk (below_step (by repeat (first | (with_reducible first | exact HB.out | apply below_alloc | apply pw_below_drewN | apply below_drew1 | refine below_set ?_ GB47.out | refine below_set ?_ GB47.out | refine below_set ?_ GB47.out) | exact HB.out | exact Below.refl _ _)) hb); clear HO_12; clear HO300; clear HO303; clear HB; have HO_12 := n0_; have HO300 := n1_; have HO303 := n2_; have HB := n3_; clear n0_ n1_ n2_ n3_; (try clear hb); (try clear hb2); (try clear hk); (try clear hi)))
                   (try simp only [Act.put, List.setIfInBounds_toArray, List.set_cons_zero, List.set_cons_succ])
                   go_cut [90] (fun v90 wc => ∃ (kq : Nat) (x90_48 : Bool), v90 = .bool x90_48 ∧ Aside0 (iceboxlaw8_BatchMay.j3 kq y304 ji44 t305 0 x90_48 = some r) ∧ Aside0 (kq ≤ kj31) ∧ Aside0 (Kd.R k27 27 wc w.heap.size (fun _ => True) (.slice (some ⟨go47, 0, none⟩) x12_1.length co11) y304) ∧ Aside0 (Below w.heap.size w wc))
                   case first =>
                    have H := HC49.out
                    clear HC49
                    by_cases c60 : ((rd_T27 y304 (ji44)).f0) = 0
                    ·
                     rw [if_pos c60] at H
                     have c60b0 : (((rd_T27 y304 (ji44)).f0) == 0) = true := beq_iff_eq.mpr c60
                     have c60b1 : (((rd_T27 y304 (ji44)).f0) != 0) = false := bne_eq_false_iff_eq.mpr c60
                     clear c60
                     (first | rw [c60b0] | (simp only [i64_w, i32_w]; rw [c60b0]) | skip)
                     have H' := Aside0.mk H
                     clear H
                     have p306 : 0 ≤ ((ji44) : Int) := of_decide_eq_true (by first | (with_reducible assumption) | assumption)
                     have q306 : (ji44) < (y304.length : Int) := (by have h_ : ((ji44) : Int) < ((x12_1.length : Int) : Int) := of_decide_eq_true (by first | (with_reducible assumption) | assumption); first | (have e_ := (Kd.R_reads' HO_12.out).1; omega) | simpa only [Ny304.out, List.length_set] using h_)
                     have ql306 : (((ji44) : Int) < ((x12_1.length : Int) : Int)) = True := eq_true (of_decide_eq_true (by first | (with_reducible assumption) | assumption))
                     obtain ⟨ad306, e306, hx306_0, hx306_1, hx306_2⟩ := at_T27 (Kd.R_reads' HO_12.out).2.2 (ji44) p306 q306
                     obtain rfl : (⟨go47, 0, none⟩ : Addr) = ad306 := (by injection e306)
                     (first | simp only [add_plain] at hx306_0 | simp only [add_at] at hx306_0 | simp only [Addr.add, Nat.zero_add] at hx306_0 | skip)
                     (first | simp only [add_plain] at hx306_1 | simp only [add_at] at hx306_1 | simp only [Addr.add, Nat.zero_add] at hx306_1 | skip)
                     (first | simp only [add_plain] at hx306_2 | simp only [add_at] at hx306_2 | simp only [Addr.add, Nat.zero_add] at hx306_2 | skip)
                     replace p306 := eq_true p306
                     replace q306 := eq_true q306
                     go_wp2
                     go_meet
                     case rel => exact ⟨_, (true), (by first | rfl | (simp; done) | (simp [*]; done)), (by first | exact H' | (simp only [hji38, hji41, hji44]; exact H')), ⟨by have := HK1.out; have := HJ9.out; have := HJ31.out; first | omega | exact Nat.le_refl _⟩, ⟨by (with_reducible repeat (first | apply Kd.R_alloc | apply Kd.R_drewN | apply Kd.R_drew)); exact HO_12.out⟩, ⟨by repeat (first | (with_reducible first | exact HB.out | apply below_alloc | apply pw_below_drewN | apply below_drew1) | exact HB.out | exact Below.refl _ _)⟩⟩
                    ·
                     rw [if_neg c60] at H
                     have c60b0 : (((rd_T27 y304 (ji44)).f0) == 0) = false := beq_eq_false_iff_ne.mpr c60
                     have c60b1 : (((rd_T27 y304 (ji44)).f0) != 0) = true := bne_iff_ne.mpr c60
                     (first | rw [c60b0] | (simp only [i64_w, i32_w]; rw [c60b0]) | skip)
                     have H' := Aside0.mk H
                     clear H
                     have p306 : 0 ≤ ((ji44) : Int) := of_decide_eq_true (by first | (with_reducible assumption) | assumption)
                     have q306 : (ji44) < (y304.length : Int) := (by have h_ : ((ji44) : Int) < ((x12_1.length : Int) : Int) := of_decide_eq_true (by first | (with_reducible assumption) | assumption); first | (have e_ := (Kd.R_reads' HO_12.out).1; omega) | simpa only [Ny304.out, List.length_set] using h_)
                     have ql306 : (((ji44) : Int) < ((x12_1.length : Int) : Int)) = True := eq_true (of_decide_eq_true (by first | (with_reducible assumption) | assumption))
                     obtain ⟨ad306, e306, hx306_0, hx306_1, hx306_2⟩ := at_T27 (Kd.R_reads' HO_12.out).2.2 (ji44) p306 q306
                     obtain rfl : (⟨go47, 0, none⟩ : Addr) = ad306 := (by injection e306)
                     (first | simp only [add_plain] at hx306_0 | simp only [add_at] at hx306_0 | simp only [Addr.add, Nat.zero_add] at hx306_0 | skip)
                     (first | simp only [add_plain] at hx306_1 | simp only [add_at] at hx306_1 | simp only [Addr.add, Nat.zero_add] at hx306_1 | skip)
                     (first | simp only [add_plain] at hx306_2 | simp only [add_at] at hx306_2 | simp only [Addr.add, Nat.zero_add] at hx306_2 | skip)
                     replace p306 := eq_true p306
                     replace q306 := eq_true q306
                     have p307 : 0 ≤ ((ji44) : Int) := of_decide_eq_true (by first | (with_reducible assumption) | assumption)
                     have q307 : (ji44) < (y304.length : Int) := (by have h_ : ((ji44) : Int) < ((x12_1.length : Int) : Int) := of_decide_eq_true (by first | (with_reducible assumption) | assumption); first | (have e_ := (Kd.R_reads' HO_12.out).1; omega) | simpa only [Ny304.out, List.length_set] using h_)
                     have ql307 : (((ji44) : Int) < ((x12_1.length : Int) : Int)) = True := eq_true (of_decide_eq_true (by first | (with_reducible assumption) | assumption))
                     obtain ⟨ad307, e307, hx307_0, hx307_1, hx307_2⟩ := at_T27 (Kd.R_reads' HO_12.out).2.2 (ji44) p307 q307
                     obtain rfl : (⟨go47, 0, none⟩ : Addr) = ad307 := (by injection e307)
                     (first | simp only [add_plain] at hx307_0 | simp only [add_at] at hx307_0 | simp only [Addr.add, Nat.zero_add] at hx307_0 | skip)
                     (first | simp only [add_plain] at hx307_1 | simp only [add_at] at hx307_1 | simp only [Addr.add, Nat.zero_add] at hx307_1 | skip)
                     (first | simp only [add_plain] at hx307_2 | simp only [add_at] at hx307_2 | simp only [Addr.add, Nat.zero_add] at hx307_2 | skip)
                     replace p307 := eq_true p307
                     replace q307 := eq_true q307
                     go_wp2
                     go_meet
                     case rel => exact ⟨_, ((((rd_T27 y304 (ji44)).f0) == 3)), (by first | rfl | (simp; done) | (simp only [← hji44] <;> (first | rfl | simp)) | (simp [*]; done)), (by first | exact H' | (simp only [hji38, hji41, hji44]; exact H')), ⟨by have := HK1.out; have := HJ9.out; have := HJ31.out; first | omega | exact Nat.le_refl _⟩, ⟨by (with_reducible repeat (first | apply Kd.R_alloc | apply Kd.R_drewN | apply Kd.R_drew)); exact HO_12.out⟩, ⟨by repeat (first | (with_reducible first | exact HB.out | apply below_alloc | apply pw_below_drewN | apply below_drew1) | exact HB.out | exact Below.refl _ _)⟩⟩
                   case rest =>
                    as_aux_lemma =>
                     clear HC49
                     obtain ⟨kq, x90_48, rfl, HA, HJ48, HO_12, HB⟩ := hcut
                     have hl12_48 := (Kd.R_reads' HO_12.out).1
                     rw [hl12_48] at HO_12
                     (try simp only [hl12_48])
                     cases kq with
                     | zero => exact absurd HA.out (by simp [iceboxlaw8_BatchMay.j3])
                     | succ kj48 =>
                      have H := HA.out
                      clear HA
                      simp only [iceboxlaw8_BatchMay.j3] at H
                      by_cases c61 : x90_48 = true
                      ·
                       subst c61
                       have H1 : ((iceboxlaw1_Num.f t305).bind fun t308 => (if t308 = 1 then ((iceboxlaw8_awake.f kj48).bind fun t309 => (some t309)) else (some false))) = some r := by rw [if_pos rfl] at H; exact H
                       clear H
                       have H := H1
                       clear H1
                       replace H := Option.bind_eq_some_iff.mp H
                       obtain ⟨t308, A620, H⟩ := H
                       replace H : (if t308 = 1 then ((iceboxlaw8_awake.f kj48).bind fun t309 => (some t309)) else (some false)) = some r := H
                       have A62 := Aside0.mk A620
                       clear A620
                       by_cases c63 : t308 = 1
                       ·
                        rw [if_pos c63] at H
                        have c63b0 : (t308 == 1) = true := beq_iff_eq.mpr c63
                        have c63b1 : (t308 != 1) = false := bne_eq_false_iff_eq.mpr c63
                        clear c63
                        replace H := Option.bind_eq_some_iff.mp H
                        obtain ⟨t309, A640, H⟩ := H
                        replace H : (some t309) = some r := H
                        have A64 := Aside0.mk A640
                        clear A640
                        obtain rfl := Option.some.inj H
                        go_wp2_with (first | ((with_reducible refine gate_callee (f := 17) rfl ?_); refine goesL_ (some 138) rfl rfl Try.func17 (by kernel_rfl) rfl #[.int .i64 t305] rfl (by (try simp only [List.map_toArray, List.map_cons, List.map_nil]); first | done | rfl | (simp only [List.length_drop, List.length_take]; rfl)) ?_; (with_reducible refine (iceboxlaw1_Num.calls t305 t308 _ A62.out).mono ?_); rintro e w' ⟨rfl, ⟨nd, rfl⟩⟩; refine ⟨_, rfl, ?_⟩) | (go_at_call 13; (with_reducible refine (iceboxlaw8_awake.calls kj48  t309 _ A64.out).mono ?_); rintro e w65 ⟨rfl, hb⟩; have n0_ := Aside0.mk (Kd.R_below (by (with_reducible repeat (first | apply Kd.R_alloc | apply Kd.R_drewN | apply Kd.R_drew)); exact HO_12.out) hb); have n1_ := Aside0.mk (below_step (by repeat (first | (with_reducible first | exact HB.out | apply below_alloc | apply pw_below_drewN | apply below_drew1) | exact HB.out | exact Below.refl _ _)) hb); clear HO_12; clear HB; have HO_12 := n0_; have HB := n1_; clear n0_ n1_; (try clear hb); (try clear hb2); (try clear hk); (try clear hi)))
                        go_ret
                        exact ⟨by first | rfl | (simp [errW_none, errW_some] <;> rfl) | (simp only [← hji38, ← hji41, ← hji44]; first | rfl | (simp [errW_none, errW_some] <;> rfl)) | (simp [*, errW_none, errW_some] <;> rfl), by repeat (first | (with_reducible first | exact HB.out | apply below_alloc | apply pw_below_drewN | apply below_drew1) | exact HB.out | exact Below.refl _ _)⟩
                       ·
                        rw [if_neg c63] at H
                        have c63b0 : (t308 == 1) = false := beq_eq_false_iff_ne.mpr c63
                        have c63b1 : (t308 != 1) = true := bne_iff_ne.mpr c63
                        exact absurd ((Option.some.inj H).trans hR_.out) (by decide)
                      ·
                       replace c61 := Bool.eq_false_iff.mpr c61
                       subst c61
                       have H1 : (if 0 ≤ ji44 then (if ji44 < (y304.length : Int) then (if (((rd_T27 y304 ji44).f1).size : Int) > 64 then (iceboxlaw8_BatchMay.j4 kj48 y304 ji44 t305 0 true) else (iceboxlaw8_BatchMay.j4 kj48 y304 ji44 t305 0 (decide ((((rd_T27 y304 ji44).f2).size : Int) > 512)))) else (none)) else (none)) = some r := by rw [if_neg (show ¬ (false = true) by decide)] at H; exact H
                       clear H
                       have H := H1
                       clear H1
                       have HC66 := Aside0.mk H
                       clear H
                       go_upto_region 18 with (fail)
                       go_cut [105] (fun v105 wc => ∃ (kq : Nat) (x105_65 : Bool), v105 = .bool x105_65 ∧ Aside0 (iceboxlaw8_BatchMay.j4 kq y304 ji44 t305 0 x105_65 = some r) ∧ Aside0 (kq ≤ kj48) ∧ Aside0 (Kd.R k27 27 wc w.heap.size (fun _ => True) (.slice (some ⟨go47, 0, none⟩) y304.length co11) y304) ∧ Aside0 (Below w.heap.size w wc))
                       case first =>
                        have H := HC66.out
                        clear HC66
                        by_cases c67 : 0 ≤ ji44
                        ·
                         rw [if_pos c67] at H
                         have c67b0 : decide (0 ≤ ji44) = true := decide_eq_true c67
                         clear c67
                         (first | rw [c67b0] | (simp only [i64_w, i32_w]; rw [c67b0]) | skip)
                         by_cases c68 : ji44 < (y304.length : Int)
                         ·
                          rw [if_pos c68] at H
                          have c68b0 : decide (ji44 < (y304.length : Int)) = true := decide_eq_true c68
                          clear c68
                          by_cases c69 : (((rd_T27 y304 ji44).f1).size : Int) > 64
                          ·
                           rw [if_pos c69] at H
                           have c69b0 : decide (64 < (((rd_T27 y304 ji44).f1).size : Int)) = true := decide_eq_true c69
                           have c69b1 : decide (64 < ((rd_T27 y304 ji44).f1).size) = true := decide_eq_true (by omega)
                           clear c69
                           have H' := Aside0.mk H
                           clear H
                           have p310 : 0 ≤ (ji44 : Int) := of_decide_eq_true (by first | (with_reducible assumption) | assumption)
                           have q310 : ji44 < (y304.length : Int) := of_decide_eq_true (by first | (with_reducible assumption) | assumption)
                           obtain ⟨ad310, e310, hx310_0, hx310_1, hx310_2⟩ := at_T27 (Kd.R_reads' HO_12.out).2.2 ji44 p310 q310
                           obtain rfl : (⟨go47, 0, none⟩ : Addr) = ad310 := (by injection e310)
                           (first | simp only [add_plain] at hx310_0 | simp only [add_at] at hx310_0 | simp only [Addr.add, Nat.zero_add] at hx310_0 | skip)
                           (first | simp only [add_plain] at hx310_1 | simp only [add_at] at hx310_1 | simp only [Addr.add, Nat.zero_add] at hx310_1 | skip)
                           (first | simp only [add_plain] at hx310_2 | simp only [add_at] at hx310_2 | simp only [Addr.add, Nat.zero_add] at hx310_2 | skip)
                           replace p310 := eq_true p310
                           replace q310 := eq_true q310
                           go_wp2
                           go_meet
                           case rel => exact ⟨_, (true), (by first | rfl | (simp; done) | (simp [*]; done)), (by first | exact H' | (simp only [hji38, hji41, hji44]; exact H')), ⟨by have := HK1.out; have := HJ9.out; have := HJ31.out; have := HJ48.out; first | omega | exact Nat.le_refl _⟩, ⟨by (try simp only [hl12_48]); (with_reducible repeat (first | apply Kd.R_alloc | apply Kd.R_drewN | apply Kd.R_drew)); exact HO_12.out⟩, ⟨by repeat (first | (with_reducible first | exact HB.out | apply below_alloc | apply pw_below_drewN | apply below_drew1) | exact HB.out | exact Below.refl _ _)⟩⟩
                          ·
                           rw [if_neg c69] at H
                           have c69b0 : decide (64 < (((rd_T27 y304 ji44).f1).size : Int)) = false := decide_eq_false c69
                           have c69b1 : decide (64 < ((rd_T27 y304 ji44).f1).size) = false := decide_eq_false (by omega)
                           clear c69
                           have H' := Aside0.mk H
                           clear H
                           have p310 : 0 ≤ (ji44 : Int) := of_decide_eq_true (by first | (with_reducible assumption) | assumption)
                           have q310 : ji44 < (y304.length : Int) := of_decide_eq_true (by first | (with_reducible assumption) | assumption)
                           obtain ⟨ad310, e310, hx310_0, hx310_1, hx310_2⟩ := at_T27 (Kd.R_reads' HO_12.out).2.2 ji44 p310 q310
                           obtain rfl : (⟨go47, 0, none⟩ : Addr) = ad310 := (by injection e310)
                           (first | simp only [add_plain] at hx310_0 | simp only [add_at] at hx310_0 | simp only [Addr.add, Nat.zero_add] at hx310_0 | skip)
                           (first | simp only [add_plain] at hx310_1 | simp only [add_at] at hx310_1 | simp only [Addr.add, Nat.zero_add] at hx310_1 | skip)
                           (first | simp only [add_plain] at hx310_2 | simp only [add_at] at hx310_2 | simp only [Addr.add, Nat.zero_add] at hx310_2 | skip)
                           replace p310 := eq_true p310
                           replace q310 := eq_true q310
                           have p311 : 0 ≤ (ji44 : Int) := of_decide_eq_true (by first | (with_reducible assumption) | assumption)
                           have q311 : ji44 < (y304.length : Int) := of_decide_eq_true (by first | (with_reducible assumption) | assumption)
                           obtain ⟨ad311, e311, hx311_0, hx311_1, hx311_2⟩ := at_T27 (Kd.R_reads' HO_12.out).2.2 ji44 p311 q311
                           obtain rfl : (⟨go47, 0, none⟩ : Addr) = ad311 := (by injection e311)
                           (first | simp only [add_plain] at hx311_0 | simp only [add_at] at hx311_0 | simp only [Addr.add, Nat.zero_add] at hx311_0 | skip)
                           (first | simp only [add_plain] at hx311_1 | simp only [add_at] at hx311_1 | simp only [Addr.add, Nat.zero_add] at hx311_1 | skip)
                           (first | simp only [add_plain] at hx311_2 | simp only [add_at] at hx311_2 | simp only [Addr.add, Nat.zero_add] at hx311_2 | skip)
                           replace p311 := eq_true p311
                           replace q311 := eq_true q311
                           go_wp2
                           go_meet
                           case rel => exact ⟨_, (decide ((((rd_T27 y304 ji44).f2).size : Int) > 512)), (by first | rfl | (simp; done) | (simp only [← hji44] <;> (first | rfl | simp)) | (simp [*]; done)), (by first | exact H' | (simp only [hji38, hji41, hji44]; exact H')), ⟨by have := HK1.out; have := HJ9.out; have := HJ31.out; have := HJ48.out; first | omega | exact Nat.le_refl _⟩, ⟨by (try simp only [hl12_48]); (with_reducible repeat (first | apply Kd.R_alloc | apply Kd.R_drewN | apply Kd.R_drew)); exact HO_12.out⟩, ⟨by repeat (first | (with_reducible first | exact HB.out | apply below_alloc | apply pw_below_drewN | apply below_drew1) | exact HB.out | exact Below.refl _ _)⟩⟩
                         ·
                          rw [if_neg c68] at H
                          exact absurd H (by simp)
                        ·
                         rw [if_neg c67] at H
                         exact absurd H (by simp)
                       case rest =>
                        as_aux_lemma =>
                         clear HC66
                         obtain ⟨kq, x105_65, rfl, HA, HJ65, HO_12, HB⟩ := hcut
                         cases kq with
                         | zero => exact absurd HA.out (by simp [iceboxlaw8_BatchMay.j4])
                         | succ kj65 =>
                          have H := HA.out
                          clear HA
                          simp only [iceboxlaw8_BatchMay.j4] at H
                          by_cases c70 : x105_65 = true
                          ·
                           subst c70
                           have H1 : ((iceboxlaw1_Num.f t305).bind fun t312 => (if t312 = 4 then ((iceboxlaw8_awake.f kj65).bind fun t313 => (some t313)) else (some false))) = some r := by rw [if_pos rfl] at H; exact H
                           clear H
                           have H := H1
                           clear H1
                           replace H := Option.bind_eq_some_iff.mp H
                           obtain ⟨t312, A710, H⟩ := H
                           replace H : (if t312 = 4 then ((iceboxlaw8_awake.f kj65).bind fun t313 => (some t313)) else (some false)) = some r := H
                           have A71 := Aside0.mk A710
                           clear A710
                           by_cases c72 : t312 = 4
                           ·
                            rw [if_pos c72] at H
                            have c72b0 : (t312 == 4) = true := beq_iff_eq.mpr c72
                            have c72b1 : (t312 != 4) = false := bne_eq_false_iff_eq.mpr c72
                            clear c72
                            replace H := Option.bind_eq_some_iff.mp H
                            obtain ⟨t313, A730, H⟩ := H
                            replace H : (some t313) = some r := H
                            have A73 := Aside0.mk A730
                            clear A730
                            obtain rfl := Option.some.inj H
                            go_wp2_with (first | ((with_reducible refine gate_callee (f := 17) rfl ?_); refine goesL_ (some 138) rfl rfl Try.func17 (by kernel_rfl) rfl #[.int .i64 t305] rfl (by (try simp only [List.map_toArray, List.map_cons, List.map_nil]); first | done | rfl | (simp only [List.length_drop, List.length_take]; rfl)) ?_; (with_reducible refine (iceboxlaw1_Num.calls t305 t312 _ A71.out).mono ?_); rintro e w' ⟨rfl, ⟨nd, rfl⟩⟩; refine ⟨_, rfl, ?_⟩) | (go_at_call 13; (with_reducible refine (iceboxlaw8_awake.calls kj65  t313 _ A73.out).mono ?_); rintro e w74 ⟨rfl, hb⟩; have n0_ := Aside0.mk (Kd.R_below (by (with_reducible repeat (first | apply Kd.R_alloc | apply Kd.R_drewN | apply Kd.R_drew)); exact HO_12.out) hb); have n1_ := Aside0.mk (below_step (by repeat (first | (with_reducible first | exact HB.out | apply below_alloc | apply pw_below_drewN | apply below_drew1) | exact HB.out | exact Below.refl _ _)) hb); clear HO_12; clear HB; have HO_12 := n0_; have HB := n1_; clear n0_ n1_; (try clear hb); (try clear hb2); (try clear hk); (try clear hi)))
                            go_ret
                            exact ⟨by first | rfl | (simp [errW_none, errW_some] <;> rfl) | (simp only [← hji38, ← hji41, ← hji44]; first | rfl | (simp [errW_none, errW_some] <;> rfl)) | (simp [*, errW_none, errW_some] <;> rfl), by repeat (first | (with_reducible first | exact HB.out | apply below_alloc | apply pw_below_drewN | apply below_drew1) | exact HB.out | exact Below.refl _ _)⟩
                           ·
                            rw [if_neg c72] at H
                            have c72b0 : (t312 == 4) = false := beq_eq_false_iff_ne.mpr c72
                            have c72b1 : (t312 != 4) = true := bne_iff_ne.mpr c72
                            exact absurd ((Option.some.inj H).trans hR_.out) (by decide)
                          ·
                           replace c70 := Bool.eq_false_iff.mpr c70
                           subst c70
                           have H1 : (if 0 ≤ ji44 then (if ji44 < (y304.length : Int) then (if ((rd_T27 y304 ji44).f0) = 2 then (iceboxlaw8_BatchMay.j5 kj65 t305 0 (((rd_T27 y304 ji44).f2).toList != ([] : List UInt8))) else (iceboxlaw8_BatchMay.j5 kj65 t305 0 false)) else (none)) else (none)) = some r := by rw [if_neg (show ¬ (false = true) by decide)] at H; exact H
                           clear H
                           have H := H1
                           clear H1
                           have HC75 := Aside0.mk H
                           clear H
                           go_upto_region 20 with (fail)
                           go_cut [122] (fun v122 wc => ∃ (kq : Nat) (x122_74 : Bool), v122 = .bool x122_74 ∧ Aside0 (iceboxlaw8_BatchMay.j5 kq t305 0 x122_74 = some r) ∧ Aside0 (kq ≤ kj65) ∧ Aside0 (Below w.heap.size w wc))
                           case first =>
                            have H := HC75.out
                            clear HC75
                            by_cases c76 : 0 ≤ ji44
                            ·
                             rw [if_pos c76] at H
                             have c76b0 : decide (0 ≤ ji44) = true := decide_eq_true c76
                             clear c76
                             (first | rw [c76b0] | (simp only [i64_w, i32_w]; rw [c76b0]) | skip)
                             by_cases c77 : ji44 < (y304.length : Int)
                             ·
                              rw [if_pos c77] at H
                              have c77b0 : decide (ji44 < (y304.length : Int)) = true := decide_eq_true c77
                              clear c77
                              by_cases c78 : ((rd_T27 y304 ji44).f0) = 2
                              ·
                               rw [if_pos c78] at H
                               have c78b0 : (((rd_T27 y304 ji44).f0) == 2) = true := beq_iff_eq.mpr c78
                               have c78b1 : (((rd_T27 y304 ji44).f0) != 2) = false := bne_eq_false_iff_eq.mpr c78
                               clear c78
                               have H' := Aside0.mk H
                               clear H
                               have p314 : 0 ≤ (ji44 : Int) := of_decide_eq_true (by first | (with_reducible assumption) | assumption)
                               have q314 : ji44 < (y304.length : Int) := of_decide_eq_true (by first | (with_reducible assumption) | assumption)
                               obtain ⟨ad314, e314, hx314_0, hx314_1, hx314_2⟩ := at_T27 (Kd.R_reads' HO_12.out).2.2 ji44 p314 q314
                               obtain rfl : (⟨go47, 0, none⟩ : Addr) = ad314 := (by injection e314)
                               (first | simp only [add_plain] at hx314_0 | simp only [add_at] at hx314_0 | simp only [Addr.add, Nat.zero_add] at hx314_0 | skip)
                               (first | simp only [add_plain] at hx314_1 | simp only [add_at] at hx314_1 | simp only [Addr.add, Nat.zero_add] at hx314_1 | skip)
                               (first | simp only [add_plain] at hx314_2 | simp only [add_at] at hx314_2 | simp only [Addr.add, Nat.zero_add] at hx314_2 | skip)
                               replace p314 := eq_true p314
                               replace q314 := eq_true q314
                               have p315 : 0 ≤ (ji44 : Int) := of_decide_eq_true (by first | (with_reducible assumption) | assumption)
                               have q315 : ji44 < (y304.length : Int) := of_decide_eq_true (by first | (with_reducible assumption) | assumption)
                               obtain ⟨ad315, e315, hx315_0, hx315_1, hx315_2⟩ := at_T27 (Kd.R_reads' HO_12.out).2.2 ji44 p315 q315
                               obtain rfl : (⟨go47, 0, none⟩ : Addr) = ad315 := (by injection e315)
                               (first | simp only [add_plain] at hx315_0 | simp only [add_at] at hx315_0 | simp only [Addr.add, Nat.zero_add] at hx315_0 | skip)
                               (first | simp only [add_plain] at hx315_1 | simp only [add_at] at hx315_1 | simp only [Addr.add, Nat.zero_add] at hx315_1 | skip)
                               (first | simp only [add_plain] at hx315_2 | simp only [add_at] at hx315_2 | simp only [Addr.add, Nat.zero_add] at hx315_2 | skip)
                               replace p315 := eq_true p315
                               replace q315 := eq_true q315
                               go_wp2
                               go_meet
                               case rel => exact ⟨_, ((((rd_T27 y304 ji44).f2).toList != ([] : List UInt8))), (by first | rfl | (simp; done) | (simp only [← hji44] <;> (first | rfl | (simp; done) | (simp; exact isE_ _))) | (simp [*]; done)), (by first | exact H' | (simp only [hji38, hji41, hji44]; exact H')), ⟨by have := HK1.out; have := HJ9.out; have := HJ31.out; have := HJ48.out; have := HJ65.out; first | omega | exact Nat.le_refl _⟩, ⟨by repeat (first | (with_reducible first | exact HB.out | apply below_alloc | apply pw_below_drewN | apply below_drew1) | exact HB.out | exact Below.refl _ _)⟩⟩
                              ·
                               rw [if_neg c78] at H
                               have c78b0 : (((rd_T27 y304 ji44).f0) == 2) = false := beq_eq_false_iff_ne.mpr c78
                               have c78b1 : (((rd_T27 y304 ji44).f0) != 2) = true := bne_iff_ne.mpr c78
                               have H' := Aside0.mk H
                               clear H
                               have p314 : 0 ≤ (ji44 : Int) := of_decide_eq_true (by first | (with_reducible assumption) | assumption)
                               have q314 : ji44 < (y304.length : Int) := of_decide_eq_true (by first | (with_reducible assumption) | assumption)
                               obtain ⟨ad314, e314, hx314_0, hx314_1, hx314_2⟩ := at_T27 (Kd.R_reads' HO_12.out).2.2 ji44 p314 q314
                               obtain rfl : (⟨go47, 0, none⟩ : Addr) = ad314 := (by injection e314)
                               (first | simp only [add_plain] at hx314_0 | simp only [add_at] at hx314_0 | simp only [Addr.add, Nat.zero_add] at hx314_0 | skip)
                               (first | simp only [add_plain] at hx314_1 | simp only [add_at] at hx314_1 | simp only [Addr.add, Nat.zero_add] at hx314_1 | skip)
                               (first | simp only [add_plain] at hx314_2 | simp only [add_at] at hx314_2 | simp only [Addr.add, Nat.zero_add] at hx314_2 | skip)
                               replace p314 := eq_true p314
                               replace q314 := eq_true q314
                               go_wp2
                               go_meet
                               case rel => exact ⟨_, (false), (by first | rfl | (simp; done) | (simp [*]; done)), (by first | exact H' | (simp only [hji38, hji41, hji44]; exact H')), ⟨by have := HK1.out; have := HJ9.out; have := HJ31.out; have := HJ48.out; have := HJ65.out; first | omega | exact Nat.le_refl _⟩, ⟨by repeat (first | (with_reducible first | exact HB.out | apply below_alloc | apply pw_below_drewN | apply below_drew1) | exact HB.out | exact Below.refl _ _)⟩⟩
                             ·
                              rw [if_neg c77] at H
                              exact absurd H (by simp)
                            ·
                             rw [if_neg c76] at H
                             exact absurd H (by simp)
                           case rest =>
                            as_aux_lemma =>
                             clear HC75
                             obtain ⟨kq, x122_74, rfl, HA, HJ74, HB⟩ := hcut
                             cases kq with
                             | zero => exact absurd HA.out (by simp [iceboxlaw8_BatchMay.j5])
                             | succ kj74 =>
                              have H := HA.out
                              clear HA
                              simp only [iceboxlaw8_BatchMay.j5] at H
                              by_cases c79 : x122_74 = true
                              ·
                               subst c79
                               have H1 : ((iceboxlaw1_Num.f t305).bind fun t316 => (if t316 = 1 then ((iceboxlaw8_awake.f kj74).bind fun t317 => (some t317)) else (some false))) = some r := by rw [if_pos rfl] at H; exact H
                               clear H
                               have H := H1
                               clear H1
                               replace H := Option.bind_eq_some_iff.mp H
                               obtain ⟨t316, A800, H⟩ := H
                               replace H : (if t316 = 1 then ((iceboxlaw8_awake.f kj74).bind fun t317 => (some t317)) else (some false)) = some r := H
                               have A80 := Aside0.mk A800
                               clear A800
                               by_cases c81 : t316 = 1
                               ·
                                rw [if_pos c81] at H
                                have c81b0 : (t316 == 1) = true := beq_iff_eq.mpr c81
                                have c81b1 : (t316 != 1) = false := bne_eq_false_iff_eq.mpr c81
                                clear c81
                                replace H := Option.bind_eq_some_iff.mp H
                                obtain ⟨t317, A820, H⟩ := H
                                replace H : (some t317) = some r := H
                                have A82 := Aside0.mk A820
                                clear A820
                                obtain rfl := Option.some.inj H
                                go_wp2_with (first | ((with_reducible refine gate_callee (f := 17) rfl ?_); refine goesL_ (some 138) rfl rfl Try.func17 (by kernel_rfl) rfl #[.int .i64 t305] rfl (by (try simp only [List.map_toArray, List.map_cons, List.map_nil]); first | done | rfl | (simp only [List.length_drop, List.length_take]; rfl)) ?_; (with_reducible refine (iceboxlaw1_Num.calls t305 t316 _ A80.out).mono ?_); rintro e w' ⟨rfl, ⟨nd, rfl⟩⟩; refine ⟨_, rfl, ?_⟩) | (go_at_call 13; (with_reducible refine (iceboxlaw8_awake.calls kj74  t317 _ A82.out).mono ?_); rintro e w83 ⟨rfl, hb⟩; have n0_ := Aside0.mk (below_step (by repeat (first | (with_reducible first | exact HB.out | apply below_alloc | apply pw_below_drewN | apply below_drew1) | exact HB.out | exact Below.refl _ _)) hb); clear HB; have HB := n0_; clear n0_; (try clear hb); (try clear hb2); (try clear hk); (try clear hi)))
                                go_ret
                                exact ⟨by first | rfl | (simp [errW_none, errW_some] <;> rfl) | (simp only [← hji38, ← hji41, ← hji44]; first | rfl | (simp [errW_none, errW_some] <;> rfl)) | (simp [*, errW_none, errW_some] <;> rfl), by repeat (first | (with_reducible first | exact HB.out | apply below_alloc | apply pw_below_drewN | apply below_drew1) | exact HB.out | exact Below.refl _ _)⟩
                               ·
                                rw [if_neg c81] at H
                                have c81b0 : (t316 == 1) = false := beq_eq_false_iff_ne.mpr c81
                                have c81b1 : (t316 != 1) = true := bne_iff_ne.mpr c81
                                exact absurd ((Option.some.inj H).trans hR_.out) (by decide)
                              ·
                               replace c79 := Bool.eq_false_iff.mpr c79
                               subst c79
                               have H1 : ((iceboxlaw1_Num.f t305).bind fun t318 => (if t318 = 0 then ((iceboxlaw8_awake.f kj74).bind fun t319 => (some t319)) else (some false))) = some r := by rw [if_neg (show ¬ (false = true) by decide)] at H; exact H
                               clear H
                               have H := H1
                               clear H1
                               replace H := Option.bind_eq_some_iff.mp H
                               obtain ⟨t318, A840, H⟩ := H
                               replace H : (if t318 = 0 then ((iceboxlaw8_awake.f kj74).bind fun t319 => (some t319)) else (some false)) = some r := H
                               have A84 := Aside0.mk A840
                               clear A840
                               by_cases c85 : t318 = 0
                               ·
                                rw [if_pos c85] at H
                                have c85b0 : (t318 == 0) = true := beq_iff_eq.mpr c85
                                have c85b1 : (t318 != 0) = false := bne_eq_false_iff_eq.mpr c85
                                clear c85
                                replace H := Option.bind_eq_some_iff.mp H
                                obtain ⟨t319, A860, H⟩ := H
                                replace H : (some t319) = some r := H
                                have A86 := Aside0.mk A860
                                clear A860
                                obtain rfl := Option.some.inj H
                                go_wp2_with (first | ((with_reducible refine gate_callee (f := 17) rfl ?_); refine goesL_ (some 138) rfl rfl Try.func17 (by kernel_rfl) rfl #[.int .i64 t305] rfl (by (try simp only [List.map_toArray, List.map_cons, List.map_nil]); first | done | rfl | (simp only [List.length_drop, List.length_take]; rfl)) ?_; (with_reducible refine (iceboxlaw1_Num.calls t305 t318 _ A84.out).mono ?_); rintro e w' ⟨rfl, ⟨nd, rfl⟩⟩; refine ⟨_, rfl, ?_⟩) | (go_at_call 13; (with_reducible refine (iceboxlaw8_awake.calls kj74  t319 _ A86.out).mono ?_); rintro e w87 ⟨rfl, hb⟩; have n0_ := Aside0.mk (below_step (by repeat (first | (with_reducible first | exact HB.out | apply below_alloc | apply pw_below_drewN | apply below_drew1) | exact HB.out | exact Below.refl _ _)) hb); clear HB; have HB := n0_; clear n0_; (try clear hb); (try clear hb2); (try clear hk); (try clear hi)))
                                go_ret
                                exact ⟨by first | rfl | (simp [errW_none, errW_some] <;> rfl) | (simp only [← hji38, ← hji41, ← hji44]; first | rfl | (simp [errW_none, errW_some] <;> rfl)) | (simp [*, errW_none, errW_some] <;> rfl), by repeat (first | (with_reducible first | exact HB.out | apply below_alloc | apply pw_below_drewN | apply below_drew1) | exact HB.out | exact Below.refl _ _)⟩
                               ·
                                rw [if_neg c85] at H
                                have c85b0 : (t318 == 0) = false := beq_eq_false_iff_ne.mpr c85
                                have c85b1 : (t318 != 0) = true := bne_iff_ne.mpr c85
                                exact absurd ((Option.some.inj H).trans hR_.out) (by decide)
                  ·
                   rw [if_neg c46] at H
                   exact absurd H (by simp)
                 ·
                  rw [if_neg c45] at H
                  exact absurd H (by simp)
                ·
                 rw [if_neg c43] at H
                 exact absurd H (by simp)
               ·
                rw [if_neg c42] at H
                exact absurd H (by simp)
              ·
               rw [if_neg c40] at H
               exact absurd H (by simp)
             ·
              rw [if_neg c39] at H
              exact absurd H (by simp)

/-- THE ONE PURE STATEMENT of iceboxlaw8_BatchMay: yours. -/
def iceboxlaw8_BatchMay.Pure : Prop := ∀ (a0 : Int) (a1 : Int) (a2 : Int) (a3 : Int) (a4 : Int), (Lit.int .u8 a0).wf = true → (Lit.int .u8 a1).wf = true → (Lit.int .u16 a2).wf = true → (Lit.int .u8 a3).wf = true → (Lit.int .u8 a4).wf = true → ∃ k, iceboxlaw8_BatchMay.f k a0 a1 a2 a3 a4 = some true
theorem iceboxlaw8_BatchMay.walk (P : iceboxlaw8_BatchMay.Pure) (a0 : Int) (a1 : Int) (a2 : Int) (a3 : Int) (a4 : Int) (w : World) (w0 : (Lit.int .u8 a0).wf = true) (w1 : (Lit.int .u8 a1).wf = true) (w2 : (Lit.int .u16 a2).wf = true) (w3 : (Lit.int .u8 a3).wf = true) (w4 : (Lit.int .u8 a4).wf = true) :
 Calls Try.prog 4 #[.int .u8 a0, .int .u8 a1, .int .u16 a2, .int .u8 a3, .int .u8 a4] w fun e w' => e = .returned (.bool true) ∧ Below w.heap.size w w' := by
 obtain ⟨k, h⟩ := P a0 a1 a2 a3 a4 w0 w1 w2 w3 w4
 refine (iceboxlaw8_BatchMay.calls k a0 a1 a2 a3 a4 true w ⟨rfl⟩ h).mono ?_
 rintro e w' ⟨rfl, hd⟩
 exact ⟨rfl, hd⟩

end Go.Proofs.Ytgannkfpfhdhjaa.PBatchMay
