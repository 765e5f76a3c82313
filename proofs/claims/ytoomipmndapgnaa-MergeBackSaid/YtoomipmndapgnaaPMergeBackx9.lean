/- The functions that a law reaches, as Lean functions, each with the contract that its Go code comes to just these answers. Written by a program of this claim's author (wip/mkprint.py). No conditions. -/
import Derived.Test.YtoomipmndapgnaaPMergeBackx0
import Derived.Test.YtoomipmndapgnaaPMergeBackx1
import Derived.Test.YtoomipmndapgnaaPMergeBackx2
import Derived.Test.YtoomipmndapgnaaPMergeBackx7
import Derived.Test.YtoomipmndapgnaaPMergeBackx8
namespace Go.Proofs.Ytoomipmndapgnaa.PMergeBack
open Go.RowKit Go.Proofs.YtoomipmndapgnaaW.PrintWords Go.Proofs.YtoomipmndapgnaaW.PrintLast Go.Proofs.YtoomipmndapgnaaW.PrintMore
attribute [local go_sem] max2_int min2_int max_two min_two max_three min_three max_four min_four   -- for this text's walks alone
set_option linter.unusedVariables false
set_option linter.unusedSimpArgs false

attribute [local go_sem high] eqA47
/-! ### iceboxlaw15_MergeBack: function 7 -/
mutual
def iceboxlaw15_MergeBack.j0 : Nat → Int → Int → List (S31) → ByteArray → ByteArray → Option (Bool)
 | 0, _, _, _, _, _ => none
 | k + 1, x1, x4, x11, x12, x13 => (merge_View.f k x11 (wrap64 (x1)) x12 x13 false 1000).bind fun t268 => ((merge_View.f k x11 (wrap64 (x1)) x12 x13 true 1000).bind fun t271 => (if (t268.length : Int) = (t271.length : Int) then (iceboxlaw15_MergeBack.l0 k x1 x4 x11 x12 x13 t268 t271 0) else (some false)))
def iceboxlaw15_MergeBack.l0 : Nat → Int → Int → List (S31) → ByteArray → ByteArray → List (S47) → List (S47) → Int → Option (Bool)
 | 0, _, _, _, _, _, _, _, _ => none
 | k + 1, x1, x4, x11, x12, x13, x14, x15, x16 => if x16 < (x14.length : Int) then (if 0 ≤ x16 then (if 0 ≤ (wrap64 ((wrap64 ((x15.length : Int) - 1)) - x16)) then (if (wrap64 ((wrap64 ((x15.length : Int) - 1)) - x16)) < (x15.length : Int) then (if (!((((rd_T47 x14 x16).f0).toList) == (((rd_T47 x15 (wrap64 ((wrap64 ((x15.length : Int) - 1)) - x16))).f0).toList)) || (!((((rd_T47 x14 x16).f1).toList) == (((rd_T47 x15 (wrap64 ((wrap64 ((x15.length : Int) - 1)) - x16))).f1).toList)))) = true then (some false) else (if (Op.bytesLess (((rd_T47 x14 x16).f0).toList) x12.toList) = true then (some false) else (if x13.toList = ([] : List UInt8) then (if x16 > 0 then (if 0 ≤ (wrap64 (x16 - 1)) then (if (wrap64 (x16 - 1)) < (x14.length : Int) then (if ((Op.bytesLess (((rd_T47 x14 (wrap64 (x16 - 1))).f0).toList) (((rd_T47 x14 x16).f0).toList)) = true) then (iceboxlaw15_MergeBack.l0 k x1 x4 x11 x12 x13 x14 x15 (wrap64 (x16 + 1))) else (some false)) else (none)) else (none)) else (iceboxlaw15_MergeBack.l0 k x1 x4 x11 x12 x13 x14 x15 (wrap64 (x16 + 1)))) else (if ((Op.bytesLess (((rd_T47 x14 x16).f0).toList) x13.toList) = true) then (if x16 > 0 then (if 0 ≤ (wrap64 (x16 - 1)) then (if (wrap64 (x16 - 1)) < (x14.length : Int) then (if ((Op.bytesLess (((rd_T47 x14 (wrap64 (x16 - 1))).f0).toList) (((rd_T47 x14 x16).f0).toList)) = true) then (iceboxlaw15_MergeBack.l0 k x1 x4 x11 x12 x13 x14 x15 (wrap64 (x16 + 1))) else (some false)) else (none)) else (none)) else (iceboxlaw15_MergeBack.l0 k x1 x4 x11 x12 x13 x14 x15 (wrap64 (x16 + 1)))) else (some false))))) else (none)) else (none)) else (none)) else ((merge_View.f k x11 (wrap64 (x1)) x12 x13 false (wrap64 (x4))).bind fun t282 => (if 0 ≤ (mn (wrap64 (x4)) (x14.length : Int)) then (if (mn (wrap64 (x4)) (x14.length : Int)) ≤ (x14.length : Int) then ((iceboxref1_Pairs.f k t282 (x14.take ((mn (wrap64 (x4)) (x14.length : Int)) : Int).toNat)).bind fun t289 => (if t289 = true then ((merge_View.f k x11 (wrap64 (x1)) x12 x13 true (wrap64 (x4))).bind fun t290 => (if (mn (wrap64 (x4)) (x14.length : Int)) ≤ (x15.length : Int) then ((iceboxref1_Pairs.f k t290 (x15.take ((mn (wrap64 (x4)) (x14.length : Int)) : Int).toNat)).bind fun t297 => (if t297 = true then ((iceboxlaw15_awake.f k).bind fun t298 => (some t298)) else (some false))) else (none))) else (some false))) else (none)) else (none)))
end
def iceboxlaw15_MergeBack.f (k : Nat) (l0 : List Int) (a1 : Int) (a2 : Int) (a3 : Int) (a4 : Int) : Option (Bool) := if (l0.length : Int) > 80 then ((iceboxlaw15_awake.f k).bind fun t262 => (some t262)) else ((iceboxlaw12_Make.f k l0 30).bind fun t263 => ((iceboxref1_Digits.f k (Int.tmod (wrap64 (a2)) 40)).bind fun t266 => (if 3 + t266.size ≤ 9223372036854775807 then ((iceboxref1_Digits.f k (Int.tmod (wrap64 (a3)) 40)).bind fun t267 => (if 3 + t267.size ≤ 9223372036854775807 then (if (Int.tmod a3 8) = 0 then (iceboxlaw15_MergeBack.j0 k a1 a4 t263 ((⟨#[107, 101, 121]⟩ : ByteArray) ++ t266) (⟨#[]⟩ : ByteArray)) else (iceboxlaw15_MergeBack.j0 k a1 a4 t263 ((⟨#[107, 101, 121]⟩ : ByteArray) ++ t266) ((⟨#[107, 101, 121]⟩ : ByteArray) ++ t267))) else (none))) else (none))))
theorem iceboxlaw15_MergeBack.mono_l : ∀ k, (∀ y0 y1 y2 y3 y4, LeO (iceboxlaw15_MergeBack.j0 k y0 y1 y2 y3 y4) (iceboxlaw15_MergeBack.j0 (k + 1) y0 y1 y2 y3 y4)) ∧ (∀ y0 y1 y2 y3 y4 y5 y6 y7, LeO (iceboxlaw15_MergeBack.l0 k y0 y1 y2 y3 y4 y5 y6 y7) (iceboxlaw15_MergeBack.l0 (k + 1) y0 y1 y2 y3 y4 y5 y6 y7))
 | 0 => ⟨fun _ _ _ _ _ r h => by simp [iceboxlaw15_MergeBack.j0] at h, fun _ _ _ _ _ _ _ _ r h => by simp [iceboxlaw15_MergeBack.l0] at h⟩
 | k + 1 => by
  obtain ⟨ih0, ih1⟩ := iceboxlaw15_MergeBack.mono_l k
  refine ⟨?_, ?_⟩
  ·
   intro y0 y1 y2 y3 y4
   unfold iceboxlaw15_MergeBack.j0
   repeat' first
   | (with_reducible exact ih0 _ _ _ _ _)
   | (with_reducible exact ih1 _ _ _ _ _ _ _ _)
   | (with_reducible exact iceboxlaw12_Make.mono _ _ _)
   | (with_reducible exact iceboxlaw15_awake.mono _)
   | (with_reducible exact iceboxref1_Digits.mono _ _)
   | (with_reducible exact iceboxref1_Pairs.mono _ _ _)
   | (with_reducible exact merge_View.mono _ _ _ _ _ _ _)
   | (with_reducible exact LeO.refl _)
   | (with_reducible exact LeO.none _)
   | (with_reducible refine LeO.ite ?_ ?_)
   | (with_reducible refine LeO.bind ?_ (fun _ => ?_))
   | exact ih0 _ _ _ _ _
   | exact ih1 _ _ _ _ _ _ _ _
   | exact iceboxlaw12_Make.mono _ _ _
   | exact iceboxlaw15_awake.mono _
   | exact iceboxref1_Digits.mono _ _
   | exact iceboxref1_Pairs.mono _ _ _
   | exact merge_View.mono _ _ _ _ _ _ _
   | exact LeO.none _
   | refine LeO.ite ?_ ?_
   | refine LeO.bind ?_ (fun _ => ?_)
  ·
   intro y0 y1 y2 y3 y4 y5 y6 y7
   unfold iceboxlaw15_MergeBack.l0
   repeat' first
   | (with_reducible exact ih0 _ _ _ _ _)
   | (with_reducible exact ih1 _ _ _ _ _ _ _ _)
   | (with_reducible exact iceboxlaw12_Make.mono _ _ _)
   | (with_reducible exact iceboxlaw15_awake.mono _)
   | (with_reducible exact iceboxref1_Digits.mono _ _)
   | (with_reducible exact iceboxref1_Pairs.mono _ _ _)
   | (with_reducible exact merge_View.mono _ _ _ _ _ _ _)
   | (with_reducible exact LeO.refl _)
   | (with_reducible exact LeO.none _)
   | (with_reducible refine LeO.ite ?_ ?_)
   | (with_reducible refine LeO.bind ?_ (fun _ => ?_))
   | exact ih0 _ _ _ _ _
   | exact ih1 _ _ _ _ _ _ _ _
   | exact iceboxlaw12_Make.mono _ _ _
   | exact iceboxlaw15_awake.mono _
   | exact iceboxref1_Digits.mono _ _
   | exact iceboxref1_Pairs.mono _ _ _
   | exact merge_View.mono _ _ _ _ _ _ _
   | exact LeO.none _
   | refine LeO.ite ?_ ?_
   | refine LeO.bind ?_ (fun _ => ?_)
theorem iceboxlaw15_MergeBack.mono : ∀ a0 a1 a2 a3 a4 k, LeO (iceboxlaw15_MergeBack.f k a0 a1 a2 a3 a4) (iceboxlaw15_MergeBack.f (k + 1) a0 a1 a2 a3 a4) := by
 intro a0 a1 a2 a3 a4 k
 obtain ⟨ih0, ih1⟩ := iceboxlaw15_MergeBack.mono_l k
 unfold iceboxlaw15_MergeBack.f
 repeat' first
  | (with_reducible exact ih0 _ _ _ _ _)
  | (with_reducible exact ih1 _ _ _ _ _ _ _ _)
  | (with_reducible exact iceboxlaw12_Make.mono _ _ _)
  | (with_reducible exact iceboxlaw15_awake.mono _)
  | (with_reducible exact iceboxref1_Digits.mono _ _)
  | (with_reducible exact iceboxref1_Pairs.mono _ _ _)
  | (with_reducible exact merge_View.mono _ _ _ _ _ _ _)
  | (with_reducible exact LeO.refl _)
  | (with_reducible exact LeO.none _)
  | (with_reducible refine LeO.ite ?_ ?_)
  | (with_reducible refine LeO.bind ?_ (fun _ => ?_))
  | exact ih0 _ _ _ _ _
  | exact ih1 _ _ _ _ _ _ _ _
  | exact iceboxlaw12_Make.mono _ _ _
  | exact iceboxlaw15_awake.mono _
  | exact iceboxref1_Digits.mono _ _
  | exact iceboxref1_Pairs.mono _ _ _
  | exact merge_View.mono _ _ _ _ _ _ _
  | exact LeO.none _
  | refine LeO.ite ?_ ?_
  | refine LeO.bind ?_ (fun _ => ?_)
abbrev b7_0 : Array Bool := #[false, false, false, false, false, false, false, false, false, false, false, false, false, false, false, false, false, false, false, false, false, false, false, false, false, false, false, false, false, false, false, false, false, false, false, false, false, false, false, false, false, false, false, false, false, false, false, false, false, false, false, false, false]
abbrev b7_1 : Array Bool := #[true, false, false, false, false, false, false, false, false, false, false, false, false, false, false, false, false, false, false, false, false, false, false, false, false, false, false, false, false, false, false, false, false, false, false, false, false, false, false, false, false, false, false, false, false, false, false, false, false, false, false, false, false]
abbrev b7_2 : Array Bool := #[true, true, false, false, false, false, false, false, false, false, false, false, false, false, false, false, false, false, false, false, false, false, false, false, false, false, false, false, false, false, false, false, false, false, false, false, false, false, false, false, false, false, false, false, false, false, false, false, false, false, false, false, false]
abbrev b7_3 : Array Bool := #[true, true, true, false, false, false, false, false, false, false, false, false, false, false, false, false, false, false, false, false, false, false, false, false, false, false, false, false, false, false, false, false, false, false, false, false, false, false, false, false, false, false, false, false, false, false, false, false, false, false, false, false, false]
abbrev b7_4 : Array Bool := #[true, true, true, false, true, false, false, false, false, false, false, false, false, false, false, false, false, false, false, false, false, false, false, false, false, false, false, false, false, false, false, false, false, false, false, false, false, false, false, false, false, false, false, false, false, false, false, false, false, false, false, false, false]
abbrev b7_5 : Array Bool := #[true, true, true, false, true, true, false, false, false, false, false, false, false, false, false, false, false, false, false, false, false, false, false, false, false, false, false, false, false, false, false, false, false, false, false, false, false, false, false, false, false, false, false, false, false, false, false, false, false, false, false, false, false]
abbrev b7_6 : Array Bool := #[true, true, true, false, true, true, true, false, false, false, false, false, false, false, false, false, false, false, false, false, false, false, false, false, false, false, false, false, false, false, false, false, false, false, false, false, false, false, false, false, false, false, false, false, false, false, false, false, false, false, false, false, false]
abbrev b7_7 : Array Bool := #[true, true, true, false, true, true, true, true, false, false, false, false, false, false, false, false, false, false, false, false, false, false, false, false, false, false, false, false, false, false, false, false, false, false, false, false, false, false, false, false, false, false, false, false, false, false, false, false, false, false, false, false, false]
abbrev b7_8 : Array Bool := #[true, true, true, false, true, true, true, true, true, false, false, false, false, false, false, false, false, false, false, false, false, false, false, false, false, false, false, false, false, false, false, false, false, false, false, false, false, false, false, false, false, false, false, false, false, false, false, false, false, false, false, false, false]
abbrev b7_9 : Array Bool := #[true, true, true, false, true, true, true, true, true, true, false, false, false, false, false, false, false, false, false, false, false, false, false, false, false, false, false, false, false, false, false, false, false, false, false, false, false, false, false, false, false, false, false, false, false, false, false, false, false, false, false, false, false]
abbrev b7_10 : Array Bool := #[true, true, true, false, true, true, true, true, true, true, true, false, false, false, false, false, false, false, false, false, false, false, false, false, false, false, false, false, false, false, false, false, false, false, false, false, false, false, false, false, false, false, false, false, false, false, false, false, false, false, false, false, false]
abbrev b7_11 : Array Bool := #[true, true, true, true, true, true, true, true, true, true, true, false, false, false, false, false, false, false, false, false, false, false, false, false, false, false, false, false, false, false, false, false, false, false, false, false, false, false, false, false, false, false, false, false, false, false, false, false, false, false, false, false, false]
abbrev b7_12 : Array Bool := #[true, true, true, true, true, true, true, true, true, true, true, true, false, false, false, false, false, false, false, false, false, false, false, false, false, false, false, false, false, false, false, false, false, false, false, false, false, false, false, false, false, false, false, false, false, false, false, false, false, false, false, false, false]
abbrev b7_13 : Array Bool := #[true, true, true, true, true, true, true, true, true, true, true, true, true, false, false, false, false, false, false, false, false, false, false, false, false, false, false, false, false, false, false, false, false, false, false, false, false, false, false, false, false, false, false, false, false, false, false, false, false, false, false, false, false]
abbrev b7_14 : Array Bool := #[true, true, true, true, true, true, true, true, true, true, true, true, true, true, false, false, false, false, false, false, false, false, false, false, false, false, false, false, false, false, false, false, false, false, false, false, false, false, false, false, false, false, false, false, false, false, false, false, false, false, false, false, false]
abbrev b7_15 : Array Bool := #[true, true, true, true, true, true, true, true, true, true, true, true, true, true, true, false, false, false, false, false, false, false, false, false, false, false, false, false, false, false, false, false, false, false, false, false, false, false, false, false, false, false, false, false, false, false, false, false, false, false, false, false, false]
abbrev b7_16 : Array Bool := #[true, true, true, true, true, true, true, true, true, true, true, true, true, true, true, true, false, false, false, false, false, false, false, false, false, false, false, false, false, false, false, false, false, false, false, false, false, false, false, false, false, false, false, false, false, false, false, false, false, false, false, false, false]
abbrev b7_17 : Array Bool := #[true, true, true, true, true, true, true, true, true, true, true, true, true, true, true, true, true, false, false, false, false, false, false, false, false, false, false, false, false, false, false, false, false, false, false, false, false, false, false, false, false, false, false, false, false, false, false, false, false, false, false, false, false]
abbrev b7_18 : Array Bool := #[true, true, true, true, true, true, true, true, true, true, true, true, true, true, true, true, true, true, false, false, false, false, false, false, false, false, false, false, false, false, false, false, false, false, false, false, false, false, false, false, false, false, false, false, false, false, false, false, false, false, false, false, false]
abbrev b7_19 : Array Bool := #[true, true, true, true, true, true, true, true, true, true, true, true, true, true, true, true, true, true, false, true, false, false, false, false, false, false, false, false, false, false, false, false, false, false, false, false, false, false, false, false, false, false, false, false, false, false, false, false, false, false, false, false, false]
abbrev b7_20 : Array Bool := #[true, true, true, true, true, true, true, true, true, true, true, true, true, true, true, true, true, true, true, true, false, false, false, false, false, false, false, false, false, false, false, false, false, false, false, false, false, false, false, false, false, false, false, false, false, false, false, false, false, false, false, false, false]
abbrev b7_21 : Array Bool := #[true, true, true, true, true, true, true, true, true, true, true, true, true, true, true, true, true, true, true, true, true, false, false, false, false, false, false, false, false, false, false, false, false, false, false, false, false, false, false, false, false, false, false, false, false, false, false, false, false, false, false, false, false]
abbrev b7_22 : Array Bool := #[true, true, true, true, true, true, true, true, true, true, true, true, true, true, true, true, true, true, true, true, true, true, false, false, false, false, false, false, false, false, false, false, false, false, false, false, false, false, false, false, false, false, false, false, false, false, false, false, false, false, false, false, false]
abbrev b7_23 : Array Bool := #[true, true, true, true, true, true, true, true, true, true, true, true, true, true, true, true, true, true, true, true, true, true, true, false, false, false, false, false, false, false, false, false, false, false, false, false, false, false, false, false, false, false, false, false, false, false, false, false, false, false, false, false, false]
abbrev b7_24 : Array Bool := #[true, true, true, true, true, true, true, true, true, true, true, true, true, true, true, true, true, true, true, true, true, true, true, true, false, false, false, false, false, false, false, false, false, false, false, false, false, false, false, false, false, false, false, false, false, false, false, false, false, false, false, false, false]
abbrev b7_25 : Array Bool := #[true, true, true, true, true, true, true, true, true, true, true, true, true, true, true, true, true, true, true, true, true, true, true, true, true, false, false, false, false, false, false, false, false, false, false, false, false, false, false, false, false, false, false, false, false, false, false, false, false, false, false, false, false]
abbrev b7_26 : Array Bool := #[true, true, true, true, true, true, true, true, true, true, true, true, true, true, true, true, true, true, true, true, true, true, true, true, true, true, false, false, false, false, false, false, false, false, false, false, false, false, false, false, false, false, false, false, false, false, false, false, false, false, false, false, false]
abbrev b7_27 : Array Bool := #[true, true, true, true, true, true, true, true, true, true, true, true, true, true, true, true, true, true, true, true, true, true, true, true, true, true, true, false, false, false, false, false, false, false, false, false, false, false, false, false, false, false, false, false, false, false, false, false, false, false, false, false, false]
abbrev b7_28 : Array Bool := #[true, true, true, true, true, true, true, true, true, true, true, true, true, true, true, true, true, true, true, true, true, true, true, true, true, true, true, true, false, false, false, false, false, false, false, false, false, false, false, false, false, false, false, false, false, false, false, false, false, false, false, false, false]
abbrev b7_29 : Array Bool := #[true, true, true, true, true, true, true, true, true, true, true, true, true, true, true, true, true, true, true, true, true, true, true, true, true, true, true, true, true, false, false, false, false, false, false, false, false, false, false, false, false, false, false, false, false, false, false, false, false, false, false, false, false]
abbrev b7_30 : Array Bool := #[true, true, true, true, true, true, true, true, true, true, true, true, true, true, true, true, true, true, true, true, true, true, true, true, true, true, true, true, true, true, false, false, false, false, false, false, false, false, false, false, false, false, false, false, false, false, false, false, false, false, false, false, false]
abbrev b7_31 : Array Bool := #[true, true, true, true, true, true, true, true, true, true, true, true, true, true, true, true, true, true, true, true, true, true, true, true, true, true, true, true, true, true, true, false, false, false, false, false, false, false, false, false, false, false, false, false, false, false, false, false, false, false, false, false, false]
abbrev b7_32 : Array Bool := #[true, true, true, true, true, true, true, true, true, true, true, true, true, true, true, true, true, true, true, true, true, true, true, true, true, true, true, true, true, true, true, true, false, false, false, false, false, false, false, false, false, false, false, false, false, false, false, false, false, false, false, false, false]
abbrev b7_33 : Array Bool := #[true, true, true, true, true, true, true, true, true, true, true, true, true, true, true, true, true, true, true, true, true, true, true, true, true, true, true, true, true, true, true, true, true, false, false, false, false, false, false, false, false, false, false, false, false, false, false, false, false, false, false, false, false]
abbrev b7_34 : Array Bool := #[true, true, true, true, true, true, true, true, true, true, true, true, true, true, true, true, true, true, true, true, true, true, true, true, true, true, true, true, true, true, true, true, true, true, false, false, false, false, false, false, false, false, false, false, false, false, false, false, false, false, false, false, false]
abbrev b7_35 : Array Bool := #[true, true, true, true, true, true, true, true, true, true, true, true, true, true, true, true, true, true, true, true, true, true, true, true, true, true, true, true, true, true, true, true, true, true, true, false, false, false, false, false, false, false, false, false, false, false, false, false, false, false, false, false, false]
abbrev b7_36 : Array Bool := #[true, true, true, true, true, true, true, true, true, true, true, true, true, true, true, true, true, true, true, true, true, true, true, true, true, true, true, true, true, true, true, true, true, true, true, true, false, false, false, false, false, false, false, false, false, false, false, false, false, false, false, false, false]
abbrev b7_37 : Array Bool := #[true, true, true, true, true, true, true, true, true, true, true, true, true, true, true, true, true, true, true, true, true, true, true, true, true, true, true, true, true, true, true, true, true, true, true, true, true, false, false, false, false, false, false, false, false, false, false, false, false, false, false, false, false]
abbrev b7_38 : Array Bool := #[true, true, true, true, true, true, true, true, true, true, true, true, true, true, true, true, true, true, true, true, true, true, true, true, true, true, true, true, true, true, true, true, true, true, true, true, true, true, false, false, false, false, false, false, false, false, false, false, false, false, false, false, false]
abbrev b7_39 : Array Bool := #[true, true, true, true, true, true, true, true, true, true, true, true, true, true, true, true, true, true, true, true, true, true, true, true, true, true, true, true, true, true, true, true, true, true, true, true, true, true, true, false, false, false, false, false, false, false, false, false, false, false, false, false, false]
abbrev b7_40 : Array Bool := #[true, true, true, true, true, true, true, true, true, true, true, true, true, true, true, true, true, true, true, true, true, true, true, true, true, true, true, true, true, true, true, true, true, true, true, true, true, true, true, true, false, false, false, false, false, false, false, false, false, false, false, false, false]
abbrev b7_41 : Array Bool := #[true, true, true, true, true, true, true, true, true, true, true, true, true, true, true, true, true, true, true, true, true, true, true, true, true, true, true, true, true, true, true, true, true, true, true, true, true, true, true, true, true, false, false, false, false, false, false, false, false, false, false, false, false]
abbrev b7_42 : Array Bool := #[true, true, true, true, true, true, true, true, true, true, true, true, true, true, true, true, true, true, true, true, true, true, true, true, true, true, true, true, true, true, true, true, true, true, true, true, true, true, true, true, true, true, false, false, false, false, false, false, false, false, false, false, false]
abbrev b7_43 : Array Bool := #[true, true, true, true, true, true, true, true, true, true, true, true, true, true, true, true, true, true, true, true, true, true, true, true, true, true, true, true, true, true, true, true, true, true, true, true, true, true, true, true, true, true, true, false, false, false, false, false, false, false, false, false, false]
abbrev b7_44 : Array Bool := #[true, true, true, true, true, true, true, true, true, true, true, true, true, true, true, true, true, true, true, true, true, true, true, true, true, true, true, true, true, true, true, true, true, true, true, true, true, true, true, true, true, true, true, true, false, false, false, false, false, false, false, false, false]
abbrev b7_45 : Array Bool := #[true, true, true, true, true, true, true, true, true, true, true, true, true, true, true, true, true, true, true, true, true, true, true, true, true, true, true, true, true, true, true, true, true, true, true, true, true, true, true, true, true, true, true, true, false, true, false, false, false, false, false, false, false]
abbrev b7_46 : Array Bool := #[true, true, true, true, true, true, true, true, true, true, true, true, true, true, true, true, true, true, true, true, true, true, true, true, true, true, true, true, true, true, true, true, true, true, true, true, true, true, true, true, true, true, true, true, false, true, true, false, false, false, false, false, false]
abbrev b7_47 : Array Bool := #[true, true, true, true, true, true, true, true, true, true, true, true, true, true, true, true, true, true, true, true, true, true, true, true, true, true, true, true, true, true, true, true, true, true, true, true, true, true, true, true, true, true, true, true, false, true, true, true, false, false, false, false, false]
abbrev b7_48 : Array Bool := #[true, true, true, true, true, true, true, true, true, true, true, true, true, true, true, true, true, true, true, true, true, true, true, true, true, true, true, true, true, true, true, true, true, true, true, true, true, true, true, true, true, true, true, true, false, true, true, true, true, false, false, false, false]
abbrev b7_49 : Array Bool := #[true, true, true, true, true, true, true, true, true, true, true, true, true, true, true, true, true, true, true, true, true, true, true, true, true, true, true, true, true, true, true, true, true, true, true, true, true, true, true, true, true, true, true, true, true, true, true, true, true, false, false, false, false]
abbrev b7_50 : Array Bool := #[true, true, true, true, true, true, true, true, true, true, true, true, true, true, true, true, true, true, true, true, true, true, true, true, true, true, true, true, true, true, true, true, true, true, true, true, true, true, true, true, true, true, true, true, true, true, true, true, true, true, false, false, false]
abbrev b7_51 : Array Bool := #[true, true, true, true, true, true, true, true, true, true, true, true, true, true, true, true, true, true, true, true, true, true, true, true, true, true, true, true, true, true, true, true, true, true, true, true, true, true, true, true, true, true, true, true, true, true, true, true, true, true, true, false, false]
abbrev b7_52 : Array Bool := #[true, true, true, true, true, true, true, true, true, true, true, true, true, true, true, true, true, true, true, true, true, true, true, true, true, true, true, true, true, true, true, true, true, true, true, true, true, true, true, true, true, true, true, true, true, true, true, true, true, true, true, true, false]
abbrev b7_53 : Array Bool := #[true, true, true, true, true, true, true, true, true, true, true, true, true, true, true, true, true, true, true, true, true, true, true, true, true, true, true, true, true, true, true, true, true, true, true, true, true, true, true, true, true, true, true, true, true, true, true, true, true, true, true, true, true]
abbrev b7_54 : Array Bool := #[true, true, true, true, true, true, true, true, true, true, true, true, true, true, true, true, true, true, true, true, true, true, true, true, true, true, true, true, true, true, true, true, true, true, true, true, true, true, true, true, true, true, true, true, true, false, false, false, false, false, false, false, false]
abbrev b7_55 : Array Bool := #[true, true, true, true, true, true, true, true, true, true, true, true, true, true, true, true, true, true, true, true, true, true, true, true, true, true, true, true, true, true, true, true, true, true, true, true, true, true, true, true, true, true, true, true, true, true, false, false, false, false, false, false, false]
abbrev b7_56 : Array Bool := #[true, true, true, true, true, true, true, true, true, true, true, true, true, true, true, true, true, true, true, true, true, true, true, true, true, true, true, true, true, true, true, true, true, true, true, true, true, true, true, true, true, true, true, true, true, true, true, false, false, false, false, false, false]
abbrev b7_57 : Array Bool := #[true, true, true, true, true, true, true, true, true, true, true, true, true, true, true, true, true, true, true, true, true, true, true, true, true, true, true, true, true, true, true, true, true, true, true, true, true, true, true, true, true, true, true, true, true, true, true, true, false, false, false, false, false]
abbrev b7_58 : Array Bool := #[true, true, true, true, true, true, true, true, true, true, true, true, true, true, true, true, true, true, true, true, true, true, true, true, true, true, true, true, true, true, false, true, false, false, false, false, false, false, false, false, false, false, false, false, false, false, false, false, false, false, false, false, false]
abbrev b7_59 : Array Bool := #[false, false, false, false, false, false, false, false, false, false, false, false, false, false, false, false, false, false, false, false, false, false, false, false, false, false, false, false, false, false]
abbrev b7_60 : Array Bool := #[true, false, false, false, false, false, false, false, false, false, false, false, false, false, false, false, false, false, false, false, false, false, false, false, false, false, false, false, false, false]
abbrev b7_61 : Array Bool := #[true, true, false, false, false, false, false, false, false, false, false, false, false, false, false, false, false, false, false, false, false, false, false, false, false, false, false, false, false, false]
abbrev b7_62 : Array Bool := #[true, true, true, false, false, false, false, false, false, false, false, false, false, false, false, false, false, false, false, false, false, false, false, false, false, false, false, false, false, false]
abbrev b7_63 : Array Bool := #[true, true, true, true, false, false, false, false, false, false, false, false, false, false, false, false, false, false, false, false, false, false, false, false, false, false, false, false, false, false]
abbrev b7_64 : Array Bool := #[true, true, true, true, true, false, false, false, false, false, false, false, false, false, false, false, false, false, false, false, false, false, false, false, false, false, false, false, false, false]
abbrev b7_65 : Array Bool := #[true, true, true, true, true, true, false, false, false, false, false, false, false, false, false, false, false, false, false, false, false, false, false, false, false, false, false, false, false, false]
abbrev b7_66 : Array Bool := #[true, true, true, true, true, true, true, false, false, false, false, false, false, false, false, false, false, false, false, false, false, false, false, false, false, false, false, false, false, false]
abbrev b7_67 : Array Bool := #[true, true, true, true, true, true, true, false, true, false, false, false, false, false, false, false, false, false, false, false, false, false, false, false, false, false, false, false, false, false]
abbrev b7_68 : Array Bool := #[true, true, true, true, true, true, true, false, true, true, false, false, false, false, false, false, false, false, false, false, false, false, false, false, false, false, false, false, false, false]
abbrev b7_69 : Array Bool := #[true, true, true, true, true, true, true, false, true, true, true, false, false, false, false, false, false, false, false, false, false, false, false, false, false, false, false, false, false, false]
abbrev b7_70 : Array Bool := #[true, true, true, true, true, true, true, true, true, true, true, false, false, false, false, false, false, false, false, false, false, false, false, false, false, false, false, false, false, false]
abbrev b7_71 : Array Bool := #[true, true, true, true, true, true, true, true, true, true, true, true, false, false, false, false, false, false, false, false, false, false, false, false, false, false, false, false, false, false]
abbrev b7_72 : Array Bool := #[true, true, true, true, true, true, true, true, true, true, true, true, true, false, false, false, false, false, false, false, false, false, false, false, false, false, false, false, false, false]
abbrev b7_73 : Array Bool := #[true, true, true, true, true, true, true, true, true, true, true, true, true, true, false, false, false, false, false, false, false, false, false, false, false, false, false, false, false, false]
abbrev b7_74 : Array Bool := #[true, true, true, true, true, true, true, true, true, true, true, true, true, true, true, false, false, false, false, false, false, false, false, false, false, false, false, false, false, false]
abbrev b7_75 : Array Bool := #[true, true, true, true, true, true, true, true, true, true, true, true, true, true, true, true, false, false, false, false, false, false, false, false, false, false, false, false, false, false]
abbrev b7_76 : Array Bool := #[true, true, true, true, true, true, true, true, true, true, true, true, true, true, true, true, true, false, false, false, false, false, false, false, false, false, false, false, false, false]
abbrev b7_77 : Array Bool := #[true, true, true, true, true, true, true, true, true, true, true, true, true, true, true, true, true, true, false, false, false, false, false, false, false, false, false, false, false, false]
abbrev b7_78 : Array Bool := #[true, true, true, true, true, true, true, true, true, true, true, true, true, true, true, true, true, true, true, false, false, false, false, false, false, false, false, false, false, false]
abbrev b7_79 : Array Bool := #[true, true, true, true, true, true, true, true, true, true, true, true, true, true, true, true, true, true, true, true, false, false, false, false, false, false, false, false, false, false]
abbrev b7_80 : Array Bool := #[true, true, true, true, true, true, true, true, true, true, true, true, true, true, true, true, true, true, true, true, false, true, false, false, false, false, false, false, false, false]
abbrev b7_81 : Array Bool := #[true, true, true, true, true, true, true, true, true, true, true, true, true, true, true, true, true, true, true, true, false, true, true, false, false, false, false, false, false, false]
abbrev b7_82 : Array Bool := #[true, true, true, true, true, true, true, true, true, true, true, true, true, true, true, true, true, true, true, true, false, true, true, true, false, false, false, false, false, false]
abbrev b7_83 : Array Bool := #[true, true, true, true, true, true, true, true, true, true, true, true, true, true, true, true, true, true, true, true, true, true, true, true, false, false, false, false, false, false]
abbrev b7_84 : Array Bool := #[true, true, true, true, true, true, true, true, true, true, true, true, true, true, true, true, true, true, true, true, true, true, true, true, true, false, false, false, false, false]
abbrev b7_85 : Array Bool := #[true, true, true, true, true, true, true, true, true, true, true, true, true, true, true, true, true, true, true, true, true, true, true, true, true, true, false, false, false, false]
abbrev b7_86 : Array Bool := #[true, true, true, true, true, true, true, true, true, true, true, true, true, true, true, true, true, true, true, true, true, true, true, true, true, true, true, false, false, false]
abbrev b7_87 : Array Bool := #[true, true, true, true, true, true, true, true, true, true, true, true, true, true, true, true, true, true, true, true, true, true, true, true, true, true, true, true, false, false]
abbrev b7_88 : Array Bool := #[true, true, true, true, true, true, true, true, true, true, true, true, true, true, true, true, true, true, true, true, true, true, true, true, true, true, true, true, true, false]
abbrev b7_89 : Array Bool := #[true, true, true, true, true, true, true, true, true, true, true, true, true, true, true, true, true, true, true, true, true, true, true, true, true, true, true, true, true, true]
def iceboxlaw15_MergeBack.T13 : Bool × List (List Nat × List Nat) := (true, [([], []), ([], []), ([0, 1], [0, 1]), ([2], [2]), ([], []), ([], []), ([5], [5]), ([6], [6]), ([], []), ([7, 8], [7, 8]), ([4, 9], [4, 9]), ([10], [10]), ([3, 11], [3, 11]), ([12], [12]), ([13], [13]), ([13], [13]), ([14, 15, 13], [13, 14, 15]), ([16, 13], [13, 16]), ([17, 13], [13, 17]), ([13], [13]), ([18, 19, 13], [13, 18, 19]), ([13, 20], [13, 20]), ([21, 13], [21]), ([22], [22]), ([23, 22], [22, 23]), ([24, 22, 22], [22, 24]), ([25], [25]), ([25], [25]), ([26, 27, 25], [25, 26, 27]), ([28, 25], [25, 28]), ([29, 25], [25, 29]), ([25], [25]), ([30, 31, 25], [25, 30, 31]), ([25, 32, 22], [22, 25, 32]), ([22, 33], [22, 33]), ([34, 25], [34]), ([35], [35]), ([36, 35], [35, 36]), ([37, 35, 35], [35, 37]), ([38], [38]), ([38], [38]), ([40, 38], [38, 40]), ([39, 41, 38], [38, 39, 41]), ([42, 38], [38, 42]), ([43, 38], [38, 43]), ([38], [38]), ([38], [38]), ([45, 46, 38], [38, 45, 46]), ([47, 38], [38, 47]), ([48, 38], [38, 48]), ([44, 49, 38], [38, 44, 49]), ([38, 50, 35], [35, 38, 50]), ([35, 51], [35, 51])])
def iceboxlaw15_MergeBack.B13 : List Nat := [0, 0, 3, 7, 0, 0, 32, 96, 0, 480, 1008, 2032, 4095, 8191, 16383, 16383, 65535, 131071, 262143, 16383, 1048575, 2097151, 4194303, 8388607, 16777215, 33554431, 67108863, 67108863, 268435455, 536870911, 1073741823, 67108863, 4294967295, 8589934591, 17179869183, 34359738367, 68719476735, 137438953471, 274877906943, 549755813887, 549755813887, 1649267441663, 4398046511103, 8796093022207, 17592186044415, 549755813887, 549755813887, 106102872080383, 246840360435711, 528315337146367, 1125899906842623, 2251799813685247, 4503599627370495]
theorem iceboxlaw15_MergeBack.tab13 : rtab .any (opsOf Try.f7 13) = iceboxlaw15_MergeBack.T13 := by kernel_rfl
theorem iceboxlaw15_MergeBack.bits13 : waitsOk iceboxlaw15_MergeBack.T13.2 iceboxlaw15_MergeBack.B13 = true := by kernel_rfl
def iceboxlaw15_MergeBack.T16 : Bool × List (List Nat × List Nat) := (true, [([], []), ([], []), ([1], [1]), ([], []), ([], []), ([], []), ([5], [5]), ([0, 2, 3, 4, 6], [0, 2, 3, 4, 6]), ([], []), ([], []), ([8, 9], [8, 9]), ([7, 10, 7], [7, 10]), ([11, 11], [11]), ([12], [12]), ([12], [12]), ([14, 12], [12, 14]), ([12], [12]), ([12], [12]), ([12], [12]), ([18, 12], [12, 18]), ([13, 15, 16, 17, 19, 12, 12], [12, 13, 15, 16, 17, 19]), ([12], [12]), ([12], [12]), ([21, 22, 12], [12, 21, 22]), ([20, 23, 20, 12], [12, 20, 23]), ([12, 24], [12, 24]), ([25, 24], [25]), ([26, 26], [26]), ([26, 27], [26, 27]), ([28, 27, 0, 1, 2, 3, 4, 5, 6, 7, 8, 9, 10, 11, 12, 13, 14, 15, 16, 17, 18, 19, 20, 21, 22, 23, 24, 25, 26, 27, 28], [28])])
def iceboxlaw15_MergeBack.B16 : List Nat := [0, 0, 2, 0, 0, 0, 32, 127, 0, 0, 768, 2047, 4095, 8191, 8191, 24575, 8191, 8191, 8191, 270335, 1048575, 8191, 8191, 6299647, 16777215, 33554431, 67108863, 134217727, 268435455, 536870911]
theorem iceboxlaw15_MergeBack.tab16 : rtab .any (opsOf Try.f7 16) = iceboxlaw15_MergeBack.T16 := by kernel_rfl
theorem iceboxlaw15_MergeBack.bits16 : waitsOk iceboxlaw15_MergeBack.T16.2 iceboxlaw15_MergeBack.B16 = true := by kernel_rfl
set_option maxHeartbeats 80000000 in
set_option maxRecDepth 100000 in
theorem iceboxlaw15_MergeBack.calls (k : Nat) (A0 : Option Addr) (c0 : Nat) (l0 : List Int) (a1 : Int) (a2 : Int) (a3 : Int) (a4 : Int) (r : Bool) (w : World) (hR_ : Aside0 (r = true)) (hr0 : Kd.C (Kd.int .u8) w A0 l0.length l0) (hc0 : l0.length ≤ c0) (h : iceboxlaw15_MergeBack.f k l0 a1 a2 a3 a4 = some r) :
 Calls Try.prog 7 #[.slice A0 l0.length c0, .int .u8 a1, .int .u8 a2, .int .u8 a3, .int .u8 a4] w fun e w' => e = .returned (.bool r) ∧ Below w.heap.size w w' := by
 have hu47 := Try.underlying47
 have HR0 := Aside0.mk hr0
 have HC0 := Aside0.mk hc0
 clear hr0 hc0
 have HB := Aside0.mk (Below.refl w.heap.size w)
 have H : (if (l0.length : Int) > 80 then ((iceboxlaw15_awake.f k).bind fun t262 => (some t262)) else ((iceboxlaw12_Make.f k l0 30).bind fun t263 => ((iceboxref1_Digits.f k (Int.tmod (wrap64 (a2)) 40)).bind fun t266 => (if 3 + t266.size ≤ 9223372036854775807 then ((iceboxref1_Digits.f k (Int.tmod (wrap64 (a3)) 40)).bind fun t267 => (if 3 + t267.size ≤ 9223372036854775807 then (if (Int.tmod a3 8) = 0 then (iceboxlaw15_MergeBack.j0 k a1 a4 t263 ((⟨#[107, 101, 121]⟩ : ByteArray) ++ t266) (⟨#[]⟩ : ByteArray)) else (iceboxlaw15_MergeBack.j0 k a1 a4 t263 ((⟨#[107, 101, 121]⟩ : ByteArray) ++ t266) ((⟨#[107, 101, 121]⟩ : ByteArray) ++ t267))) else (none))) else (none))))) = some r := h
 clear h
 by_cases c6 : (l0.length : Int) > 80
 ·
  rw [if_pos c6] at H
  have c6b0 : decide (80 < (l0.length : Int)) = true := decide_eq_true c6
  have c6b1 : decide (80 < l0.length) = true := decide_eq_true (by omega)
  clear c6
  replace H := Option.bind_eq_some_iff.mp H
  obtain ⟨t262, A70, H⟩ := H
  replace H : (some t262) = some r := H
  have A7 := Aside0.mk A70
  clear A70
  obtain rfl := Option.some.inj H
  go_enter Try.func7, Try.ntmps7
  go_wp2_with (first | ((with_reducible refine gate_callee (f := 21) rfl ?_); refine goesL_ (some 21) rfl rfl Try.func21 (by kernel_rfl) rfl #[] rfl (by (try simp only [List.map_toArray, List.map_cons, List.map_nil]); first | done | rfl | (simp only [List.length_drop, List.length_take]; rfl)) ?_; (with_reducible refine (iceboxlaw15_awake.calls k  t262 _ A7.out).mono ?_); rintro e w8 ⟨rfl, hb⟩; refine ⟨_, rfl, ?_⟩; have n0_ := Aside0.mk (below_step (by repeat (first | (with_reducible first | exact HB.out | apply below_alloc | apply pw_below_drewN | apply below_drew1) | exact HB.out | exact Below.refl _ _)) hb); clear HB; have HB := n0_; clear n0_; (try clear hb); (try clear hb2); (try clear hk); (try clear hi)))
  go_ret
  exact ⟨by first | rfl | (simp [errW_none, errW_some] <;> rfl) | (simp [*, errW_none, errW_some] <;> rfl), by repeat (first | (with_reducible first | exact HB.out | apply below_alloc | apply pw_below_drewN | apply below_drew1) | exact HB.out | exact Below.refl _ _)⟩
 ·
  rw [if_neg c6] at H
  have c6b0 : decide (80 < (l0.length : Int)) = false := decide_eq_false c6
  have c6b1 : decide (80 < l0.length) = false := decide_eq_false (by omega)
  clear c6
  replace H := Option.bind_eq_some_iff.mp H
  obtain ⟨t263, A90, H⟩ := H
  replace H : ((iceboxref1_Digits.f k (Int.tmod (wrap64 (a2)) 40)).bind fun t266 => (if 3 + t266.size ≤ 9223372036854775807 then ((iceboxref1_Digits.f k (Int.tmod (wrap64 (a3)) 40)).bind fun t267 => (if 3 + t267.size ≤ 9223372036854775807 then (if (Int.tmod a3 8) = 0 then (iceboxlaw15_MergeBack.j0 k a1 a4 t263 ((⟨#[107, 101, 121]⟩ : ByteArray) ++ t266) (⟨#[]⟩ : ByteArray)) else (iceboxlaw15_MergeBack.j0 k a1 a4 t263 ((⟨#[107, 101, 121]⟩ : ByteArray) ++ t266) ((⟨#[107, 101, 121]⟩ : ByteArray) ++ t267))) else (none))) else (none))) = some r := H
  have A9 := Aside0.mk A90
  clear A90
  replace H := Option.bind_eq_some_iff.mp H
  obtain ⟨t266, A100, H⟩ := H
  replace H : (if 3 + t266.size ≤ 9223372036854775807 then ((iceboxref1_Digits.f k (Int.tmod (wrap64 (a3)) 40)).bind fun t267 => (if 3 + t267.size ≤ 9223372036854775807 then (if (Int.tmod a3 8) = 0 then (iceboxlaw15_MergeBack.j0 k a1 a4 t263 ((⟨#[107, 101, 121]⟩ : ByteArray) ++ t266) (⟨#[]⟩ : ByteArray)) else (iceboxlaw15_MergeBack.j0 k a1 a4 t263 ((⟨#[107, 101, 121]⟩ : ByteArray) ++ t266) ((⟨#[107, 101, 121]⟩ : ByteArray) ++ t267))) else (none))) else (none)) = some r := H
  have A10 := Aside0.mk A100
  clear A100
  by_cases c11 : 3 + t266.size ≤ 9223372036854775807
  ·
   rw [if_pos c11] at H
   have c11b0 := eq_true c11
   have c11b1 : decide (3 + t266.size ≤ 9223372036854775807) = true := decide_eq_true c11
   try have c11b2 : (9223372036854775807 < 3 + t266.size) = False := eq_false (Nat.not_lt.2 c11)
   replace H := Option.bind_eq_some_iff.mp H
   obtain ⟨t267, A120, H⟩ := H
   replace H : (if 3 + t267.size ≤ 9223372036854775807 then (if (Int.tmod a3 8) = 0 then (iceboxlaw15_MergeBack.j0 k a1 a4 t263 ((⟨#[107, 101, 121]⟩ : ByteArray) ++ t266) (⟨#[]⟩ : ByteArray)) else (iceboxlaw15_MergeBack.j0 k a1 a4 t263 ((⟨#[107, 101, 121]⟩ : ByteArray) ++ t266) ((⟨#[107, 101, 121]⟩ : ByteArray) ++ t267))) else (none)) = some r := H
   have A12 := Aside0.mk A120
   clear A120
   by_cases c13 : 3 + t267.size ≤ 9223372036854775807
   ·
    rw [if_pos c13] at H
    have c13b0 := eq_true c13
    have c13b1 : decide (3 + t267.size ≤ 9223372036854775807) = true := decide_eq_true c13
    try have c13b2 : (9223372036854775807 < 3 + t267.size) = False := eq_false (Nat.not_lt.2 c13)
    have HC14 := Aside0.mk H
    clear H
    go_enter Try.func7, Try.ntmps7
    go_upto_if 36 with (first | ((with_reducible refine gate_callee (f := 15) rfl ?_); refine goesL_ (some 23) rfl rfl Try.func15 (by kernel_rfl) rfl #[.slice A0 l0.length c0, .int .u8 30] rfl (by (try simp only [List.map_toArray, List.map_cons, List.map_nil]); first | done | rfl | (simp only [List.length_drop, List.length_take]; rfl)) ?_; (with_reducible refine (iceboxlaw12_Make.calls k _ _ l0 30 t263 _ ?side1 ?side2 A9.out).mono ?_); (case side1 => repeat (first | exact HR0.out | (with_reducible refine Kd.C_alloc ?_ _) | (with_reducible refine Kd.C_drewN ?_ _) | (with_reducible refine Kd.C_drew ?_))); (case side2 => exact HC0.out); rintro e w15 ⟨v264, rfl, ho0, hb⟩; refine ⟨_, rfl, ?_⟩; have n0_ := Aside0.mk (Kd.R_lower ho0 (below_size (by repeat (first | (with_reducible first | exact HB.out | apply below_alloc | apply pw_below_drewN | apply below_drew1) | exact HB.out | exact Below.refl _ _)))); have n1_ := Aside0.mk (below_step (by repeat (first | (with_reducible first | exact HB.out | apply below_alloc | apply pw_below_drewN | apply below_drew1) | exact HB.out | exact Below.refl _ _)) hb); clear HB; have HO265 := n0_; have HB := n1_; clear n0_ n1_; (try clear hb); (try clear hb2); (try clear hk); (try clear hi); (try clear ho0)) | ((with_reducible refine gate_callee (f := 29) rfl ?_); refine goesL_ (some 27) rfl rfl Try.func29 (by kernel_rfl) rfl #[.int .i64 (Int.tmod (wrap64 (a2)) 40)] rfl (by (try simp only [List.map_toArray, List.map_cons, List.map_nil]); first | done | rfl | (simp only [List.length_drop, List.length_take]; rfl)) ?_; (with_reducible refine (iceboxref1_Digits.calls k (Int.tmod (wrap64 (a2)) 40) t266 _ A10.out).mono ?_); rintro e w16 ⟨rfl, hb⟩; refine ⟨_, rfl, ?_⟩; have n0_ := Aside0.mk (Kd.R_below (by (with_reducible repeat (first | apply Kd.R_alloc | apply Kd.R_drewN | apply Kd.R_drew)); exact HO265.out) hb); have n1_ := Aside0.mk (below_step (by repeat (first | (with_reducible first | exact HB.out | apply below_alloc | apply pw_below_drewN | apply below_drew1) | exact HB.out | exact Below.refl _ _)) hb); clear HO265; clear HB; have HO265 := n0_; have HB := n1_; clear n0_ n1_; (try clear hb); (try clear hb2); (try clear hk); (try clear hi)) | ((with_reducible refine gate_callee (f := 29) rfl ?_); refine goesL_ (some 32) rfl rfl Try.func29 (by kernel_rfl) rfl #[.int .i64 (Int.tmod (wrap64 (a3)) 40)] rfl (by (try simp only [List.map_toArray, List.map_cons, List.map_nil]); first | done | rfl | (simp only [List.length_drop, List.length_take]; rfl)) ?_; (with_reducible refine (iceboxref1_Digits.calls k (Int.tmod (wrap64 (a3)) 40) t267 _ A12.out).mono ?_); rintro e w17 ⟨rfl, hb⟩; refine ⟨_, rfl, ?_⟩; have n0_ := Aside0.mk (Kd.R_below (by (with_reducible repeat (first | apply Kd.R_alloc | apply Kd.R_drewN | apply Kd.R_drew)); exact HO265.out) hb); have n1_ := Aside0.mk (below_step (by repeat (first | (with_reducible first | exact HB.out | apply below_alloc | apply pw_below_drewN | apply below_drew1) | exact HB.out | exact Below.refl _ _)) hb); clear HO265; clear HB; have HO265 := n0_; have HB := n1_; clear n0_ n1_; (try clear hb); (try clear hb2); (try clear hk); (try clear hi)))
    (try simp only [Act.put, q1_, q2_, q3_])
    go_cut [13] (fun v13 wc => ∃ (kq : Nat) (x13_13 : ByteArray), v13 = .string x13_13 ∧ Aside0 (iceboxlaw15_MergeBack.j0 kq a1 a4 t263 ((⟨#[107, 101, 121]⟩ : ByteArray) ++ t266) x13_13 = some r) ∧ Aside0 (kq ≤ k) ∧ Aside0 (Kd.R k31 31 wc w.heap.size (fun _ => True) v264 t263) ∧ Aside0 (Below w.heap.size w wc))
    case first =>
     have H := HC14.out
     clear HC14
     by_cases c18 : (Int.tmod a3 8) = 0
     ·
      rw [if_pos c18] at H
      have c18b0 : ((Int.tmod a3 8) == 0) = true := beq_iff_eq.mpr c18
      have c18b1 : ((Int.tmod a3 8) != 0) = false := bne_eq_false_iff_eq.mpr c18
      clear c18
      (first | rw [c18b0] | (simp only [i64_w, i32_w]; rw [c18b0]) | skip)
      have H' := Aside0.mk H
      clear H
      go_wp2
      go_meet
      case rel => exact ⟨_, ((⟨#[]⟩ : ByteArray)), (by first | rfl | (simp; done) | (simp [*]; done)), H', ⟨by first | omega | exact Nat.le_refl _⟩, ⟨by (with_reducible repeat (first | apply Kd.R_alloc | apply Kd.R_drewN | apply Kd.R_drew)); exact HO265.out⟩, ⟨by repeat (first | (with_reducible first | exact HB.out | apply below_alloc | apply pw_below_drewN | apply below_drew1) | exact HB.out | exact Below.refl _ _)⟩⟩
     ·
      rw [if_neg c18] at H
      have c18b0 : ((Int.tmod a3 8) == 0) = false := beq_eq_false_iff_ne.mpr c18
      have c18b1 : ((Int.tmod a3 8) != 0) = true := bne_iff_ne.mpr c18
      (first | rw [c18b0] | (simp only [i64_w, i32_w]; rw [c18b0]) | skip)
      have H' := Aside0.mk H
      clear H
      go_wp2
      go_meet
      case rel => exact ⟨_, ((⟨#[107, 101, 121]⟩ : ByteArray) ++ t267), (by first | rfl | (simp; done) | (simp [*]; done)), H', ⟨by first | omega | exact Nat.le_refl _⟩, ⟨by (with_reducible repeat (first | apply Kd.R_alloc | apply Kd.R_drewN | apply Kd.R_drew)); exact HO265.out⟩, ⟨by repeat (first | (with_reducible first | exact HB.out | apply below_alloc | apply pw_below_drewN | apply below_drew1) | exact HB.out | exact Below.refl _ _)⟩⟩
    case rest =>
     as_aux_lemma =>
      clear HC14
      obtain ⟨kq, x13_13, rfl, HA, HJ13, HO_11, HB⟩ := hcut
      cases kq with
      | zero => exact absurd HA.out (by simp [iceboxlaw15_MergeBack.j0])
      | succ kj13 =>
       have H := HA.out
       clear HA
       simp only [iceboxlaw15_MergeBack.j0] at H
       replace H := Option.bind_eq_some_iff.mp H
       obtain ⟨t268, A190, H⟩ := H
       replace H : ((merge_View.f kj13 t263 (wrap64 (a1)) ((⟨#[107, 101, 121]⟩ : ByteArray) ++ t266) x13_13 true 1000).bind fun t271 => (if (t268.length : Int) = (t271.length : Int) then (iceboxlaw15_MergeBack.l0 kj13 a1 a4 t263 ((⟨#[107, 101, 121]⟩ : ByteArray) ++ t266) x13_13 t268 t271 0) else (some false))) = some r := H
       have A19 := Aside0.mk A190
       clear A190
       replace H := Option.bind_eq_some_iff.mp H
       obtain ⟨t271, A200, H⟩ := H
       replace H : (if (t268.length : Int) = (t271.length : Int) then (iceboxlaw15_MergeBack.l0 kj13 a1 a4 t263 ((⟨#[107, 101, 121]⟩ : ByteArray) ++ t266) x13_13 t268 t271 0) else (some false)) = some r := H
       have A20 := Aside0.mk A200
       clear A200
       by_cases c21 : (t268.length : Int) = (t271.length : Int)
       ·
        rw [if_pos c21] at H
        have c21b0 : ((t268.length : Int) == (t271.length : Int)) = true := beq_iff_eq.mpr c21
        have c21b1 : ((t268.length : Int) != (t271.length : Int)) = false := bne_eq_false_iff_eq.mpr c21
        have c21b2 : (t268.length == t271.length) = true := by first | simpa using c21 | (simp at c21 ⊢; omega)
        clear c21
        have H' := Aside0.mk H
        clear H
        obtain ⟨Ao22, co22, eo22⟩ := Kd.R_slice HO_11.out
        subst eo22
        go_wp2_with (first | ((with_reducible refine gate_callee (f := 27) rfl ?_); refine goesL_ (some 42) rfl rfl Try.func27 (by kernel_rfl) rfl #[.slice Ao22 t263.length co22, .int .i64 (wrap64 (a1)), .string ((⟨#[107, 101, 121]⟩ : ByteArray) ++ t266), .string x13_13, .bool false, .int .i64 1000] rfl (by (try simp only [List.map_toArray, List.map_cons, List.map_nil]); first | done | rfl | (simp only [List.length_drop, List.length_take]; rfl)) ?_; (with_reducible refine (merge_View.calls kj13 _ _ t263 (wrap64 (a1)) ((⟨#[107, 101, 121]⟩ : ByteArray) ++ t266) x13_13 false 1000 t268 _ ?side1 ?side2 A19.out).mono ?_); (case side1 => repeat (first | exact (Kd.R_reads' HO_11.out).2.2 | (with_reducible refine Kd.C_alloc ?_ _) | (with_reducible refine Kd.C_drewN ?_ _) | (with_reducible refine Kd.C_drew ?_))); (case side2 => exact (Kd.R_reads' HO_11.out).2.1); rintro e w23 ⟨v269, rfl, ho0, hb⟩; refine ⟨_, rfl, ?_⟩; have n0_ := Aside0.mk (Kd.R_below (by (with_reducible repeat (first | apply Kd.R_alloc | apply Kd.R_drewN | apply Kd.R_drew)); exact HO_11.out) hb); have n1_ := Aside0.mk (Kd.R_lower ho0 (below_size (by repeat (first | (with_reducible first | exact HB.out | apply below_alloc | apply pw_below_drewN | apply below_drew1) | exact HB.out | exact Below.refl _ _)))); have n2_ := Aside0.mk (below_step (by repeat (first | (with_reducible first | exact HB.out | apply below_alloc | apply pw_below_drewN | apply below_drew1) | exact HB.out | exact Below.refl _ _)) hb); clear HO_11; clear HB; have HO_11 := n0_; have HO270 := n1_; have HB := n2_; clear n0_ n1_ n2_; (try clear hb); (try clear hb2); (try clear hk); (try clear hi); (try clear ho0)) | ((with_reducible refine gate_callee (f := 27) rfl ?_); refine goesL_ (some 48) rfl rfl Try.func27 (by kernel_rfl) rfl #[.slice Ao22 t263.length co22, .int .i64 (wrap64 (a1)), .string ((⟨#[107, 101, 121]⟩ : ByteArray) ++ t266), .string x13_13, .bool true, .int .i64 1000] rfl (by (try simp only [List.map_toArray, List.map_cons, List.map_nil]); first | done | rfl | (simp only [List.length_drop, List.length_take]; rfl)) ?_; (with_reducible refine (merge_View.calls kj13 _ _ t263 (wrap64 (a1)) ((⟨#[107, 101, 121]⟩ : ByteArray) ++ t266) x13_13 true 1000 t271 _ ?side1 ?side2 A20.out).mono ?_); (case side1 => repeat (first | exact (Kd.R_reads' HO_11.out).2.2 | (with_reducible refine Kd.C_alloc ?_ _) | (with_reducible refine Kd.C_drewN ?_ _) | (with_reducible refine Kd.C_drew ?_))); (case side2 => exact (Kd.R_reads' HO_11.out).2.1); rintro e w24 ⟨v272, rfl, ho0, hb⟩; refine ⟨_, rfl, ?_⟩; have n0_ := Aside0.mk (Kd.R_below (by (with_reducible repeat (first | apply Kd.R_alloc | apply Kd.R_drewN | apply Kd.R_drew)); exact HO_11.out) hb); have n1_ := Aside0.mk (Kd.R_elder' (by (with_reducible repeat (first | apply Kd.R_alloc | apply Kd.R_drewN | apply Kd.R_drew)); exact HO270.out) (Kd.R_base ho0) hb); have n2_ := Aside0.mk (Kd.R_lower (Kd.R_new' ho0 (Kd.R_lt (by (with_reducible repeat (first | apply Kd.R_alloc | apply Kd.R_drewN | apply Kd.R_drew)); exact HO270.out))) (below_size (by repeat (first | (with_reducible first | exact HB.out | apply below_alloc | apply pw_below_drewN | apply below_drew1) | exact HB.out | exact Below.refl _ _)))); have n3_ := Aside0.mk (below_step (by repeat (first | (with_reducible first | exact HB.out | apply below_alloc | apply pw_below_drewN | apply below_drew1) | exact HB.out | exact Below.refl _ _)) hb); clear HO_11; clear HO270; clear HB; have HO_11 := n0_; have HO270 := n1_; have HO273 := n2_; have HB := n3_; clear n0_ n1_ n2_ n3_; (try clear hb); (try clear hb2); (try clear hk); (try clear hi); (try clear ho0); obtain ⟨Ao25, co25, eo25⟩ := Kd.R_slice HO270.out; subst eo25; obtain ⟨Ao26, co26, eo26⟩ := Kd.R_slice HO273.out; subst eo26))
        try simp only [Act.put, List.setIfInBounds_toArray, List.set_cons_zero, List.set_cons_succ]
        go_loopg [16] kj13 (fun kq v16 w' => ∃ (x16_2 : Int), v16 = .int .i64 x16_2 ∧ Aside0 (iceboxlaw15_MergeBack.l0 kq a1 a4 t263 ((⟨#[107, 101, 121]⟩ : ByteArray) ++ t266) x13_13 t268 t271 x16_2 = some r) ∧ Aside0 (kq ≤ kj13) ∧ Aside0 (Kd.R k31 31 w' w.heap.size (fun _ => True) (.slice Ao22 t263.length co22) t263) ∧ Aside0 (Kd.R k47 47 w' w.heap.size (fun k_ => some k_ ≠ ((.slice Ao26 t271.length co26) : Value).ownBlock) (.slice Ao25 t268.length co25) t268) ∧ Aside0 (Kd.R k47 47 w' w.heap.size (fun k_ => some k_ ≠ ((.slice Ao25 t268.length co25) : Value).ownBlock) (.slice Ao26 t271.length co26) t271) ∧ Aside0 (Below w.heap.size w w'))
        case atStart => exact ⟨(0), (by first | rfl | (simp; done) | (simp [*]; done)), H', ⟨Nat.le_refl _⟩, ⟨by (with_reducible repeat (first | apply Kd.R_alloc | apply Kd.R_drewN | apply Kd.R_drew)); exact HO_11.out⟩, ⟨by (with_reducible repeat (first | apply Kd.R_alloc | apply Kd.R_drewN | apply Kd.R_drew)); exact Kd.R_mono HO270.out (fun _ hk => hk.2)⟩, ⟨by (with_reducible repeat (first | apply Kd.R_alloc | apply Kd.R_drewN | apply Kd.R_drew)); exact Kd.R_mono HO273.out (fun _ hk => hk.2)⟩, ⟨by repeat (first | (with_reducible first | exact HB.out | apply below_alloc | apply pw_below_drewN | apply below_drew1) | exact HB.out | exact Below.refl _ _)⟩⟩
        case round =>
         clear H'
         obtain ⟨x16_2, rfl, HA, HK2, HO_11, HO_14, HO_15, HB⟩ := hrel
         cases gk with
         | zero => exact absurd HA.out (by simp [iceboxlaw15_MergeBack.l0])
         | succ k2 =>
          have H := HA.out
          clear HA
          simp only [iceboxlaw15_MergeBack.l0] at H
          by_cases c27 : x16_2 < (t268.length : Int)
          ·
           rw [if_pos c27] at H
           have c27b0 : decide (x16_2 < (t268.length : Int)) = true := decide_eq_true c27
           clear c27
           by_cases c28 : 0 ≤ x16_2
           ·
            rw [if_pos c28] at H
            have c28b0 : decide (0 ≤ x16_2) = true := decide_eq_true c28
            clear c28
            obtain ⟨ji29, hji29⟩ : ∃ j_ : Int, (wrap64 ((wrap64 ((t271.length : Int) - 1)) - x16_2)) = j_ := ⟨_, rfl⟩
            replace H : (if 0 ≤ (ji29) then (if (ji29) < (t271.length : Int) then (if (!((((rd_T47 t268 x16_2).f0).toList) == (((rd_T47 t271 (ji29)).f0).toList)) || (!((((rd_T47 t268 x16_2).f1).toList) == (((rd_T47 t271 (ji29)).f1).toList)))) = true then (some false) else (if (Op.bytesLess (((rd_T47 t268 x16_2).f0).toList) ((⟨#[107, 101, 121]⟩ : ByteArray) ++ t266).toList) = true then (some false) else (if x13_13.toList = ([] : List UInt8) then (if x16_2 > 0 then (if 0 ≤ (wrap64 (x16_2 - 1)) then (if (wrap64 (x16_2 - 1)) < (t268.length : Int) then (if ((Op.bytesLess (((rd_T47 t268 (wrap64 (x16_2 - 1))).f0).toList) (((rd_T47 t268 x16_2).f0).toList)) = true) then (iceboxlaw15_MergeBack.l0 k2 a1 a4 t263 ((⟨#[107, 101, 121]⟩ : ByteArray) ++ t266) x13_13 t268 t271 (wrap64 (x16_2 + 1))) else (some false)) else (none)) else (none)) else (iceboxlaw15_MergeBack.l0 k2 a1 a4 t263 ((⟨#[107, 101, 121]⟩ : ByteArray) ++ t266) x13_13 t268 t271 (wrap64 (x16_2 + 1)))) else (if ((Op.bytesLess (((rd_T47 t268 x16_2).f0).toList) x13_13.toList) = true) then (if x16_2 > 0 then (if 0 ≤ (wrap64 (x16_2 - 1)) then (if (wrap64 (x16_2 - 1)) < (t268.length : Int) then (if ((Op.bytesLess (((rd_T47 t268 (wrap64 (x16_2 - 1))).f0).toList) (((rd_T47 t268 x16_2).f0).toList)) = true) then (iceboxlaw15_MergeBack.l0 k2 a1 a4 t263 ((⟨#[107, 101, 121]⟩ : ByteArray) ++ t266) x13_13 t268 t271 (wrap64 (x16_2 + 1))) else (some false)) else (none)) else (none)) else (iceboxlaw15_MergeBack.l0 k2 a1 a4 t263 ((⟨#[107, 101, 121]⟩ : ByteArray) ++ t266) x13_13 t268 t271 (wrap64 (x16_2 + 1)))) else (some false))))) else (none)) else (none)) = some r := by first | (rw [hji29] at H; exact H) | (simp only [hji29] at H ⊢; exact H)
            have hji29w : (IntKind.i64.wrap ((wrap64 ((t271.length : Int) - 1)) - x16_2)) = ji29 := (i64_w _).trans hji29
            by_cases c30 : 0 ≤ (ji29)
            ·
             rw [if_pos c30] at H
             have c30b0 : decide (0 ≤ (ji29)) = true := decide_eq_true c30
             clear c30
             by_cases c31 : (ji29) < (t271.length : Int)
             ·
              rw [if_pos c31] at H
              have c31b0 : decide ((ji29) < (t271.length : Int)) = true := decide_eq_true c31
              clear c31
              by_cases c32 : (!((((rd_T47 t268 x16_2).f0).toList) == (((rd_T47 t271 (ji29)).f0).toList)) || (!((((rd_T47 t268 x16_2).f1).toList) == (((rd_T47 t271 (ji29)).f1).toList)))) = true
              ·
               rw [if_pos c32] at H
               have c32b0 : (!((((rd_T47 t268 x16_2).f0).toList) == (((rd_T47 t271 (ji29)).f0).toList)) || (!((((rd_T47 t268 x16_2).f1).toList) == (((rd_T47 t271 (ji29)).f1).toList)))) = true := c32
               clear c32
               exact absurd ((Option.some.inj H).trans hR_.out) (by decide)
              ·
               rw [if_neg c32] at H
               have c32b0 : (!((((rd_T47 t268 x16_2).f0).toList) == (((rd_T47 t271 (ji29)).f0).toList)) || (!((((rd_T47 t268 x16_2).f1).toList) == (((rd_T47 t271 (ji29)).f1).toList)))) = false := by simpa using c32
               clear c32
               by_cases c33 : (Op.bytesLess (((rd_T47 t268 x16_2).f0).toList) ((⟨#[107, 101, 121]⟩ : ByteArray) ++ t266).toList) = true
               ·
                rw [if_pos c33] at H
                have c33b0 : (Op.bytesLess (((rd_T47 t268 x16_2).f0).toList) ((⟨#[107, 101, 121]⟩ : ByteArray) ++ t266).toList) = true := c33
                (try (have c33b1 : ((((rd_T47 t268 x16_2).f0).toList) == ((⟨#[107, 101, 121]⟩ : ByteArray) ++ t266).toList) = false := bl_ne c33))
                (try (have c33b2 : (((⟨#[107, 101, 121]⟩ : ByteArray) ++ t266).toList == (((rd_T47 t268 x16_2).f0).toList)) = false := bl_ne2 c33))
                clear c33
                exact absurd ((Option.some.inj H).trans hR_.out) (by decide)
               ·
                rw [if_neg c33] at H
                have c33b0 : (Op.bytesLess (((rd_T47 t268 x16_2).f0).toList) ((⟨#[107, 101, 121]⟩ : ByteArray) ++ t266).toList) = false := by simpa using c33
                (try (have c33b1 : ((((rd_T47 t268 x16_2).f0).toList) == ((⟨#[107, 101, 121]⟩ : ByteArray) ++ t266).toList) = true := bl_eq (by assumption) (by assumption)))
                (try (have c33b2 : (((⟨#[107, 101, 121]⟩ : ByteArray) ++ t266).toList == (((rd_T47 t268 x16_2).f0).toList)) = true := bl_eq (by assumption) (by assumption)))
                clear c33
                by_cases c34 : x13_13.toList = ([] : List UInt8)
                ·
                 rw [if_pos c34] at H
                 have c34b0 : (x13_13.toList == ([] : List UInt8)) = true := beq_iff_eq.mpr c34
                 have c34b1 : (x13_13.toList != ([] : List UInt8)) = false := bne_eq_false_iff_eq.mpr c34
                 clear c34
                 by_cases c35 : x16_2 > 0
                 ·
                  rw [if_pos c35] at H
                  have c35b0 : decide (0 < x16_2) = true := decide_eq_true c35
                  clear c35
                  obtain ⟨ji36, hji36⟩ : ∃ j_ : Int, (wrap64 (x16_2 - 1)) = j_ := ⟨_, rfl⟩
                  replace H : (if 0 ≤ (ji36) then (if (ji36) < (t268.length : Int) then (if ((Op.bytesLess (((rd_T47 t268 (ji36)).f0).toList) (((rd_T47 t268 x16_2).f0).toList)) = true) then (iceboxlaw15_MergeBack.l0 k2 a1 a4 t263 ((⟨#[107, 101, 121]⟩ : ByteArray) ++ t266) x13_13 t268 t271 (wrap64 (x16_2 + 1))) else (some false)) else (none)) else (none)) = some r := by first | (rw [hji36] at H; exact H) | (simp only [hji36] at H ⊢; exact H)
                  have hji36w : (IntKind.i64.wrap (x16_2 - 1)) = ji36 := (i64_w _).trans hji36
                  by_cases c37 : 0 ≤ (ji36)
                  ·
                   rw [if_pos c37] at H
                   have c37b0 : decide (0 ≤ (ji36)) = true := decide_eq_true c37
                   clear c37
                   by_cases c38 : (ji36) < (t268.length : Int)
                   ·
                    rw [if_pos c38] at H
                    have c38b0 : decide ((ji36) < (t268.length : Int)) = true := decide_eq_true c38
                    clear c38
                    by_cases c39 : ((Op.bytesLess (((rd_T47 t268 (ji36)).f0).toList) (((rd_T47 t268 x16_2).f0).toList)) = true)
                    ·
                     rw [if_pos c39] at H
                     have c39b0 : (Op.bytesLess (((rd_T47 t268 (ji36)).f0).toList) (((rd_T47 t268 x16_2).f0).toList)) = true := c39
                     (try (have c39b1 : ((((rd_T47 t268 (ji36)).f0).toList) == (((rd_T47 t268 x16_2).f0).toList)) = false := bl_ne c39))
                     (try (have c39b2 : ((((rd_T47 t268 x16_2).f0).toList) == (((rd_T47 t268 (ji36)).f0).toList)) = false := bl_ne2 c39))
                     clear c39
                     have H' := Aside0.mk H
                     clear H
                     try go_wp2
                     have n0_ := Aside0.mk (Kd.R_drew HO_11.out)
                     have n1_ := Aside0.mk (Kd.R_drew HO_14.out)
                     have n2_ := Aside0.mk (Kd.R_drew HO_15.out)
                     have n3_ := Aside0.mk (below_drew1 HB.out)
                     clear HO_11
                     clear HO_14
                     clear HO_15
                     clear HB
                     have HO_11 := n0_
                     have HO_14 := n1_
                     have HO_15 := n2_
                     have HB := n3_
                     clear n0_ n1_ n2_ n3_
                     have p274 : 0 ≤ (x16_2 : Int) := of_decide_eq_true (by first | (with_reducible assumption) | assumption)
                     have q274 : x16_2 < (t268.length : Int) := of_decide_eq_true (by first | (with_reducible assumption) | assumption)
                     obtain ⟨ad274, e274, hx274_0, hx274_1⟩ := at_T47 (Kd.R_reads' HO_14.out).2.2 x16_2 p274 q274
                     cases e274
                     replace p274 := eq_true p274
                     replace q274 := eq_true q274
                     have p275 : 0 ≤ ((ji29) : Int) := of_decide_eq_true (by first | (with_reducible assumption) | assumption)
                     have q275 : (ji29) < (t271.length : Int) := of_decide_eq_true (by first | (with_reducible assumption) | assumption)
                     obtain ⟨ad275, e275, hx275_0, hx275_1⟩ := at_T47 (Kd.R_reads' HO_15.out).2.2 (ji29) p275 q275
                     cases e275
                     replace p275 := eq_true p275
                     replace q275 := eq_true q275
                     have p276 : 0 ≤ (x16_2 : Int) := of_decide_eq_true (by first | (with_reducible assumption) | assumption)
                     have q276 : x16_2 < (t268.length : Int) := of_decide_eq_true (by first | (with_reducible assumption) | assumption)
                     obtain ⟨ad276, e276, hx276_0, hx276_1⟩ := at_T47 (Kd.R_reads' HO_14.out).2.2 x16_2 p276 q276
                     obtain rfl : ad274 = ad276 := (by injection e276)
                     replace p276 := eq_true p276
                     replace q276 := eq_true q276
                     have p277 : 0 ≤ ((ji36) : Int) := of_decide_eq_true (by first | (with_reducible assumption) | assumption)
                     have q277 : (ji36) < (t268.length : Int) := of_decide_eq_true (by first | (with_reducible assumption) | assumption)
                     obtain ⟨ad277, e277, hx277_0, hx277_1⟩ := at_T47 (Kd.R_reads' HO_14.out).2.2 (ji36) p277 q277
                     obtain rfl : ad274 = ad277 := (by injection e277)
                     replace p277 := eq_true p277
                     replace q277 := eq_true q277
                     have p278 : 0 ≤ (x16_2 : Int) := of_decide_eq_true (by first | (with_reducible assumption) | assumption)
                     have q278 : x16_2 < (t268.length : Int) := of_decide_eq_true (by first | (with_reducible assumption) | assumption)
                     obtain ⟨ad278, e278, hx278_0, hx278_1⟩ := at_T47 (Kd.R_reads' HO_14.out).2.2 x16_2 p278 q278
                     obtain rfl : ad274 = ad278 := (by injection e278)
                     replace p278 := eq_true p278
                     replace q278 := eq_true q278
                     refine start_ (n := 53) (S := fun w' => w'.cell? (ad274.add ((x16_2).toNat * 2)) = some (.string ((rd_T47 t268 x16_2).f0)) ∧ w'.cell? ⟨(ad274.add ((x16_2).toNat * 2)).block, (ad274.add ((x16_2).toNat * 2)).off + 1, none⟩ = some (.string ((rd_T47 t268 x16_2).f1)) ∧ w'.cell? (ad275.add (((ji29)).toNat * 2)) = some (.string ((rd_T47 t271 (ji29)).f0)) ∧ w'.cell? ⟨(ad275.add (((ji29)).toNat * 2)).block, (ad275.add (((ji29)).toNat * 2)).off + 1, none⟩ = some (.string ((rd_T47 t271 (ji29)).f1)) ∧ w'.cell? (ad274.add ((x16_2).toNat * 2)) = some (.string ((rd_T47 t268 x16_2).f0)) ∧ w'.cell? ⟨(ad274.add ((x16_2).toNat * 2)).block, (ad274.add ((x16_2).toNat * 2)).off + 1, none⟩ = some (.string ((rd_T47 t268 x16_2).f1)) ∧ w'.cell? (ad274.add (((ji36)).toNat * 2)) = some (.string ((rd_T47 t268 (ji36)).f0)) ∧ w'.cell? ⟨(ad274.add (((ji36)).toNat * 2)).block, (ad274.add (((ji36)).toNat * 2)).off + 1, none⟩ = some (.string ((rd_T47 t268 (ji36)).f1)) ∧ w'.cell? (ad274.add ((x16_2).toNat * 2)) = some (.string ((rd_T47 t268 x16_2).f0)) ∧ w'.cell? ⟨(ad274.add ((x16_2).toNat * 2)).block, (ad274.add ((x16_2).toNat * 2)).off + 1, none⟩ = some (.string ((rd_T47 t268 x16_2).f1))) (ds := []) b7_0 (by kernel_rfl) rfl rfl ⟨hx274_0, hx274_1, hx275_0, hx275_1, hx276_0, hx276_1, hx277_0, hx277_1, hx278_0, hx278_1⟩ (fun hHeld => ?_); refine with_tabW iceboxlaw15_MergeBack.tab13 iceboxlaw15_MergeBack.bits13 (fun HT_ HW_ => ?_)
                     generalize wr.drew = w40 at HO_11 HO_14 HO_15 HB hx274_0 hx274_1 hx275_0 hx275_1 hx276_0 hx276_1 hx277_0 hx277_1 hx278_0 hx278_1 hHeld ⊢
                     refine pure_ (i := 0) (N := some 60) (v := ?_) (a' := ?_) b7_1 rfl rfl (any_of HT_.out (by kernel_rfl)) (fun _ _ _ h => h) (Or.inl ⟨by rfl, ?_⟩) ?_ ?_
                     rotate_left
                     ·
                      intro w'
                      go_simp
                      with_reducible rfl
                     rotate_left
                     ·
                      simp only [Act.put, q1_, q2_, q3_, i64_w, i32_w]
                      rfl
                     refine pure_ (i := 1) (N := some 61) (v := ?_) (a' := ?_) b7_2 rfl rfl (any_of HT_.out (by kernel_rfl)) (fun _ _ _ h => h) (Or.inl ⟨by rfl, ?_⟩) ?_ ?_
                     rotate_left
                     ·
                      intro w'
                      go_simp
                      with_reducible rfl
                     rotate_left
                     ·
                      simp only [Act.put, q1_, q2_, q3_, i64_w, i32_w]
                      rfl
                     refine pure_ (i := 2) (N := some 62) (v := ?_) (a' := ?_) b7_3 rfl rfl (any_of HT_.out (by kernel_rfl)) (fun _ _ _ h => h) (Or.inl ⟨by rfl, ?_⟩) ?_ ?_
                     rotate_left
                     ·
                      intro w'
                      go_simp
                      with_reducible rfl
                     rotate_left
                     ·
                      simp only [Act.put, q1_, q2_, q3_, i64_w, i32_w]
                      rfl
                     refine pure_ (i := 4) (N := some 64) (v := ?_) (a' := ?_) b7_4 rfl rfl (any_of HT_.out (by kernel_rfl)) (fun _ _ _ h => h) (Or.inl ⟨by rfl, ?_⟩) ?_ ?_
                     rotate_left
                     ·
                      intro w'
                      go_simp
                      with_reducible rfl
                     rotate_left
                     ·
                      simp only [Act.put, q1_, q2_, q3_, i64_w, i32_w]
                      rfl
                     refine pure_ (i := 5) (N := some 65) (v := ?_) (a' := ?_) b7_5 rfl rfl (any_of HT_.out (by kernel_rfl)) (fun _ _ _ h => h) (Or.inl ⟨by rfl, ?_⟩) ?_ ?_
                     rotate_left
                     ·
                      intro w'
                      go_simp
                      with_reducible rfl
                     rotate_left
                     ·
                      simp only [Act.put, q1_, q2_, q3_, i64_w, i32_w]
                      rfl
                     refine pure_ (i := 6) (N := some 66) (v := ?_) (a' := ?_) b7_6 rfl rfl (any_of HT_.out (by kernel_rfl)) (fun _ _ _ h => h) (Or.inl ⟨by rfl, ?_⟩) ?_ ?_
                     rotate_left
                     ·
                      intro w'
                      go_simp
                      with_reducible rfl
                     rotate_left
                     ·
                      simp only [Act.put, q1_, q2_, q3_, i64_w, i32_w]
                      rfl
                     refine pure_ (i := 7) (N := some 67) (v := ?_) (a' := ?_) b7_7 rfl rfl (any_of HT_.out (by kernel_rfl)) (fun _ _ _ h => h) (Or.inl ⟨by rfl, ?_⟩) ?_ ?_
                     rotate_left
                     ·
                      intro w'
                      go_simp
                      with_reducible rfl
                     rotate_left
                     ·
                      simp only [Act.put, q1_, q2_, q3_, i64_w, i32_w]
                      rfl
                     refine pure_ (i := 8) (N := some 68) (v := ?_) (a' := ?_) b7_8 rfl rfl (any_of HT_.out (by kernel_rfl)) (fun _ _ _ h => h) (Or.inl ⟨by rfl, ?_⟩) ?_ ?_
                     rotate_left
                     ·
                      intro w'
                      go_simp
                      with_reducible rfl
                     rotate_left
                     ·
                      simp only [Act.put, q1_, q2_, q3_, i64_w, i32_w]
                      rfl
                     refine pure_ (i := 9) (N := some 69) (v := ?_) (a' := ?_) b7_9 rfl rfl (any_of HT_.out (by kernel_rfl)) (fun _ _ _ h => h) (Or.inl ⟨by rfl, ?_⟩) ?_ ?_
                     rotate_left
                     ·
                      intro w'
                      go_simp
                      with_reducible rfl
                     rotate_left
                     ·
                      simp only [Act.put, q1_, q2_, q3_, i64_w, i32_w]
                      rfl
                     refine pure_ (i := 10) (N := some 70) (v := ?_) (a' := ?_) b7_10 rfl rfl (any_of HT_.out (by kernel_rfl)) (fun _ _ _ h => h) (Or.inl ⟨by rfl, ?_⟩) ?_ ?_
                     rotate_left
                     ·
                      intro w'
                      go_simp
                      with_reducible rfl
                     rotate_left
                     ·
                      simp only [Act.put, q1_, q2_, q3_, i64_w, i32_w]
                      rfl
                     refine take_ (i := 3) (N := some 63) (v := ?_) (a' := ?_) b7_11 rfl rfl (take_ofW HT_.out HW_.out (by kernel_rfl)) (fun _ _ _ h => h) (Or.inl ⟨by rfl, ?_⟩) hHeld ?_ ?_
                     rotate_left
                     ·
                      rintro w' ⟨s0, s1, s2, s3, s4, s5, s6, s7, s8, s9⟩
                      go_simp
                      with_reducible rfl
                     rotate_left
                     ·
                      simp only [Act.put, q1_, q2_, q3_, i64_w, i32_w]
                      rfl
                     refine take_ (i := 11) (N := some 71) (v := ?_) (a' := ?_) b7_12 rfl rfl (take_ofW HT_.out HW_.out (by kernel_rfl)) (fun _ _ _ h => h) (Or.inl ⟨by rfl, ?_⟩) hHeld ?_ ?_
                     rotate_left
                     ·
                      rintro w' ⟨s0, s1, s2, s3, s4, s5, s6, s7, s8, s9⟩
                      go_simp
                      with_reducible rfl
                     rotate_left
                     ·
                      simp only [Act.put, q1_, q2_, q3_, i64_w, i32_w]
                      rfl
                     refine pure_ (i := 12) (N := some 72) (v := ?_) (a' := ?_) b7_13 rfl rfl (any_of HT_.out (by kernel_rfl)) (fun _ _ _ h => h) (Or.inl ⟨by rfl, ?_⟩) ?_ ?_
                     rotate_left
                     ·
                      intro w'
                      go_simp
                      with_reducible rfl
                     rotate_left
                     ·
                      simp only [Act.put, q1_, q2_, q3_, i64_w, i32_w]
                      rfl
                     refine pure_ (i := 13) (N := some 73) (v := ?_) (a' := ?_) b7_14 rfl rfl (any_of HT_.out (by kernel_rfl)) (fun _ _ _ h => h) (Or.inl ⟨by rfl, ?_⟩) ?_ ?_
                     rotate_left
                     ·
                      intro w'
                      go_simp
                      with_reducible rfl
                     rotate_left
                     ·
                      simp only [Act.put, q1_, q2_, q3_, i64_w, i32_w]
                      rfl
                     refine pure_ (i := 14) (N := some 74) (v := ?_) (a' := ?_) b7_15 rfl rfl (any_of HT_.out (by kernel_rfl)) (fun _ _ _ h => h) (Or.inl ⟨by rfl, ?_⟩) ?_ ?_
                     rotate_left
                     ·
                      intro w'
                      go_simp
                      with_reducible rfl
                     rotate_left
                     ·
                      simp only [Act.put, q1_, q2_, q3_, i64_w, i32_w]
                      rfl
                     refine pure_ (i := 15) (N := some 75) (v := ?_) (a' := ?_) b7_16 rfl rfl (any_of HT_.out (by kernel_rfl)) (fun _ _ _ h => h) (Or.inl ⟨by rfl, ?_⟩) ?_ ?_
                     rotate_left
                     ·
                      intro w'
                      go_simp
                      with_reducible rfl
                     rotate_left
                     ·
                      simp only [Act.put, q1_, q2_, q3_, i64_w, i32_w]
                      rfl
                     refine pure_ (i := 16) (N := some 76) (v := ?_) (a' := ?_) b7_17 rfl rfl (any_of HT_.out (by kernel_rfl)) (fun _ _ _ h => h) (Or.inl ⟨by rfl, ?_⟩) ?_ ?_
                     rotate_left
                     ·
                      intro w'
                      go_simp
                      with_reducible rfl
                     rotate_left
                     ·
                      simp only [Act.put, q1_, q2_, q3_, i64_w, i32_w]
                      rfl
                     refine pure_ (i := 17) (N := some 77) (v := ?_) (a' := ?_) b7_18 rfl rfl (any_of HT_.out (by kernel_rfl)) (fun _ _ _ h => h) (Or.inl ⟨by rfl, ?_⟩) ?_ ?_
                     rotate_left
                     ·
                      intro w'
                      go_simp
                      with_reducible rfl
                     rotate_left
                     ·
                      simp only [Act.put, q1_, q2_, q3_, i64_w, i32_w]
                      rfl
                     refine pure_ (i := 19) (N := some 79) (v := ?_) (a' := ?_) b7_19 rfl rfl (any_of HT_.out (by kernel_rfl)) (fun _ _ _ h => h) (Or.inl ⟨by rfl, ?_⟩) ?_ ?_
                     rotate_left
                     ·
                      intro w'
                      go_simp
                      with_reducible rfl
                     rotate_left
                     ·
                      simp only [Act.put, q1_, q2_, q3_, i64_w, i32_w]
                      rfl
                     refine take_ (i := 18) (N := some 78) (v := ?_) (a' := ?_) b7_20 rfl rfl (take_ofW HT_.out HW_.out (by kernel_rfl)) (fun _ _ _ h => h) (Or.inl ⟨by rfl, ?_⟩) hHeld ?_ ?_
                     rotate_left
                     ·
                      rintro w' ⟨s0, s1, s2, s3, s4, s5, s6, s7, s8, s9⟩
                      go_simp
                      with_reducible rfl
                     rotate_left
                     ·
                      simp only [Act.put, q1_, q2_, q3_, i64_w, i32_w]
                      rfl
                     refine pure_ (i := 20) (N := some 80) (v := ?_) (a' := ?_) b7_21 rfl rfl (any_of HT_.out (by kernel_rfl)) (fun _ _ _ h => h) (Or.inl ⟨by rfl, ?_⟩) ?_ ?_
                     rotate_left
                     ·
                      intro w'
                      go_simp
                      with_reducible rfl
                     rotate_left
                     ·
                      simp only [Act.put, q1_, q2_, q3_, i64_w, i32_w]
                      rfl
                     refine pure_ (i := 21) (N := some 81) (v := ?_) (a' := ?_) b7_22 rfl rfl (any_of HT_.out (by kernel_rfl)) (fun _ _ _ h => h) (Or.inl ⟨by rfl, ?_⟩) ?_ ?_
                     rotate_left
                     ·
                      intro w'
                      go_simp
                      with_reducible rfl
                     rotate_left
                     ·
                      simp only [Act.put, q1_, q2_, q3_, i64_w, i32_w]
                      rfl
                     refine pure_ (i := 22) (N := some 82) (v := ?_) (a' := ?_) b7_23 rfl rfl (any_of HT_.out (by kernel_rfl)) (fun _ _ _ h => h) (Or.inl ⟨by rfl, ?_⟩) ?_ ?_
                     rotate_left
                     ·
                      intro w'
                      go_simp
                      with_reducible rfl
                     rotate_left
                     ·
                      simp only [Act.put, q1_, q2_, q3_, i64_w, i32_w]
                      rfl
                     refine pure_ (i := 23) (N := some 83) (v := ?_) (a' := ?_) b7_24 rfl rfl (any_of HT_.out (by kernel_rfl)) (fun _ _ _ h => h) (Or.inl ⟨by rfl, ?_⟩) ?_ ?_
                     rotate_left
                     ·
                      intro w'
                      go_simp
                      with_reducible rfl
                     rotate_left
                     ·
                      simp only [Act.put, q1_, q2_, q3_, i64_w, i32_w]
                      rfl
                     refine pure_ (i := 24) (N := some 84) (v := ?_) (a' := ?_) b7_25 rfl rfl (any_of HT_.out (by kernel_rfl)) (fun _ _ _ h => h) (Or.inl ⟨by rfl, ?_⟩) ?_ ?_
                     rotate_left
                     ·
                      intro w'
                      go_simp
                      with_reducible rfl
                     rotate_left
                     ·
                      simp only [Act.put, q1_, q2_, q3_, i64_w, i32_w]
                      rfl
                     refine pure_ (i := 25) (N := some 85) (v := ?_) (a' := ?_) b7_26 rfl rfl (any_of HT_.out (by kernel_rfl)) (fun _ _ _ h => h) (Or.inl ⟨by rfl, ?_⟩) ?_ ?_
                     rotate_left
                     ·
                      intro w'
                      go_simp
                      with_reducible rfl
                     rotate_left
                     ·
                      simp only [Act.put, q1_, q2_, q3_, i64_w, i32_w]
                      rfl
                     refine pure_ (i := 26) (N := some 86) (v := undef) (a' := ?_) b7_27 rfl rfl (any_of HT_.out (by kernel_rfl)) (fun _ _ _ h => h) (Or.inr ⟨by rfl, rfl⟩) ?_ ?_
                     rotate_left
                     ·
                      simp only [Act.put, q1_, q2_, q3_, i64_w, i32_w]
                      rfl
                     refine pure_ (i := 27) (N := some 87) (v := undef) (a' := ?_) b7_28 rfl rfl (any_of HT_.out (by kernel_rfl)) (fun _ _ _ h => h) (Or.inr ⟨by rfl, rfl⟩) ?_ ?_
                     rotate_left
                     ·
                      simp only [Act.put, q1_, q2_, q3_, i64_w, i32_w]
                      rfl
                     refine pure_ (i := 28) (N := some 88) (v := undef) (a' := ?_) b7_29 rfl rfl (any_of HT_.out (by kernel_rfl)) (fun _ _ _ h => h) (Or.inr ⟨by rfl, rfl⟩) ?_ ?_
                     rotate_left
                     ·
                      simp only [Act.put, q1_, q2_, q3_, i64_w, i32_w]
                      rfl
                     refine pure_ (i := 29) (N := some 89) (v := undef) (a' := ?_) b7_30 rfl rfl (any_of HT_.out (by kernel_rfl)) (fun _ _ _ h => h) (Or.inr ⟨by rfl, rfl⟩) ?_ ?_
                     rotate_left
                     ·
                      simp only [Act.put, q1_, q2_, q3_, i64_w, i32_w]
                      rfl
                     refine pure_ (i := 30) (N := some 90) (v := undef) (a' := ?_) b7_31 rfl rfl (any_of HT_.out (by kernel_rfl)) (fun _ _ _ h => h) (Or.inr ⟨by rfl, rfl⟩) ?_ ?_
                     rotate_left
                     ·
                      simp only [Act.put, q1_, q2_, q3_, i64_w, i32_w]
                      rfl
                     refine pure_ (i := 31) (N := some 91) (v := undef) (a' := ?_) b7_32 rfl rfl (any_of HT_.out (by kernel_rfl)) (fun _ _ _ h => h) (Or.inr ⟨by rfl, rfl⟩) ?_ ?_
                     rotate_left
                     ·
                      simp only [Act.put, q1_, q2_, q3_, i64_w, i32_w]
                      rfl
                     refine pure_ (i := 32) (N := some 92) (v := undef) (a' := ?_) b7_33 rfl rfl (any_of HT_.out (by kernel_rfl)) (fun _ _ _ h => h) (Or.inr ⟨by rfl, rfl⟩) ?_ ?_
                     rotate_left
                     ·
                      simp only [Act.put, q1_, q2_, q3_, i64_w, i32_w]
                      rfl
                     refine pure_ (i := 33) (N := some 93) (v := ?_) (a' := ?_) b7_34 rfl rfl (any_of HT_.out (by kernel_rfl)) (fun _ _ _ h => h) (Or.inl ⟨by rfl, ?_⟩) ?_ ?_
                     rotate_left
                     ·
                      intro w'
                      go_simp
                      with_reducible rfl
                     rotate_left
                     ·
                      simp only [Act.put, q1_, q2_, q3_, i64_w, i32_w]
                      rfl
                     refine pure_ (i := 34) (N := some 94) (v := ?_) (a' := ?_) b7_35 rfl rfl (any_of HT_.out (by kernel_rfl)) (fun _ _ _ h => h) (Or.inl ⟨by rfl, ?_⟩) ?_ ?_
                     rotate_left
                     ·
                      intro w'
                      go_simp
                      with_reducible rfl
                     rotate_left
                     ·
                      simp only [Act.put, q1_, q2_, q3_, i64_w, i32_w]
                      rfl
                     refine pure_ (i := 35) (N := some 95) (v := ?_) (a' := ?_) b7_36 rfl rfl (any_of HT_.out (by kernel_rfl)) (fun _ _ _ h => h) (Or.inl ⟨by rfl, ?_⟩) ?_ ?_
                     rotate_left
                     ·
                      intro w'
                      go_simp
                      with_reducible rfl
                     rotate_left
                     ·
                      simp only [Act.put, q1_, q2_, q3_, i64_w, i32_w]
                      rfl
                     refine pure_ (i := 36) (N := some 96) (v := ?_) (a' := ?_) b7_37 rfl rfl (any_of HT_.out (by kernel_rfl)) (fun _ _ _ h => h) (Or.inl ⟨by rfl, ?_⟩) ?_ ?_
                     rotate_left
                     ·
                      intro w'
                      go_simp
                      with_reducible rfl
                     rotate_left
                     ·
                      simp only [Act.put, q1_, q2_, q3_, i64_w, i32_w]
                      rfl
                     refine pure_ (i := 37) (N := some 97) (v := ?_) (a' := ?_) b7_38 rfl rfl (any_of HT_.out (by kernel_rfl)) (fun _ _ _ h => h) (Or.inl ⟨by rfl, ?_⟩) ?_ ?_
                     rotate_left
                     ·
                      intro w'
                      go_simp
                      with_reducible rfl
                     rotate_left
                     ·
                      simp only [Act.put, q1_, q2_, q3_, i64_w, i32_w]
                      rfl
                     refine pure_ (i := 38) (N := some 98) (v := ?_) (a' := ?_) b7_39 rfl rfl (any_of HT_.out (by kernel_rfl)) (fun _ _ _ h => h) (Or.inl ⟨by rfl, ?_⟩) ?_ ?_
                     rotate_left
                     ·
                      intro w'
                      go_simp
                      with_reducible rfl
                     rotate_left
                     ·
                      simp only [Act.put, q1_, q2_, q3_, i64_w, i32_w]
                      rfl
                     refine pure_ (i := 39) (N := some 99) (v := ?_) (a' := ?_) b7_40 rfl rfl (any_of HT_.out (by kernel_rfl)) (fun _ _ _ h => h) (Or.inl ⟨by rfl, ?_⟩) ?_ ?_
                     rotate_left
                     ·
                      intro w'
                      go_simp
                      with_reducible rfl
                     rotate_left
                     ·
                      simp only [Act.put, q1_, q2_, q3_, i64_w, i32_w]
                      rfl
                     refine pure_ (i := 40) (N := some 100) (v := ?_) (a' := ?_) b7_41 rfl rfl (any_of HT_.out (by kernel_rfl)) (fun _ _ _ h => h) (Or.inl ⟨by rfl, ?_⟩) ?_ ?_
                     rotate_left
                     ·
                      intro w'
                      go_simp
                      with_reducible rfl
                     rotate_left
                     ·
                      simp only [Act.put, q1_, q2_, q3_, i64_w, i32_w]
                      rfl
                     refine pure_ (i := 41) (N := some 101) (v := ?_) (a' := ?_) b7_42 rfl rfl (any_of HT_.out (by kernel_rfl)) (fun _ _ _ h => h) (Or.inl ⟨by rfl, ?_⟩) ?_ ?_
                     rotate_left
                     ·
                      intro w'
                      go_simp
                      with_reducible rfl
                     rotate_left
                     ·
                      simp only [Act.put, q1_, q2_, q3_, i64_w, i32_w]
                      rfl
                     refine pure_ (i := 42) (N := some 102) (v := ?_) (a' := ?_) b7_43 rfl rfl (any_of HT_.out (by kernel_rfl)) (fun _ _ _ h => h) (Or.inl ⟨by rfl, ?_⟩) ?_ ?_
                     rotate_left
                     ·
                      intro w'
                      go_simp
                      with_reducible rfl
                     rotate_left
                     ·
                      simp only [Act.put, q1_, q2_, q3_, i64_w, i32_w]
                      rfl
                     refine pure_ (i := 43) (N := some 103) (v := ?_) (a' := ?_) b7_44 rfl rfl (any_of HT_.out (by kernel_rfl)) (fun _ _ _ h => h) (Or.inl ⟨by rfl, ?_⟩) ?_ ?_
                     rotate_left
                     ·
                      intro w'
                      go_simp
                      with_reducible rfl
                     rotate_left
                     ·
                      simp only [Act.put, q1_, q2_, q3_, i64_w, i32_w]
                      rfl
                     refine pure_ (i := 45) (N := some 105) (v := ?_) (a' := ?_) b7_45 rfl rfl (any_of HT_.out (by kernel_rfl)) (fun _ _ _ h => h) (Or.inl ⟨by rfl, ?_⟩) ?_ ?_
                     rotate_left
                     ·
                      intro w'
                      go_simp
                      with_reducible rfl
                     rotate_left
                     ·
                      simp only [Act.put, q1_, q2_, q3_, i64_w, i32_w]
                      rfl
                     refine pure_ (i := 46) (N := some 106) (v := ?_) (a' := ?_) b7_46 rfl rfl (any_of HT_.out (by kernel_rfl)) (fun _ _ _ h => h) (Or.inl ⟨by rfl, ?_⟩) ?_ ?_
                     rotate_left
                     ·
                      intro w'
                      go_simp
                      with_reducible rfl
                     rotate_left
                     ·
                      simp only [Act.put, q1_, q2_, q3_, i64_w, i32_w]
                      rfl
                     refine pure_ (i := 47) (N := some 107) (v := ?_) (a' := ?_) b7_47 rfl rfl (any_of HT_.out (by kernel_rfl)) (fun _ _ _ h => h) (Or.inl ⟨by rfl, ?_⟩) ?_ ?_
                     rotate_left
                     ·
                      intro w'
                      go_simp
                      with_reducible rfl
                     rotate_left
                     ·
                      simp only [Act.put, q1_, q2_, q3_, i64_w, i32_w]
                      rfl
                     refine pure_ (i := 48) (N := some 108) (v := ?_) (a' := ?_) b7_48 rfl rfl (any_of HT_.out (by kernel_rfl)) (fun _ _ _ h => h) (Or.inl ⟨by rfl, ?_⟩) ?_ ?_
                     rotate_left
                     ·
                      intro w'
                      go_simp
                      with_reducible rfl
                     rotate_left
                     ·
                      simp only [Act.put, q1_, q2_, q3_, i64_w, i32_w]
                      rfl
                     refine take_ (i := 44) (N := some 104) (v := ?_) (a' := ?_) b7_49 rfl rfl (take_ofW HT_.out HW_.out (by kernel_rfl)) (fun _ _ _ h => h) (Or.inl ⟨by rfl, ?_⟩) hHeld ?_ ?_
                     rotate_left
                     ·
                      rintro w' ⟨s0, s1, s2, s3, s4, s5, s6, s7, s8, s9⟩
                      go_simp
                      with_reducible rfl
                     rotate_left
                     ·
                      simp only [Act.put, q1_, q2_, q3_, i64_w, i32_w]
                      rfl
                     refine take_ (i := 49) (N := some 109) (v := ?_) (a' := ?_) b7_50 rfl rfl (take_ofW HT_.out HW_.out (by kernel_rfl)) (fun _ _ _ h => h) (Or.inl ⟨by rfl, ?_⟩) hHeld ?_ ?_
                     rotate_left
                     ·
                      rintro w' ⟨s0, s1, s2, s3, s4, s5, s6, s7, s8, s9⟩
                      go_simp
                      with_reducible rfl
                     rotate_left
                     ·
                      simp only [Act.put, q1_, q2_, q3_, i64_w, i32_w]
                      rfl
                     refine pure_ (i := 50) (N := some 110) (v := ?_) (a' := ?_) b7_51 rfl rfl (any_of HT_.out (by kernel_rfl)) (fun _ _ _ h => h) (Or.inl ⟨by rfl, ?_⟩) ?_ ?_
                     rotate_left
                     ·
                      intro w'
                      go_simp
                      with_reducible rfl
                     rotate_left
                     ·
                      simp only [Act.put, q1_, q2_, q3_, i64_w, i32_w]
                      rfl
                     refine pure_ (i := 51) (N := some 111) (v := ?_) (a' := ?_) b7_52 rfl rfl (any_of HT_.out (by kernel_rfl)) (fun _ _ _ h => h) (Or.inl ⟨by rfl, ?_⟩) ?_ ?_
                     rotate_left
                     ·
                      intro w'
                      go_simp
                      with_reducible rfl
                     rotate_left
                     ·
                      simp only [Act.put, q1_, q2_, q3_, i64_w, i32_w]
                      rfl
                     refine pure_ (i := 52) (N := some 112) (v := ?_) (a' := ?_) b7_53 rfl rfl (any_of HT_.out (by kernel_rfl)) (fun _ _ _ h => h) (Or.inl ⟨by rfl, ?_⟩) ?_ ?_
                     rotate_left
                     ·
                      intro w'
                      go_simp
                      with_reducible rfl
                     rotate_left
                     ·
                      simp only [Act.put, q1_, q2_, q3_, i64_w, i32_w]
                      rfl
                     refine done_ (done_of HT_.out (by kernel_rfl)) ?_
                     try go_wp2
                     go_roundg k2
                     case measure => have := HJ13.out; have := HK2.out; omega
                     case rel => exact ⟨(wrap64 (x16_2 + 1)), (by first | rfl | (simp; done) | (simp [*]; done)), (by first | exact H' | (simp only [hji29, hji36]; exact H')), ⟨by have := HJ13.out; have := HK2.out; omega⟩, ⟨by (with_reducible repeat (first | apply Kd.R_alloc | apply Kd.R_drewN | apply Kd.R_drew)); exact HO_11.out⟩, ⟨by (with_reducible repeat (first | apply Kd.R_alloc | apply Kd.R_drewN | apply Kd.R_drew)); exact HO_14.out⟩, ⟨by (with_reducible repeat (first | apply Kd.R_alloc | apply Kd.R_drewN | apply Kd.R_drew)); exact HO_15.out⟩, ⟨by repeat (first | (with_reducible first | exact HB.out | apply below_alloc | apply pw_below_drewN | apply below_drew1) | exact HB.out | exact Below.refl _ _)⟩⟩
                    ·
                     rw [if_neg c39] at H
                     have c39b0 : (Op.bytesLess (((rd_T47 t268 (ji36)).f0).toList) (((rd_T47 t268 x16_2).f0).toList)) = false := by simpa using c39
                     (try (have c39b1 : ((((rd_T47 t268 (ji36)).f0).toList) == (((rd_T47 t268 x16_2).f0).toList)) = true := bl_eq (by assumption) (by assumption)))
                     (try (have c39b2 : ((((rd_T47 t268 x16_2).f0).toList) == (((rd_T47 t268 (ji36)).f0).toList)) = true := bl_eq (by assumption) (by assumption)))
                     clear c39
                     exact absurd ((Option.some.inj H).trans hR_.out) (by decide)
                   ·
                    rw [if_neg c38] at H
                    exact absurd H (by simp)
                  ·
                   rw [if_neg c37] at H
                   exact absurd H (by simp)
                 ·
                  rw [if_neg c35] at H
                  have c35b0 : decide (0 < x16_2) = false := decide_eq_false c35
                  clear c35
                  have H' := Aside0.mk H
                  clear H
                  try go_wp2
                  have n0_ := Aside0.mk (Kd.R_drew HO_11.out)
                  have n1_ := Aside0.mk (Kd.R_drew HO_14.out)
                  have n2_ := Aside0.mk (Kd.R_drew HO_15.out)
                  have n3_ := Aside0.mk (below_drew1 HB.out)
                  clear HO_11
                  clear HO_14
                  clear HO_15
                  clear HB
                  have HO_11 := n0_
                  have HO_14 := n1_
                  have HO_15 := n2_
                  have HB := n3_
                  clear n0_ n1_ n2_ n3_
                  have p274 : 0 ≤ (x16_2 : Int) := of_decide_eq_true (by first | (with_reducible assumption) | assumption)
                  have q274 : x16_2 < (t268.length : Int) := of_decide_eq_true (by first | (with_reducible assumption) | assumption)
                  obtain ⟨ad274, e274, hx274_0, hx274_1⟩ := at_T47 (Kd.R_reads' HO_14.out).2.2 x16_2 p274 q274
                  cases e274
                  replace p274 := eq_true p274
                  replace q274 := eq_true q274
                  have p275 : 0 ≤ ((ji29) : Int) := of_decide_eq_true (by first | (with_reducible assumption) | assumption)
                  have q275 : (ji29) < (t271.length : Int) := of_decide_eq_true (by first | (with_reducible assumption) | assumption)
                  obtain ⟨ad275, e275, hx275_0, hx275_1⟩ := at_T47 (Kd.R_reads' HO_15.out).2.2 (ji29) p275 q275
                  cases e275
                  replace p275 := eq_true p275
                  replace q275 := eq_true q275
                  have p276 : 0 ≤ (x16_2 : Int) := of_decide_eq_true (by first | (with_reducible assumption) | assumption)
                  have q276 : x16_2 < (t268.length : Int) := of_decide_eq_true (by first | (with_reducible assumption) | assumption)
                  obtain ⟨ad276, e276, hx276_0, hx276_1⟩ := at_T47 (Kd.R_reads' HO_14.out).2.2 x16_2 p276 q276
                  obtain rfl : ad274 = ad276 := (by injection e276)
                  replace p276 := eq_true p276
                  replace q276 := eq_true q276
                  refine start_ (n := 53) (S := fun w' => w'.cell? (ad274.add ((x16_2).toNat * 2)) = some (.string ((rd_T47 t268 x16_2).f0)) ∧ w'.cell? ⟨(ad274.add ((x16_2).toNat * 2)).block, (ad274.add ((x16_2).toNat * 2)).off + 1, none⟩ = some (.string ((rd_T47 t268 x16_2).f1)) ∧ w'.cell? (ad275.add (((ji29)).toNat * 2)) = some (.string ((rd_T47 t271 (ji29)).f0)) ∧ w'.cell? ⟨(ad275.add (((ji29)).toNat * 2)).block, (ad275.add (((ji29)).toNat * 2)).off + 1, none⟩ = some (.string ((rd_T47 t271 (ji29)).f1)) ∧ w'.cell? (ad274.add ((x16_2).toNat * 2)) = some (.string ((rd_T47 t268 x16_2).f0)) ∧ w'.cell? ⟨(ad274.add ((x16_2).toNat * 2)).block, (ad274.add ((x16_2).toNat * 2)).off + 1, none⟩ = some (.string ((rd_T47 t268 x16_2).f1))) (ds := []) b7_0 (by kernel_rfl) rfl rfl ⟨hx274_0, hx274_1, hx275_0, hx275_1, hx276_0, hx276_1⟩ (fun hHeld => ?_); refine with_tabW iceboxlaw15_MergeBack.tab13 iceboxlaw15_MergeBack.bits13 (fun HT_ HW_ => ?_)
                  generalize wr.drew = w41 at HO_11 HO_14 HO_15 HB hx274_0 hx274_1 hx275_0 hx275_1 hx276_0 hx276_1 hHeld ⊢
                  refine pure_ (i := 0) (N := some 60) (v := ?_) (a' := ?_) b7_1 rfl rfl (any_of HT_.out (by kernel_rfl)) (fun _ _ _ h => h) (Or.inl ⟨by rfl, ?_⟩) ?_ ?_
                  rotate_left
                  ·
                   intro w'
                   go_simp
                   with_reducible rfl
                  rotate_left
                  ·
                   simp only [Act.put, q1_, q2_, q3_, i64_w, i32_w]
                   rfl
                  refine pure_ (i := 1) (N := some 61) (v := ?_) (a' := ?_) b7_2 rfl rfl (any_of HT_.out (by kernel_rfl)) (fun _ _ _ h => h) (Or.inl ⟨by rfl, ?_⟩) ?_ ?_
                  rotate_left
                  ·
                   intro w'
                   go_simp
                   with_reducible rfl
                  rotate_left
                  ·
                   simp only [Act.put, q1_, q2_, q3_, i64_w, i32_w]
                   rfl
                  refine pure_ (i := 2) (N := some 62) (v := ?_) (a' := ?_) b7_3 rfl rfl (any_of HT_.out (by kernel_rfl)) (fun _ _ _ h => h) (Or.inl ⟨by rfl, ?_⟩) ?_ ?_
                  rotate_left
                  ·
                   intro w'
                   go_simp
                   with_reducible rfl
                  rotate_left
                  ·
                   simp only [Act.put, q1_, q2_, q3_, i64_w, i32_w]
                   rfl
                  refine pure_ (i := 4) (N := some 64) (v := ?_) (a' := ?_) b7_4 rfl rfl (any_of HT_.out (by kernel_rfl)) (fun _ _ _ h => h) (Or.inl ⟨by rfl, ?_⟩) ?_ ?_
                  rotate_left
                  ·
                   intro w'
                   go_simp
                   with_reducible rfl
                  rotate_left
                  ·
                   simp only [Act.put, q1_, q2_, q3_, i64_w, i32_w]
                   rfl
                  refine pure_ (i := 5) (N := some 65) (v := ?_) (a' := ?_) b7_5 rfl rfl (any_of HT_.out (by kernel_rfl)) (fun _ _ _ h => h) (Or.inl ⟨by rfl, ?_⟩) ?_ ?_
                  rotate_left
                  ·
                   intro w'
                   go_simp
                   with_reducible rfl
                  rotate_left
                  ·
                   simp only [Act.put, q1_, q2_, q3_, i64_w, i32_w]
                   rfl
                  refine pure_ (i := 6) (N := some 66) (v := ?_) (a' := ?_) b7_6 rfl rfl (any_of HT_.out (by kernel_rfl)) (fun _ _ _ h => h) (Or.inl ⟨by rfl, ?_⟩) ?_ ?_
                  rotate_left
                  ·
                   intro w'
                   go_simp
                   with_reducible rfl
                  rotate_left
                  ·
                   simp only [Act.put, q1_, q2_, q3_, i64_w, i32_w]
                   rfl
                  refine pure_ (i := 7) (N := some 67) (v := ?_) (a' := ?_) b7_7 rfl rfl (any_of HT_.out (by kernel_rfl)) (fun _ _ _ h => h) (Or.inl ⟨by rfl, ?_⟩) ?_ ?_
                  rotate_left
                  ·
                   intro w'
                   go_simp
                   with_reducible rfl
                  rotate_left
                  ·
                   simp only [Act.put, q1_, q2_, q3_, i64_w, i32_w]
                   rfl
                  refine pure_ (i := 8) (N := some 68) (v := ?_) (a' := ?_) b7_8 rfl rfl (any_of HT_.out (by kernel_rfl)) (fun _ _ _ h => h) (Or.inl ⟨by rfl, ?_⟩) ?_ ?_
                  rotate_left
                  ·
                   intro w'
                   go_simp
                   with_reducible rfl
                  rotate_left
                  ·
                   simp only [Act.put, q1_, q2_, q3_, i64_w, i32_w]
                   rfl
                  refine pure_ (i := 9) (N := some 69) (v := ?_) (a' := ?_) b7_9 rfl rfl (any_of HT_.out (by kernel_rfl)) (fun _ _ _ h => h) (Or.inl ⟨by rfl, ?_⟩) ?_ ?_
                  rotate_left
                  ·
                   intro w'
                   go_simp
                   with_reducible rfl
                  rotate_left
                  ·
                   simp only [Act.put, q1_, q2_, q3_, i64_w, i32_w]
                   rfl
                  refine pure_ (i := 10) (N := some 70) (v := ?_) (a' := ?_) b7_10 rfl rfl (any_of HT_.out (by kernel_rfl)) (fun _ _ _ h => h) (Or.inl ⟨by rfl, ?_⟩) ?_ ?_
                  rotate_left
                  ·
                   intro w'
                   go_simp
                   with_reducible rfl
                  rotate_left
                  ·
                   simp only [Act.put, q1_, q2_, q3_, i64_w, i32_w]
                   rfl
                  refine take_ (i := 3) (N := some 63) (v := ?_) (a' := ?_) b7_11 rfl rfl (take_ofW HT_.out HW_.out (by kernel_rfl)) (fun _ _ _ h => h) (Or.inl ⟨by rfl, ?_⟩) hHeld ?_ ?_
                  rotate_left
                  ·
                   rintro w' ⟨s0, s1, s2, s3, s4, s5⟩
                   go_simp
                   with_reducible rfl
                  rotate_left
                  ·
                   simp only [Act.put, q1_, q2_, q3_, i64_w, i32_w]
                   rfl
                  refine take_ (i := 11) (N := some 71) (v := ?_) (a' := ?_) b7_12 rfl rfl (take_ofW HT_.out HW_.out (by kernel_rfl)) (fun _ _ _ h => h) (Or.inl ⟨by rfl, ?_⟩) hHeld ?_ ?_
                  rotate_left
                  ·
                   rintro w' ⟨s0, s1, s2, s3, s4, s5⟩
                   go_simp
                   with_reducible rfl
                  rotate_left
                  ·
                   simp only [Act.put, q1_, q2_, q3_, i64_w, i32_w]
                   rfl
                  refine pure_ (i := 12) (N := some 72) (v := ?_) (a' := ?_) b7_13 rfl rfl (any_of HT_.out (by kernel_rfl)) (fun _ _ _ h => h) (Or.inl ⟨by rfl, ?_⟩) ?_ ?_
                  rotate_left
                  ·
                   intro w'
                   go_simp
                   with_reducible rfl
                  rotate_left
                  ·
                   simp only [Act.put, q1_, q2_, q3_, i64_w, i32_w]
                   rfl
                  refine pure_ (i := 13) (N := some 73) (v := ?_) (a' := ?_) b7_14 rfl rfl (any_of HT_.out (by kernel_rfl)) (fun _ _ _ h => h) (Or.inl ⟨by rfl, ?_⟩) ?_ ?_
                  rotate_left
                  ·
                   intro w'
                   go_simp
                   with_reducible rfl
                  rotate_left
                  ·
                   simp only [Act.put, q1_, q2_, q3_, i64_w, i32_w]
                   rfl
                  refine pure_ (i := 14) (N := some 74) (v := ?_) (a' := ?_) b7_15 rfl rfl (any_of HT_.out (by kernel_rfl)) (fun _ _ _ h => h) (Or.inl ⟨by rfl, ?_⟩) ?_ ?_
                  rotate_left
                  ·
                   intro w'
                   go_simp
                   with_reducible rfl
                  rotate_left
                  ·
                   simp only [Act.put, q1_, q2_, q3_, i64_w, i32_w]
                   rfl
                  refine pure_ (i := 15) (N := some 75) (v := ?_) (a' := ?_) b7_16 rfl rfl (any_of HT_.out (by kernel_rfl)) (fun _ _ _ h => h) (Or.inl ⟨by rfl, ?_⟩) ?_ ?_
                  rotate_left
                  ·
                   intro w'
                   go_simp
                   with_reducible rfl
                  rotate_left
                  ·
                   simp only [Act.put, q1_, q2_, q3_, i64_w, i32_w]
                   rfl
                  refine pure_ (i := 16) (N := some 76) (v := ?_) (a' := ?_) b7_17 rfl rfl (any_of HT_.out (by kernel_rfl)) (fun _ _ _ h => h) (Or.inl ⟨by rfl, ?_⟩) ?_ ?_
                  rotate_left
                  ·
                   intro w'
                   go_simp
                   with_reducible rfl
                  rotate_left
                  ·
                   simp only [Act.put, q1_, q2_, q3_, i64_w, i32_w]
                   rfl
                  refine pure_ (i := 17) (N := some 77) (v := ?_) (a' := ?_) b7_18 rfl rfl (any_of HT_.out (by kernel_rfl)) (fun _ _ _ h => h) (Or.inl ⟨by rfl, ?_⟩) ?_ ?_
                  rotate_left
                  ·
                   intro w'
                   go_simp
                   with_reducible rfl
                  rotate_left
                  ·
                   simp only [Act.put, q1_, q2_, q3_, i64_w, i32_w]
                   rfl
                  refine pure_ (i := 19) (N := some 79) (v := ?_) (a' := ?_) b7_19 rfl rfl (any_of HT_.out (by kernel_rfl)) (fun _ _ _ h => h) (Or.inl ⟨by rfl, ?_⟩) ?_ ?_
                  rotate_left
                  ·
                   intro w'
                   go_simp
                   with_reducible rfl
                  rotate_left
                  ·
                   simp only [Act.put, q1_, q2_, q3_, i64_w, i32_w]
                   rfl
                  refine take_ (i := 18) (N := some 78) (v := ?_) (a' := ?_) b7_20 rfl rfl (take_ofW HT_.out HW_.out (by kernel_rfl)) (fun _ _ _ h => h) (Or.inl ⟨by rfl, ?_⟩) hHeld ?_ ?_
                  rotate_left
                  ·
                   rintro w' ⟨s0, s1, s2, s3, s4, s5⟩
                   go_simp
                   with_reducible rfl
                  rotate_left
                  ·
                   simp only [Act.put, q1_, q2_, q3_, i64_w, i32_w]
                   rfl
                  refine pure_ (i := 20) (N := some 80) (v := ?_) (a' := ?_) b7_21 rfl rfl (any_of HT_.out (by kernel_rfl)) (fun _ _ _ h => h) (Or.inl ⟨by rfl, ?_⟩) ?_ ?_
                  rotate_left
                  ·
                   intro w'
                   go_simp
                   with_reducible rfl
                  rotate_left
                  ·
                   simp only [Act.put, q1_, q2_, q3_, i64_w, i32_w]
                   rfl
                  refine pure_ (i := 21) (N := some 81) (v := ?_) (a' := ?_) b7_22 rfl rfl (any_of HT_.out (by kernel_rfl)) (fun _ _ _ h => h) (Or.inl ⟨by rfl, ?_⟩) ?_ ?_
                  rotate_left
                  ·
                   intro w'
                   go_simp
                   with_reducible rfl
                  rotate_left
                  ·
                   simp only [Act.put, q1_, q2_, q3_, i64_w, i32_w]
                   rfl
                  refine pure_ (i := 22) (N := some 82) (v := ?_) (a' := ?_) b7_23 rfl rfl (any_of HT_.out (by kernel_rfl)) (fun _ _ _ h => h) (Or.inl ⟨by rfl, ?_⟩) ?_ ?_
                  rotate_left
                  ·
                   intro w'
                   go_simp
                   with_reducible rfl
                  rotate_left
                  ·
                   simp only [Act.put, q1_, q2_, q3_, i64_w, i32_w]
                   rfl
                  refine pure_ (i := 23) (N := some 83) (v := ?_) (a' := ?_) b7_24 rfl rfl (any_of HT_.out (by kernel_rfl)) (fun _ _ _ h => h) (Or.inl ⟨by rfl, ?_⟩) ?_ ?_
                  rotate_left
                  ·
                   intro w'
                   go_simp
                   with_reducible rfl
                  rotate_left
                  ·
                   simp only [Act.put, q1_, q2_, q3_, i64_w, i32_w]
                   rfl
                  refine pure_ (i := 24) (N := some 84) (v := ?_) (a' := ?_) b7_25 rfl rfl (any_of HT_.out (by kernel_rfl)) (fun _ _ _ h => h) (Or.inl ⟨by rfl, ?_⟩) ?_ ?_
                  rotate_left
                  ·
                   intro w'
                   go_simp
                   with_reducible rfl
                  rotate_left
                  ·
                   simp only [Act.put, q1_, q2_, q3_, i64_w, i32_w]
                   rfl
                  refine pure_ (i := 25) (N := some 85) (v := ?_) (a' := ?_) b7_26 rfl rfl (any_of HT_.out (by kernel_rfl)) (fun _ _ _ h => h) (Or.inl ⟨by rfl, ?_⟩) ?_ ?_
                  rotate_left
                  ·
                   intro w'
                   go_simp
                   with_reducible rfl
                  rotate_left
                  ·
                   simp only [Act.put, q1_, q2_, q3_, i64_w, i32_w]
                   rfl
                  refine pure_ (i := 26) (N := some 86) (v := undef) (a' := ?_) b7_27 rfl rfl (any_of HT_.out (by kernel_rfl)) (fun _ _ _ h => h) (Or.inr ⟨by rfl, rfl⟩) ?_ ?_
                  rotate_left
                  ·
                   simp only [Act.put, q1_, q2_, q3_, i64_w, i32_w]
                   rfl
                  refine pure_ (i := 27) (N := some 87) (v := undef) (a' := ?_) b7_28 rfl rfl (any_of HT_.out (by kernel_rfl)) (fun _ _ _ h => h) (Or.inr ⟨by rfl, rfl⟩) ?_ ?_
                  rotate_left
                  ·
                   simp only [Act.put, q1_, q2_, q3_, i64_w, i32_w]
                   rfl
                  refine pure_ (i := 28) (N := some 88) (v := undef) (a' := ?_) b7_29 rfl rfl (any_of HT_.out (by kernel_rfl)) (fun _ _ _ h => h) (Or.inr ⟨by rfl, rfl⟩) ?_ ?_
                  rotate_left
                  ·
                   simp only [Act.put, q1_, q2_, q3_, i64_w, i32_w]
                   rfl
                  refine pure_ (i := 29) (N := some 89) (v := undef) (a' := ?_) b7_30 rfl rfl (any_of HT_.out (by kernel_rfl)) (fun _ _ _ h => h) (Or.inr ⟨by rfl, rfl⟩) ?_ ?_
                  rotate_left
                  ·
                   simp only [Act.put, q1_, q2_, q3_, i64_w, i32_w]
                   rfl
                  refine pure_ (i := 30) (N := some 90) (v := undef) (a' := ?_) b7_31 rfl rfl (any_of HT_.out (by kernel_rfl)) (fun _ _ _ h => h) (Or.inr ⟨by rfl, rfl⟩) ?_ ?_
                  rotate_left
                  ·
                   simp only [Act.put, q1_, q2_, q3_, i64_w, i32_w]
                   rfl
                  refine pure_ (i := 31) (N := some 91) (v := undef) (a' := ?_) b7_32 rfl rfl (any_of HT_.out (by kernel_rfl)) (fun _ _ _ h => h) (Or.inr ⟨by rfl, rfl⟩) ?_ ?_
                  rotate_left
                  ·
                   simp only [Act.put, q1_, q2_, q3_, i64_w, i32_w]
                   rfl
                  refine pure_ (i := 32) (N := some 92) (v := undef) (a' := ?_) b7_33 rfl rfl (any_of HT_.out (by kernel_rfl)) (fun _ _ _ h => h) (Or.inr ⟨by rfl, rfl⟩) ?_ ?_
                  rotate_left
                  ·
                   simp only [Act.put, q1_, q2_, q3_, i64_w, i32_w]
                   rfl
                  refine pure_ (i := 33) (N := some 93) (v := ?_) (a' := ?_) b7_34 rfl rfl (any_of HT_.out (by kernel_rfl)) (fun _ _ _ h => h) (Or.inl ⟨by rfl, ?_⟩) ?_ ?_
                  rotate_left
                  ·
                   intro w'
                   go_simp
                   with_reducible rfl
                  rotate_left
                  ·
                   simp only [Act.put, q1_, q2_, q3_, i64_w, i32_w]
                   rfl
                  refine pure_ (i := 34) (N := some 94) (v := ?_) (a' := ?_) b7_35 rfl rfl (any_of HT_.out (by kernel_rfl)) (fun _ _ _ h => h) (Or.inl ⟨by rfl, ?_⟩) ?_ ?_
                  rotate_left
                  ·
                   intro w'
                   go_simp
                   with_reducible rfl
                  rotate_left
                  ·
                   simp only [Act.put, q1_, q2_, q3_, i64_w, i32_w]
                   rfl
                  refine pure_ (i := 35) (N := some 95) (v := ?_) (a' := ?_) b7_36 rfl rfl (any_of HT_.out (by kernel_rfl)) (fun _ _ _ h => h) (Or.inl ⟨by rfl, ?_⟩) ?_ ?_
                  rotate_left
                  ·
                   intro w'
                   go_simp
                   with_reducible rfl
                  rotate_left
                  ·
                   simp only [Act.put, q1_, q2_, q3_, i64_w, i32_w]
                   rfl
                  refine pure_ (i := 36) (N := some 96) (v := ?_) (a' := ?_) b7_37 rfl rfl (any_of HT_.out (by kernel_rfl)) (fun _ _ _ h => h) (Or.inl ⟨by rfl, ?_⟩) ?_ ?_
                  rotate_left
                  ·
                   intro w'
                   go_simp
                   with_reducible rfl
                  rotate_left
                  ·
                   simp only [Act.put, q1_, q2_, q3_, i64_w, i32_w]
                   rfl
                  refine pure_ (i := 37) (N := some 97) (v := ?_) (a' := ?_) b7_38 rfl rfl (any_of HT_.out (by kernel_rfl)) (fun _ _ _ h => h) (Or.inl ⟨by rfl, ?_⟩) ?_ ?_
                  rotate_left
                  ·
                   intro w'
                   go_simp
                   with_reducible rfl
                  rotate_left
                  ·
                   simp only [Act.put, q1_, q2_, q3_, i64_w, i32_w]
                   rfl
                  refine pure_ (i := 38) (N := some 98) (v := ?_) (a' := ?_) b7_39 rfl rfl (any_of HT_.out (by kernel_rfl)) (fun _ _ _ h => h) (Or.inl ⟨by rfl, ?_⟩) ?_ ?_
                  rotate_left
                  ·
                   intro w'
                   go_simp
                   with_reducible rfl
                  rotate_left
                  ·
                   simp only [Act.put, q1_, q2_, q3_, i64_w, i32_w]
                   rfl
                  refine pure_ (i := 39) (N := some 99) (v := undef) (a' := ?_) b7_40 rfl rfl (any_of HT_.out (by kernel_rfl)) (fun _ _ _ h => h) (Or.inr ⟨by rfl, rfl⟩) ?_ ?_
                  rotate_left
                  ·
                   simp only [Act.put, q1_, q2_, q3_, i64_w, i32_w]
                   rfl
                  refine pure_ (i := 40) (N := some 100) (v := undef) (a' := ?_) b7_41 rfl rfl (any_of HT_.out (by kernel_rfl)) (fun _ _ _ h => h) (Or.inr ⟨by rfl, rfl⟩) ?_ ?_
                  rotate_left
                  ·
                   simp only [Act.put, q1_, q2_, q3_, i64_w, i32_w]
                   rfl
                  refine pure_ (i := 41) (N := some 101) (v := undef) (a' := ?_) b7_42 rfl rfl (any_of HT_.out (by kernel_rfl)) (fun _ _ _ h => h) (Or.inr ⟨by rfl, rfl⟩) ?_ ?_
                  rotate_left
                  ·
                   simp only [Act.put, q1_, q2_, q3_, i64_w, i32_w]
                   rfl
                  refine pure_ (i := 42) (N := some 102) (v := undef) (a' := ?_) b7_43 rfl rfl (any_of HT_.out (by kernel_rfl)) (fun _ _ _ h => h) (Or.inr ⟨by rfl, rfl⟩) ?_ ?_
                  rotate_left
                  ·
                   simp only [Act.put, q1_, q2_, q3_, i64_w, i32_w]
                   rfl
                  refine pure_ (i := 43) (N := some 103) (v := undef) (a' := ?_) b7_44 rfl rfl (any_of HT_.out (by kernel_rfl)) (fun _ _ _ h => h) (Or.inr ⟨by rfl, rfl⟩) ?_ ?_
                  rotate_left
                  ·
                   simp only [Act.put, q1_, q2_, q3_, i64_w, i32_w]
                   rfl
                  refine pure_ (i := 44) (N := some 104) (v := undef) (a' := ?_) b7_54 rfl rfl (any_of HT_.out (by kernel_rfl)) (fun _ _ _ h => h) (Or.inr ⟨by rfl, rfl⟩) ?_ ?_
                  rotate_left
                  ·
                   simp only [Act.put, q1_, q2_, q3_, i64_w, i32_w]
                   rfl
                  refine pure_ (i := 45) (N := some 105) (v := undef) (a' := ?_) b7_55 rfl rfl (any_of HT_.out (by kernel_rfl)) (fun _ _ _ h => h) (Or.inr ⟨by rfl, rfl⟩) ?_ ?_
                  rotate_left
                  ·
                   simp only [Act.put, q1_, q2_, q3_, i64_w, i32_w]
                   rfl
                  refine pure_ (i := 46) (N := some 106) (v := undef) (a' := ?_) b7_56 rfl rfl (any_of HT_.out (by kernel_rfl)) (fun _ _ _ h => h) (Or.inr ⟨by rfl, rfl⟩) ?_ ?_
                  rotate_left
                  ·
                   simp only [Act.put, q1_, q2_, q3_, i64_w, i32_w]
                   rfl
                  refine pure_ (i := 47) (N := some 107) (v := undef) (a' := ?_) b7_57 rfl rfl (any_of HT_.out (by kernel_rfl)) (fun _ _ _ h => h) (Or.inr ⟨by rfl, rfl⟩) ?_ ?_
                  rotate_left
                  ·
                   simp only [Act.put, q1_, q2_, q3_, i64_w, i32_w]
                   rfl
                  refine pure_ (i := 48) (N := some 108) (v := undef) (a' := ?_) b7_49 rfl rfl (any_of HT_.out (by kernel_rfl)) (fun _ _ _ h => h) (Or.inr ⟨by rfl, rfl⟩) ?_ ?_
                  rotate_left
                  ·
                   simp only [Act.put, q1_, q2_, q3_, i64_w, i32_w]
                   rfl
                  refine pure_ (i := 49) (N := some 109) (v := undef) (a' := ?_) b7_50 rfl rfl (any_of HT_.out (by kernel_rfl)) (fun _ _ _ h => h) (Or.inr ⟨by rfl, rfl⟩) ?_ ?_
                  rotate_left
                  ·
                   simp only [Act.put, q1_, q2_, q3_, i64_w, i32_w]
                   rfl
                  refine pure_ (i := 50) (N := some 110) (v := undef) (a' := ?_) b7_51 rfl rfl (any_of HT_.out (by kernel_rfl)) (fun _ _ _ h => h) (Or.inr ⟨by rfl, rfl⟩) ?_ ?_
                  rotate_left
                  ·
                   simp only [Act.put, q1_, q2_, q3_, i64_w, i32_w]
                   rfl
                  refine pure_ (i := 51) (N := some 111) (v := ?_) (a' := ?_) b7_52 rfl rfl (any_of HT_.out (by kernel_rfl)) (fun _ _ _ h => h) (Or.inl ⟨by rfl, ?_⟩) ?_ ?_
                  rotate_left
                  ·
                   intro w'
                   go_simp
                   with_reducible rfl
                  rotate_left
                  ·
                   simp only [Act.put, q1_, q2_, q3_, i64_w, i32_w]
                   rfl
                  refine pure_ (i := 52) (N := some 112) (v := ?_) (a' := ?_) b7_53 rfl rfl (any_of HT_.out (by kernel_rfl)) (fun _ _ _ h => h) (Or.inl ⟨by rfl, ?_⟩) ?_ ?_
                  rotate_left
                  ·
                   intro w'
                   go_simp
                   with_reducible rfl
                  rotate_left
                  ·
                   simp only [Act.put, q1_, q2_, q3_, i64_w, i32_w]
                   rfl
                  refine done_ (done_of HT_.out (by kernel_rfl)) ?_
                  try go_wp2
                  go_roundg k2
                  case measure => have := HJ13.out; have := HK2.out; omega
                  case rel => exact ⟨(wrap64 (x16_2 + 1)), (by first | rfl | (simp; done) | (simp [*]; done)), (by first | exact H' | (simp only [hji29]; exact H')), ⟨by have := HJ13.out; have := HK2.out; omega⟩, ⟨by (with_reducible repeat (first | apply Kd.R_alloc | apply Kd.R_drewN | apply Kd.R_drew)); exact HO_11.out⟩, ⟨by (with_reducible repeat (first | apply Kd.R_alloc | apply Kd.R_drewN | apply Kd.R_drew)); exact HO_14.out⟩, ⟨by (with_reducible repeat (first | apply Kd.R_alloc | apply Kd.R_drewN | apply Kd.R_drew)); exact HO_15.out⟩, ⟨by repeat (first | (with_reducible first | exact HB.out | apply below_alloc | apply pw_below_drewN | apply below_drew1) | exact HB.out | exact Below.refl _ _)⟩⟩
                ·
                 rw [if_neg c34] at H
                 have c34b0 : (x13_13.toList == ([] : List UInt8)) = false := beq_eq_false_iff_ne.mpr c34
                 have c34b1 : (x13_13.toList != ([] : List UInt8)) = true := bne_iff_ne.mpr c34
                 by_cases c42 : ((Op.bytesLess (((rd_T47 t268 x16_2).f0).toList) x13_13.toList) = true)
                 ·
                  rw [if_pos c42] at H
                  have c42b0 : (Op.bytesLess (((rd_T47 t268 x16_2).f0).toList) x13_13.toList) = true := c42
                  (try (have c42b1 : ((((rd_T47 t268 x16_2).f0).toList) == x13_13.toList) = false := bl_ne c42))
                  (try (have c42b2 : (x13_13.toList == (((rd_T47 t268 x16_2).f0).toList)) = false := bl_ne2 c42))
                  clear c42
                  by_cases c43 : x16_2 > 0
                  ·
                   rw [if_pos c43] at H
                   have c43b0 : decide (0 < x16_2) = true := decide_eq_true c43
                   clear c43
                   obtain ⟨ji44, hji44⟩ : ∃ j_ : Int, (wrap64 (x16_2 - 1)) = j_ := ⟨_, rfl⟩
                   replace H : (if 0 ≤ (ji44) then (if (ji44) < (t268.length : Int) then (if ((Op.bytesLess (((rd_T47 t268 (ji44)).f0).toList) (((rd_T47 t268 x16_2).f0).toList)) = true) then (iceboxlaw15_MergeBack.l0 k2 a1 a4 t263 ((⟨#[107, 101, 121]⟩ : ByteArray) ++ t266) x13_13 t268 t271 (wrap64 (x16_2 + 1))) else (some false)) else (none)) else (none)) = some r := by first | (rw [hji44] at H; exact H) | (simp only [hji44] at H ⊢; exact H)
                   have hji44w : (IntKind.i64.wrap (x16_2 - 1)) = ji44 := (i64_w _).trans hji44
                   by_cases c45 : 0 ≤ (ji44)
                   ·
                    rw [if_pos c45] at H
                    have c45b0 : decide (0 ≤ (ji44)) = true := decide_eq_true c45
                    clear c45
                    by_cases c46 : (ji44) < (t268.length : Int)
                    ·
                     rw [if_pos c46] at H
                     have c46b0 : decide ((ji44) < (t268.length : Int)) = true := decide_eq_true c46
                     clear c46
                     by_cases c47 : ((Op.bytesLess (((rd_T47 t268 (ji44)).f0).toList) (((rd_T47 t268 x16_2).f0).toList)) = true)
                     ·
                      rw [if_pos c47] at H
                      have c47b0 : (Op.bytesLess (((rd_T47 t268 (ji44)).f0).toList) (((rd_T47 t268 x16_2).f0).toList)) = true := c47
                      (try (have c47b1 : ((((rd_T47 t268 (ji44)).f0).toList) == (((rd_T47 t268 x16_2).f0).toList)) = false := bl_ne c47))
                      (try (have c47b2 : ((((rd_T47 t268 x16_2).f0).toList) == (((rd_T47 t268 (ji44)).f0).toList)) = false := bl_ne2 c47))
                      clear c47
                      have H' := Aside0.mk H
                      clear H
                      try go_wp2
                      have n0_ := Aside0.mk (Kd.R_drew HO_11.out)
                      have n1_ := Aside0.mk (Kd.R_drew HO_14.out)
                      have n2_ := Aside0.mk (Kd.R_drew HO_15.out)
                      have n3_ := Aside0.mk (below_drew1 HB.out)
                      clear HO_11
                      clear HO_14
                      clear HO_15
                      clear HB
                      have HO_11 := n0_
                      have HO_14 := n1_
                      have HO_15 := n2_
                      have HB := n3_
                      clear n0_ n1_ n2_ n3_
                      have p274 : 0 ≤ (x16_2 : Int) := of_decide_eq_true (by first | (with_reducible assumption) | assumption)
                      have q274 : x16_2 < (t268.length : Int) := of_decide_eq_true (by first | (with_reducible assumption) | assumption)
                      obtain ⟨ad274, e274, hx274_0, hx274_1⟩ := at_T47 (Kd.R_reads' HO_14.out).2.2 x16_2 p274 q274
                      cases e274
                      replace p274 := eq_true p274
                      replace q274 := eq_true q274
                      have p275 : 0 ≤ ((ji29) : Int) := of_decide_eq_true (by first | (with_reducible assumption) | assumption)
                      have q275 : (ji29) < (t271.length : Int) := of_decide_eq_true (by first | (with_reducible assumption) | assumption)
                      obtain ⟨ad275, e275, hx275_0, hx275_1⟩ := at_T47 (Kd.R_reads' HO_15.out).2.2 (ji29) p275 q275
                      cases e275
                      replace p275 := eq_true p275
                      replace q275 := eq_true q275
                      have p276 : 0 ≤ (x16_2 : Int) := of_decide_eq_true (by first | (with_reducible assumption) | assumption)
                      have q276 : x16_2 < (t268.length : Int) := of_decide_eq_true (by first | (with_reducible assumption) | assumption)
                      obtain ⟨ad276, e276, hx276_0, hx276_1⟩ := at_T47 (Kd.R_reads' HO_14.out).2.2 x16_2 p276 q276
                      obtain rfl : ad274 = ad276 := (by injection e276)
                      replace p276 := eq_true p276
                      replace q276 := eq_true q276
                      have p279 : 0 ≤ (x16_2 : Int) := of_decide_eq_true (by first | (with_reducible assumption) | assumption)
                      have q279 : x16_2 < (t268.length : Int) := of_decide_eq_true (by first | (with_reducible assumption) | assumption)
                      obtain ⟨ad279, e279, hx279_0, hx279_1⟩ := at_T47 (Kd.R_reads' HO_14.out).2.2 x16_2 p279 q279
                      obtain rfl : ad274 = ad279 := (by injection e279)
                      replace p279 := eq_true p279
                      replace q279 := eq_true q279
                      have p280 : 0 ≤ ((ji44) : Int) := of_decide_eq_true (by first | (with_reducible assumption) | assumption)
                      have q280 : (ji44) < (t268.length : Int) := of_decide_eq_true (by first | (with_reducible assumption) | assumption)
                      obtain ⟨ad280, e280, hx280_0, hx280_1⟩ := at_T47 (Kd.R_reads' HO_14.out).2.2 (ji44) p280 q280
                      obtain rfl : ad274 = ad280 := (by injection e280)
                      replace p280 := eq_true p280
                      replace q280 := eq_true q280
                      have p281 : 0 ≤ (x16_2 : Int) := of_decide_eq_true (by first | (with_reducible assumption) | assumption)
                      have q281 : x16_2 < (t268.length : Int) := of_decide_eq_true (by first | (with_reducible assumption) | assumption)
                      obtain ⟨ad281, e281, hx281_0, hx281_1⟩ := at_T47 (Kd.R_reads' HO_14.out).2.2 x16_2 p281 q281
                      obtain rfl : ad274 = ad281 := (by injection e281)
                      replace p281 := eq_true p281
                      replace q281 := eq_true q281
                      refine start_ (n := 53) (S := fun w' => w'.cell? (ad274.add ((x16_2).toNat * 2)) = some (.string ((rd_T47 t268 x16_2).f0)) ∧ w'.cell? ⟨(ad274.add ((x16_2).toNat * 2)).block, (ad274.add ((x16_2).toNat * 2)).off + 1, none⟩ = some (.string ((rd_T47 t268 x16_2).f1)) ∧ w'.cell? (ad275.add (((ji29)).toNat * 2)) = some (.string ((rd_T47 t271 (ji29)).f0)) ∧ w'.cell? ⟨(ad275.add (((ji29)).toNat * 2)).block, (ad275.add (((ji29)).toNat * 2)).off + 1, none⟩ = some (.string ((rd_T47 t271 (ji29)).f1)) ∧ w'.cell? (ad274.add ((x16_2).toNat * 2)) = some (.string ((rd_T47 t268 x16_2).f0)) ∧ w'.cell? ⟨(ad274.add ((x16_2).toNat * 2)).block, (ad274.add ((x16_2).toNat * 2)).off + 1, none⟩ = some (.string ((rd_T47 t268 x16_2).f1)) ∧ w'.cell? (ad274.add ((x16_2).toNat * 2)) = some (.string ((rd_T47 t268 x16_2).f0)) ∧ w'.cell? ⟨(ad274.add ((x16_2).toNat * 2)).block, (ad274.add ((x16_2).toNat * 2)).off + 1, none⟩ = some (.string ((rd_T47 t268 x16_2).f1)) ∧ w'.cell? (ad274.add (((ji44)).toNat * 2)) = some (.string ((rd_T47 t268 (ji44)).f0)) ∧ w'.cell? ⟨(ad274.add (((ji44)).toNat * 2)).block, (ad274.add (((ji44)).toNat * 2)).off + 1, none⟩ = some (.string ((rd_T47 t268 (ji44)).f1)) ∧ w'.cell? (ad274.add ((x16_2).toNat * 2)) = some (.string ((rd_T47 t268 x16_2).f0)) ∧ w'.cell? ⟨(ad274.add ((x16_2).toNat * 2)).block, (ad274.add ((x16_2).toNat * 2)).off + 1, none⟩ = some (.string ((rd_T47 t268 x16_2).f1))) (ds := []) b7_0 (by kernel_rfl) rfl rfl ⟨hx274_0, hx274_1, hx275_0, hx275_1, hx276_0, hx276_1, hx279_0, hx279_1, hx280_0, hx280_1, hx281_0, hx281_1⟩ (fun hHeld => ?_); refine with_tabW iceboxlaw15_MergeBack.tab13 iceboxlaw15_MergeBack.bits13 (fun HT_ HW_ => ?_)
                      generalize wr.drew = w48 at HO_11 HO_14 HO_15 HB hx274_0 hx274_1 hx275_0 hx275_1 hx276_0 hx276_1 hx279_0 hx279_1 hx280_0 hx280_1 hx281_0 hx281_1 hHeld ⊢
                      refine pure_ (i := 0) (N := some 60) (v := ?_) (a' := ?_) b7_1 rfl rfl (any_of HT_.out (by kernel_rfl)) (fun _ _ _ h => h) (Or.inl ⟨by rfl, ?_⟩) ?_ ?_
                      rotate_left
                      ·
                       intro w'
                       go_simp
                       with_reducible rfl
                      rotate_left
                      ·
                       simp only [Act.put, q1_, q2_, q3_, i64_w, i32_w]
                       rfl
                      refine pure_ (i := 1) (N := some 61) (v := ?_) (a' := ?_) b7_2 rfl rfl (any_of HT_.out (by kernel_rfl)) (fun _ _ _ h => h) (Or.inl ⟨by rfl, ?_⟩) ?_ ?_
                      rotate_left
                      ·
                       intro w'
                       go_simp
                       with_reducible rfl
                      rotate_left
                      ·
                       simp only [Act.put, q1_, q2_, q3_, i64_w, i32_w]
                       rfl
                      refine pure_ (i := 2) (N := some 62) (v := ?_) (a' := ?_) b7_3 rfl rfl (any_of HT_.out (by kernel_rfl)) (fun _ _ _ h => h) (Or.inl ⟨by rfl, ?_⟩) ?_ ?_
                      rotate_left
                      ·
                       intro w'
                       go_simp
                       with_reducible rfl
                      rotate_left
                      ·
                       simp only [Act.put, q1_, q2_, q3_, i64_w, i32_w]
                       rfl
                      refine pure_ (i := 4) (N := some 64) (v := ?_) (a' := ?_) b7_4 rfl rfl (any_of HT_.out (by kernel_rfl)) (fun _ _ _ h => h) (Or.inl ⟨by rfl, ?_⟩) ?_ ?_
                      rotate_left
                      ·
                       intro w'
                       go_simp
                       with_reducible rfl
                      rotate_left
                      ·
                       simp only [Act.put, q1_, q2_, q3_, i64_w, i32_w]
                       rfl
                      refine pure_ (i := 5) (N := some 65) (v := ?_) (a' := ?_) b7_5 rfl rfl (any_of HT_.out (by kernel_rfl)) (fun _ _ _ h => h) (Or.inl ⟨by rfl, ?_⟩) ?_ ?_
                      rotate_left
                      ·
                       intro w'
                       go_simp
                       with_reducible rfl
                      rotate_left
                      ·
                       simp only [Act.put, q1_, q2_, q3_, i64_w, i32_w]
                       rfl
                      refine pure_ (i := 6) (N := some 66) (v := ?_) (a' := ?_) b7_6 rfl rfl (any_of HT_.out (by kernel_rfl)) (fun _ _ _ h => h) (Or.inl ⟨by rfl, ?_⟩) ?_ ?_
                      rotate_left
                      ·
                       intro w'
                       go_simp
                       with_reducible rfl
                      rotate_left
                      ·
                       simp only [Act.put, q1_, q2_, q3_, i64_w, i32_w]
                       rfl
                      refine pure_ (i := 7) (N := some 67) (v := ?_) (a' := ?_) b7_7 rfl rfl (any_of HT_.out (by kernel_rfl)) (fun _ _ _ h => h) (Or.inl ⟨by rfl, ?_⟩) ?_ ?_
                      rotate_left
                      ·
                       intro w'
                       go_simp
                       with_reducible rfl
                      rotate_left
                      ·
                       simp only [Act.put, q1_, q2_, q3_, i64_w, i32_w]
                       rfl
                      refine pure_ (i := 8) (N := some 68) (v := ?_) (a' := ?_) b7_8 rfl rfl (any_of HT_.out (by kernel_rfl)) (fun _ _ _ h => h) (Or.inl ⟨by rfl, ?_⟩) ?_ ?_
                      rotate_left
                      ·
                       intro w'
                       go_simp
                       with_reducible rfl
                      rotate_left
                      ·
                       simp only [Act.put, q1_, q2_, q3_, i64_w, i32_w]
                       rfl
                      refine pure_ (i := 9) (N := some 69) (v := ?_) (a' := ?_) b7_9 rfl rfl (any_of HT_.out (by kernel_rfl)) (fun _ _ _ h => h) (Or.inl ⟨by rfl, ?_⟩) ?_ ?_
                      rotate_left
                      ·
                       intro w'
                       go_simp
                       with_reducible rfl
                      rotate_left
                      ·
                       simp only [Act.put, q1_, q2_, q3_, i64_w, i32_w]
                       rfl
                      refine pure_ (i := 10) (N := some 70) (v := ?_) (a' := ?_) b7_10 rfl rfl (any_of HT_.out (by kernel_rfl)) (fun _ _ _ h => h) (Or.inl ⟨by rfl, ?_⟩) ?_ ?_
                      rotate_left
                      ·
                       intro w'
                       go_simp
                       with_reducible rfl
                      rotate_left
                      ·
                       simp only [Act.put, q1_, q2_, q3_, i64_w, i32_w]
                       rfl
                      refine take_ (i := 3) (N := some 63) (v := ?_) (a' := ?_) b7_11 rfl rfl (take_ofW HT_.out HW_.out (by kernel_rfl)) (fun _ _ _ h => h) (Or.inl ⟨by rfl, ?_⟩) hHeld ?_ ?_
                      rotate_left
                      ·
                       rintro w' ⟨s0, s1, s2, s3, s4, s5, s6, s7, s8, s9, s10, s11⟩
                       go_simp
                       with_reducible rfl
                      rotate_left
                      ·
                       simp only [Act.put, q1_, q2_, q3_, i64_w, i32_w]
                       rfl
                      refine take_ (i := 11) (N := some 71) (v := ?_) (a' := ?_) b7_12 rfl rfl (take_ofW HT_.out HW_.out (by kernel_rfl)) (fun _ _ _ h => h) (Or.inl ⟨by rfl, ?_⟩) hHeld ?_ ?_
                      rotate_left
                      ·
                       rintro w' ⟨s0, s1, s2, s3, s4, s5, s6, s7, s8, s9, s10, s11⟩
                       go_simp
                       with_reducible rfl
                      rotate_left
                      ·
                       simp only [Act.put, q1_, q2_, q3_, i64_w, i32_w]
                       rfl
                      refine pure_ (i := 12) (N := some 72) (v := ?_) (a' := ?_) b7_13 rfl rfl (any_of HT_.out (by kernel_rfl)) (fun _ _ _ h => h) (Or.inl ⟨by rfl, ?_⟩) ?_ ?_
                      rotate_left
                      ·
                       intro w'
                       go_simp
                       with_reducible rfl
                      rotate_left
                      ·
                       simp only [Act.put, q1_, q2_, q3_, i64_w, i32_w]
                       rfl
                      refine pure_ (i := 13) (N := some 73) (v := ?_) (a' := ?_) b7_14 rfl rfl (any_of HT_.out (by kernel_rfl)) (fun _ _ _ h => h) (Or.inl ⟨by rfl, ?_⟩) ?_ ?_
                      rotate_left
                      ·
                       intro w'
                       go_simp
                       with_reducible rfl
                      rotate_left
                      ·
                       simp only [Act.put, q1_, q2_, q3_, i64_w, i32_w]
                       rfl
                      refine pure_ (i := 14) (N := some 74) (v := ?_) (a' := ?_) b7_15 rfl rfl (any_of HT_.out (by kernel_rfl)) (fun _ _ _ h => h) (Or.inl ⟨by rfl, ?_⟩) ?_ ?_
                      rotate_left
                      ·
                       intro w'
                       go_simp
                       with_reducible rfl
                      rotate_left
                      ·
                       simp only [Act.put, q1_, q2_, q3_, i64_w, i32_w]
                       rfl
                      refine pure_ (i := 15) (N := some 75) (v := ?_) (a' := ?_) b7_16 rfl rfl (any_of HT_.out (by kernel_rfl)) (fun _ _ _ h => h) (Or.inl ⟨by rfl, ?_⟩) ?_ ?_
                      rotate_left
                      ·
                       intro w'
                       go_simp
                       with_reducible rfl
                      rotate_left
                      ·
                       simp only [Act.put, q1_, q2_, q3_, i64_w, i32_w]
                       rfl
                      refine pure_ (i := 16) (N := some 76) (v := ?_) (a' := ?_) b7_17 rfl rfl (any_of HT_.out (by kernel_rfl)) (fun _ _ _ h => h) (Or.inl ⟨by rfl, ?_⟩) ?_ ?_
                      rotate_left
                      ·
                       intro w'
                       go_simp
                       with_reducible rfl
                      rotate_left
                      ·
                       simp only [Act.put, q1_, q2_, q3_, i64_w, i32_w]
                       rfl
                      refine pure_ (i := 17) (N := some 77) (v := ?_) (a' := ?_) b7_18 rfl rfl (any_of HT_.out (by kernel_rfl)) (fun _ _ _ h => h) (Or.inl ⟨by rfl, ?_⟩) ?_ ?_
                      rotate_left
                      ·
                       intro w'
                       go_simp
                       with_reducible rfl
                      rotate_left
                      ·
                       simp only [Act.put, q1_, q2_, q3_, i64_w, i32_w]
                       rfl
                      refine pure_ (i := 19) (N := some 79) (v := ?_) (a' := ?_) b7_19 rfl rfl (any_of HT_.out (by kernel_rfl)) (fun _ _ _ h => h) (Or.inl ⟨by rfl, ?_⟩) ?_ ?_
                      rotate_left
                      ·
                       intro w'
                       go_simp
                       with_reducible rfl
                      rotate_left
                      ·
                       simp only [Act.put, q1_, q2_, q3_, i64_w, i32_w]
                       rfl
                      refine take_ (i := 18) (N := some 78) (v := ?_) (a' := ?_) b7_20 rfl rfl (take_ofW HT_.out HW_.out (by kernel_rfl)) (fun _ _ _ h => h) (Or.inl ⟨by rfl, ?_⟩) hHeld ?_ ?_
                      rotate_left
                      ·
                       rintro w' ⟨s0, s1, s2, s3, s4, s5, s6, s7, s8, s9, s10, s11⟩
                       go_simp
                       with_reducible rfl
                      rotate_left
                      ·
                       simp only [Act.put, q1_, q2_, q3_, i64_w, i32_w]
                       rfl
                      refine pure_ (i := 20) (N := some 80) (v := ?_) (a' := ?_) b7_21 rfl rfl (any_of HT_.out (by kernel_rfl)) (fun _ _ _ h => h) (Or.inl ⟨by rfl, ?_⟩) ?_ ?_
                      rotate_left
                      ·
                       intro w'
                       go_simp
                       with_reducible rfl
                      rotate_left
                      ·
                       simp only [Act.put, q1_, q2_, q3_, i64_w, i32_w]
                       rfl
                      refine pure_ (i := 21) (N := some 81) (v := ?_) (a' := ?_) b7_22 rfl rfl (any_of HT_.out (by kernel_rfl)) (fun _ _ _ h => h) (Or.inl ⟨by rfl, ?_⟩) ?_ ?_
                      rotate_left
                      ·
                       intro w'
                       go_simp
                       with_reducible rfl
                      rotate_left
                      ·
                       simp only [Act.put, q1_, q2_, q3_, i64_w, i32_w]
                       rfl
                      refine pure_ (i := 22) (N := some 82) (v := ?_) (a' := ?_) b7_23 rfl rfl (any_of HT_.out (by kernel_rfl)) (fun _ _ _ h => h) (Or.inl ⟨by rfl, ?_⟩) ?_ ?_
                      rotate_left
                      ·
                       intro w'
                       go_simp
                       with_reducible rfl
                      rotate_left
                      ·
                       simp only [Act.put, q1_, q2_, q3_, i64_w, i32_w]
                       rfl
                      refine pure_ (i := 23) (N := some 83) (v := ?_) (a' := ?_) b7_24 rfl rfl (any_of HT_.out (by kernel_rfl)) (fun _ _ _ h => h) (Or.inl ⟨by rfl, ?_⟩) ?_ ?_
                      rotate_left
                      ·
                       intro w'
                       go_simp
                       with_reducible rfl
                      rotate_left
                      ·
                       simp only [Act.put, q1_, q2_, q3_, i64_w, i32_w]
                       rfl
                      refine pure_ (i := 24) (N := some 84) (v := ?_) (a' := ?_) b7_25 rfl rfl (any_of HT_.out (by kernel_rfl)) (fun _ _ _ h => h) (Or.inl ⟨by rfl, ?_⟩) ?_ ?_
                      rotate_left
                      ·
                       intro w'
                       go_simp
                       with_reducible rfl
                      rotate_left
                      ·
                       simp only [Act.put, q1_, q2_, q3_, i64_w, i32_w]
                       rfl
                      refine pure_ (i := 25) (N := some 85) (v := ?_) (a' := ?_) b7_26 rfl rfl (any_of HT_.out (by kernel_rfl)) (fun _ _ _ h => h) (Or.inl ⟨by rfl, ?_⟩) ?_ ?_
                      rotate_left
                      ·
                       intro w'
                       go_simp
                       with_reducible rfl
                      rotate_left
                      ·
                       simp only [Act.put, q1_, q2_, q3_, i64_w, i32_w]
                       rfl
                      refine pure_ (i := 26) (N := some 86) (v := ?_) (a' := ?_) b7_27 rfl rfl (any_of HT_.out (by kernel_rfl)) (fun _ _ _ h => h) (Or.inl ⟨by rfl, ?_⟩) ?_ ?_
                      rotate_left
                      ·
                       intro w'
                       go_simp
                       with_reducible rfl
                      rotate_left
                      ·
                       simp only [Act.put, q1_, q2_, q3_, i64_w, i32_w]
                       rfl
                      refine pure_ (i := 27) (N := some 87) (v := ?_) (a' := ?_) b7_28 rfl rfl (any_of HT_.out (by kernel_rfl)) (fun _ _ _ h => h) (Or.inl ⟨by rfl, ?_⟩) ?_ ?_
                      rotate_left
                      ·
                       intro w'
                       go_simp
                       with_reducible rfl
                      rotate_left
                      ·
                       simp only [Act.put, q1_, q2_, q3_, i64_w, i32_w]
                       rfl
                      refine pure_ (i := 28) (N := some 88) (v := ?_) (a' := ?_) b7_29 rfl rfl (any_of HT_.out (by kernel_rfl)) (fun _ _ _ h => h) (Or.inl ⟨by rfl, ?_⟩) ?_ ?_
                      rotate_left
                      ·
                       intro w'
                       go_simp
                       with_reducible rfl
                      rotate_left
                      ·
                       simp only [Act.put, q1_, q2_, q3_, i64_w, i32_w]
                       rfl
                      refine pure_ (i := 29) (N := some 89) (v := ?_) (a' := ?_) b7_30 rfl rfl (any_of HT_.out (by kernel_rfl)) (fun _ _ _ h => h) (Or.inl ⟨by rfl, ?_⟩) ?_ ?_
                      rotate_left
                      ·
                       intro w'
                       go_simp
                       with_reducible rfl
                      rotate_left
                      ·
                       simp only [Act.put, q1_, q2_, q3_, i64_w, i32_w]
                       rfl
                      refine pure_ (i := 31) (N := some 91) (v := ?_) (a' := ?_) b7_58 rfl rfl (any_of HT_.out (by kernel_rfl)) (fun _ _ _ h => h) (Or.inl ⟨by rfl, ?_⟩) ?_ ?_
                      rotate_left
                      ·
                       intro w'
                       go_simp
                       with_reducible rfl
                      rotate_left
                      ·
                       simp only [Act.put, q1_, q2_, q3_, i64_w, i32_w]
                       rfl
                      refine take_ (i := 30) (N := some 90) (v := ?_) (a' := ?_) b7_32 rfl rfl (take_ofW HT_.out HW_.out (by kernel_rfl)) (fun _ _ _ h => h) (Or.inl ⟨by rfl, ?_⟩) hHeld ?_ ?_
                      rotate_left
                      ·
                       rintro w' ⟨s0, s1, s2, s3, s4, s5, s6, s7, s8, s9, s10, s11⟩
                       go_simp
                       with_reducible rfl
                      rotate_left
                      ·
                       simp only [Act.put, q1_, q2_, q3_, i64_w, i32_w]
                       rfl
                      refine pure_ (i := 32) (N := some 92) (v := ?_) (a' := ?_) b7_33 rfl rfl (any_of HT_.out (by kernel_rfl)) (fun _ _ _ h => h) (Or.inl ⟨by rfl, ?_⟩) ?_ ?_
                      rotate_left
                      ·
                       intro w'
                       go_simp
                       with_reducible rfl
                      rotate_left
                      ·
                       simp only [Act.put, q1_, q2_, q3_, i64_w, i32_w]
                       rfl
                      refine pure_ (i := 33) (N := some 93) (v := ?_) (a' := ?_) b7_34 rfl rfl (any_of HT_.out (by kernel_rfl)) (fun _ _ _ h => h) (Or.inl ⟨by rfl, ?_⟩) ?_ ?_
                      rotate_left
                      ·
                       intro w'
                       go_simp
                       with_reducible rfl
                      rotate_left
                      ·
                       simp only [Act.put, q1_, q2_, q3_, i64_w, i32_w]
                       rfl
                      refine pure_ (i := 34) (N := some 94) (v := ?_) (a' := ?_) b7_35 rfl rfl (any_of HT_.out (by kernel_rfl)) (fun _ _ _ h => h) (Or.inl ⟨by rfl, ?_⟩) ?_ ?_
                      rotate_left
                      ·
                       intro w'
                       go_simp
                       with_reducible rfl
                      rotate_left
                      ·
                       simp only [Act.put, q1_, q2_, q3_, i64_w, i32_w]
                       rfl
                      refine pure_ (i := 35) (N := some 95) (v := ?_) (a' := ?_) b7_36 rfl rfl (any_of HT_.out (by kernel_rfl)) (fun _ _ _ h => h) (Or.inl ⟨by rfl, ?_⟩) ?_ ?_
                      rotate_left
                      ·
                       intro w'
                       go_simp
                       with_reducible rfl
                      rotate_left
                      ·
                       simp only [Act.put, q1_, q2_, q3_, i64_w, i32_w]
                       rfl
                      refine pure_ (i := 36) (N := some 96) (v := ?_) (a' := ?_) b7_37 rfl rfl (any_of HT_.out (by kernel_rfl)) (fun _ _ _ h => h) (Or.inl ⟨by rfl, ?_⟩) ?_ ?_
                      rotate_left
                      ·
                       intro w'
                       go_simp
                       with_reducible rfl
                      rotate_left
                      ·
                       simp only [Act.put, q1_, q2_, q3_, i64_w, i32_w]
                       rfl
                      refine pure_ (i := 37) (N := some 97) (v := ?_) (a' := ?_) b7_38 rfl rfl (any_of HT_.out (by kernel_rfl)) (fun _ _ _ h => h) (Or.inl ⟨by rfl, ?_⟩) ?_ ?_
                      rotate_left
                      ·
                       intro w'
                       go_simp
                       with_reducible rfl
                      rotate_left
                      ·
                       simp only [Act.put, q1_, q2_, q3_, i64_w, i32_w]
                       rfl
                      refine pure_ (i := 38) (N := some 98) (v := ?_) (a' := ?_) b7_39 rfl rfl (any_of HT_.out (by kernel_rfl)) (fun _ _ _ h => h) (Or.inl ⟨by rfl, ?_⟩) ?_ ?_
                      rotate_left
                      ·
                       intro w'
                       go_simp
                       with_reducible rfl
                      rotate_left
                      ·
                       simp only [Act.put, q1_, q2_, q3_, i64_w, i32_w]
                       rfl
                      refine pure_ (i := 39) (N := some 99) (v := ?_) (a' := ?_) b7_40 rfl rfl (any_of HT_.out (by kernel_rfl)) (fun _ _ _ h => h) (Or.inl ⟨by rfl, ?_⟩) ?_ ?_
                      rotate_left
                      ·
                       intro w'
                       go_simp
                       with_reducible rfl
                      rotate_left
                      ·
                       simp only [Act.put, q1_, q2_, q3_, i64_w, i32_w]
                       rfl
                      refine pure_ (i := 40) (N := some 100) (v := ?_) (a' := ?_) b7_41 rfl rfl (any_of HT_.out (by kernel_rfl)) (fun _ _ _ h => h) (Or.inl ⟨by rfl, ?_⟩) ?_ ?_
                      rotate_left
                      ·
                       intro w'
                       go_simp
                       with_reducible rfl
                      rotate_left
                      ·
                       simp only [Act.put, q1_, q2_, q3_, i64_w, i32_w]
                       rfl
                      refine pure_ (i := 41) (N := some 101) (v := ?_) (a' := ?_) b7_42 rfl rfl (any_of HT_.out (by kernel_rfl)) (fun _ _ _ h => h) (Or.inl ⟨by rfl, ?_⟩) ?_ ?_
                      rotate_left
                      ·
                       intro w'
                       go_simp
                       with_reducible rfl
                      rotate_left
                      ·
                       simp only [Act.put, q1_, q2_, q3_, i64_w, i32_w]
                       rfl
                      refine pure_ (i := 42) (N := some 102) (v := ?_) (a' := ?_) b7_43 rfl rfl (any_of HT_.out (by kernel_rfl)) (fun _ _ _ h => h) (Or.inl ⟨by rfl, ?_⟩) ?_ ?_
                      rotate_left
                      ·
                       intro w'
                       go_simp
                       with_reducible rfl
                      rotate_left
                      ·
                       simp only [Act.put, q1_, q2_, q3_, i64_w, i32_w]
                       rfl
                      refine pure_ (i := 43) (N := some 103) (v := ?_) (a' := ?_) b7_44 rfl rfl (any_of HT_.out (by kernel_rfl)) (fun _ _ _ h => h) (Or.inl ⟨by rfl, ?_⟩) ?_ ?_
                      rotate_left
                      ·
                       intro w'
                       go_simp
                       with_reducible rfl
                      rotate_left
                      ·
                       simp only [Act.put, q1_, q2_, q3_, i64_w, i32_w]
                       rfl
                      refine pure_ (i := 45) (N := some 105) (v := ?_) (a' := ?_) b7_45 rfl rfl (any_of HT_.out (by kernel_rfl)) (fun _ _ _ h => h) (Or.inl ⟨by rfl, ?_⟩) ?_ ?_
                      rotate_left
                      ·
                       intro w'
                       go_simp
                       with_reducible rfl
                      rotate_left
                      ·
                       simp only [Act.put, q1_, q2_, q3_, i64_w, i32_w]
                       rfl
                      refine pure_ (i := 46) (N := some 106) (v := ?_) (a' := ?_) b7_46 rfl rfl (any_of HT_.out (by kernel_rfl)) (fun _ _ _ h => h) (Or.inl ⟨by rfl, ?_⟩) ?_ ?_
                      rotate_left
                      ·
                       intro w'
                       go_simp
                       with_reducible rfl
                      rotate_left
                      ·
                       simp only [Act.put, q1_, q2_, q3_, i64_w, i32_w]
                       rfl
                      refine pure_ (i := 47) (N := some 107) (v := ?_) (a' := ?_) b7_47 rfl rfl (any_of HT_.out (by kernel_rfl)) (fun _ _ _ h => h) (Or.inl ⟨by rfl, ?_⟩) ?_ ?_
                      rotate_left
                      ·
                       intro w'
                       go_simp
                       with_reducible rfl
                      rotate_left
                      ·
                       simp only [Act.put, q1_, q2_, q3_, i64_w, i32_w]
                       rfl
                      refine pure_ (i := 48) (N := some 108) (v := ?_) (a' := ?_) b7_48 rfl rfl (any_of HT_.out (by kernel_rfl)) (fun _ _ _ h => h) (Or.inl ⟨by rfl, ?_⟩) ?_ ?_
                      rotate_left
                      ·
                       intro w'
                       go_simp
                       with_reducible rfl
                      rotate_left
                      ·
                       simp only [Act.put, q1_, q2_, q3_, i64_w, i32_w]
                       rfl
                      refine take_ (i := 44) (N := some 104) (v := ?_) (a' := ?_) b7_49 rfl rfl (take_ofW HT_.out HW_.out (by kernel_rfl)) (fun _ _ _ h => h) (Or.inl ⟨by rfl, ?_⟩) hHeld ?_ ?_
                      rotate_left
                      ·
                       rintro w' ⟨s0, s1, s2, s3, s4, s5, s6, s7, s8, s9, s10, s11⟩
                       go_simp
                       with_reducible rfl
                      rotate_left
                      ·
                       simp only [Act.put, q1_, q2_, q3_, i64_w, i32_w]
                       rfl
                      refine take_ (i := 49) (N := some 109) (v := ?_) (a' := ?_) b7_50 rfl rfl (take_ofW HT_.out HW_.out (by kernel_rfl)) (fun _ _ _ h => h) (Or.inl ⟨by rfl, ?_⟩) hHeld ?_ ?_
                      rotate_left
                      ·
                       rintro w' ⟨s0, s1, s2, s3, s4, s5, s6, s7, s8, s9, s10, s11⟩
                       go_simp
                       with_reducible rfl
                      rotate_left
                      ·
                       simp only [Act.put, q1_, q2_, q3_, i64_w, i32_w]
                       rfl
                      refine pure_ (i := 50) (N := some 110) (v := ?_) (a' := ?_) b7_51 rfl rfl (any_of HT_.out (by kernel_rfl)) (fun _ _ _ h => h) (Or.inl ⟨by rfl, ?_⟩) ?_ ?_
                      rotate_left
                      ·
                       intro w'
                       go_simp
                       with_reducible rfl
                      rotate_left
                      ·
                       simp only [Act.put, q1_, q2_, q3_, i64_w, i32_w]
                       rfl
                      refine pure_ (i := 51) (N := some 111) (v := ?_) (a' := ?_) b7_52 rfl rfl (any_of HT_.out (by kernel_rfl)) (fun _ _ _ h => h) (Or.inl ⟨by rfl, ?_⟩) ?_ ?_
                      rotate_left
                      ·
                       intro w'
                       go_simp
                       with_reducible rfl
                      rotate_left
                      ·
                       simp only [Act.put, q1_, q2_, q3_, i64_w, i32_w]
                       rfl
                      refine pure_ (i := 52) (N := some 112) (v := ?_) (a' := ?_) b7_53 rfl rfl (any_of HT_.out (by kernel_rfl)) (fun _ _ _ h => h) (Or.inl ⟨by rfl, ?_⟩) ?_ ?_
                      rotate_left
                      ·
                       intro w'
                       go_simp
                       with_reducible rfl
                      rotate_left
                      ·
                       simp only [Act.put, q1_, q2_, q3_, i64_w, i32_w]
                       rfl
                      refine done_ (done_of HT_.out (by kernel_rfl)) ?_
                      try go_wp2
                      go_roundg k2
                      case measure => have := HJ13.out; have := HK2.out; omega
                      case rel => exact ⟨(wrap64 (x16_2 + 1)), (by first | rfl | (simp; done) | (simp [*]; done)), (by first | exact H' | (simp only [hji29, hji44]; exact H')), ⟨by have := HJ13.out; have := HK2.out; omega⟩, ⟨by (with_reducible repeat (first | apply Kd.R_alloc | apply Kd.R_drewN | apply Kd.R_drew)); exact HO_11.out⟩, ⟨by (with_reducible repeat (first | apply Kd.R_alloc | apply Kd.R_drewN | apply Kd.R_drew)); exact HO_14.out⟩, ⟨by (with_reducible repeat (first | apply Kd.R_alloc | apply Kd.R_drewN | apply Kd.R_drew)); exact HO_15.out⟩, ⟨by repeat (first | (with_reducible first | exact HB.out | apply below_alloc | apply pw_below_drewN | apply below_drew1) | exact HB.out | exact Below.refl _ _)⟩⟩
                     ·
                      rw [if_neg c47] at H
                      have c47b0 : (Op.bytesLess (((rd_T47 t268 (ji44)).f0).toList) (((rd_T47 t268 x16_2).f0).toList)) = false := by simpa using c47
                      (try (have c47b1 : ((((rd_T47 t268 (ji44)).f0).toList) == (((rd_T47 t268 x16_2).f0).toList)) = true := bl_eq (by assumption) (by assumption)))
                      (try (have c47b2 : ((((rd_T47 t268 x16_2).f0).toList) == (((rd_T47 t268 (ji44)).f0).toList)) = true := bl_eq (by assumption) (by assumption)))
                      clear c47
                      exact absurd ((Option.some.inj H).trans hR_.out) (by decide)
                    ·
                     rw [if_neg c46] at H
                     exact absurd H (by simp)
                   ·
                    rw [if_neg c45] at H
                    exact absurd H (by simp)
                  ·
                   rw [if_neg c43] at H
                   have c43b0 : decide (0 < x16_2) = false := decide_eq_false c43
                   clear c43
                   have H' := Aside0.mk H
                   clear H
                   try go_wp2
                   have n0_ := Aside0.mk (Kd.R_drew HO_11.out)
                   have n1_ := Aside0.mk (Kd.R_drew HO_14.out)
                   have n2_ := Aside0.mk (Kd.R_drew HO_15.out)
                   have n3_ := Aside0.mk (below_drew1 HB.out)
                   clear HO_11
                   clear HO_14
                   clear HO_15
                   clear HB
                   have HO_11 := n0_
                   have HO_14 := n1_
                   have HO_15 := n2_
                   have HB := n3_
                   clear n0_ n1_ n2_ n3_
                   have p274 : 0 ≤ (x16_2 : Int) := of_decide_eq_true (by first | (with_reducible assumption) | assumption)
                   have q274 : x16_2 < (t268.length : Int) := of_decide_eq_true (by first | (with_reducible assumption) | assumption)
                   obtain ⟨ad274, e274, hx274_0, hx274_1⟩ := at_T47 (Kd.R_reads' HO_14.out).2.2 x16_2 p274 q274
                   cases e274
                   replace p274 := eq_true p274
                   replace q274 := eq_true q274
                   have p275 : 0 ≤ ((ji29) : Int) := of_decide_eq_true (by first | (with_reducible assumption) | assumption)
                   have q275 : (ji29) < (t271.length : Int) := of_decide_eq_true (by first | (with_reducible assumption) | assumption)
                   obtain ⟨ad275, e275, hx275_0, hx275_1⟩ := at_T47 (Kd.R_reads' HO_15.out).2.2 (ji29) p275 q275
                   cases e275
                   replace p275 := eq_true p275
                   replace q275 := eq_true q275
                   have p276 : 0 ≤ (x16_2 : Int) := of_decide_eq_true (by first | (with_reducible assumption) | assumption)
                   have q276 : x16_2 < (t268.length : Int) := of_decide_eq_true (by first | (with_reducible assumption) | assumption)
                   obtain ⟨ad276, e276, hx276_0, hx276_1⟩ := at_T47 (Kd.R_reads' HO_14.out).2.2 x16_2 p276 q276
                   obtain rfl : ad274 = ad276 := (by injection e276)
                   replace p276 := eq_true p276
                   replace q276 := eq_true q276
                   have p279 : 0 ≤ (x16_2 : Int) := of_decide_eq_true (by first | (with_reducible assumption) | assumption)
                   have q279 : x16_2 < (t268.length : Int) := of_decide_eq_true (by first | (with_reducible assumption) | assumption)
                   obtain ⟨ad279, e279, hx279_0, hx279_1⟩ := at_T47 (Kd.R_reads' HO_14.out).2.2 x16_2 p279 q279
                   obtain rfl : ad274 = ad279 := (by injection e279)
                   replace p279 := eq_true p279
                   replace q279 := eq_true q279
                   refine start_ (n := 53) (S := fun w' => w'.cell? (ad274.add ((x16_2).toNat * 2)) = some (.string ((rd_T47 t268 x16_2).f0)) ∧ w'.cell? ⟨(ad274.add ((x16_2).toNat * 2)).block, (ad274.add ((x16_2).toNat * 2)).off + 1, none⟩ = some (.string ((rd_T47 t268 x16_2).f1)) ∧ w'.cell? (ad275.add (((ji29)).toNat * 2)) = some (.string ((rd_T47 t271 (ji29)).f0)) ∧ w'.cell? ⟨(ad275.add (((ji29)).toNat * 2)).block, (ad275.add (((ji29)).toNat * 2)).off + 1, none⟩ = some (.string ((rd_T47 t271 (ji29)).f1)) ∧ w'.cell? (ad274.add ((x16_2).toNat * 2)) = some (.string ((rd_T47 t268 x16_2).f0)) ∧ w'.cell? ⟨(ad274.add ((x16_2).toNat * 2)).block, (ad274.add ((x16_2).toNat * 2)).off + 1, none⟩ = some (.string ((rd_T47 t268 x16_2).f1)) ∧ w'.cell? (ad274.add ((x16_2).toNat * 2)) = some (.string ((rd_T47 t268 x16_2).f0)) ∧ w'.cell? ⟨(ad274.add ((x16_2).toNat * 2)).block, (ad274.add ((x16_2).toNat * 2)).off + 1, none⟩ = some (.string ((rd_T47 t268 x16_2).f1))) (ds := []) b7_0 (by kernel_rfl) rfl rfl ⟨hx274_0, hx274_1, hx275_0, hx275_1, hx276_0, hx276_1, hx279_0, hx279_1⟩ (fun hHeld => ?_); refine with_tabW iceboxlaw15_MergeBack.tab13 iceboxlaw15_MergeBack.bits13 (fun HT_ HW_ => ?_)
                   generalize wr.drew = w49 at HO_11 HO_14 HO_15 HB hx274_0 hx274_1 hx275_0 hx275_1 hx276_0 hx276_1 hx279_0 hx279_1 hHeld ⊢
                   refine pure_ (i := 0) (N := some 60) (v := ?_) (a' := ?_) b7_1 rfl rfl (any_of HT_.out (by kernel_rfl)) (fun _ _ _ h => h) (Or.inl ⟨by rfl, ?_⟩) ?_ ?_
                   rotate_left
                   ·
                    intro w'
                    go_simp
                    with_reducible rfl
                   rotate_left
                   ·
                    simp only [Act.put, q1_, q2_, q3_, i64_w, i32_w]
                    rfl
                   refine pure_ (i := 1) (N := some 61) (v := ?_) (a' := ?_) b7_2 rfl rfl (any_of HT_.out (by kernel_rfl)) (fun _ _ _ h => h) (Or.inl ⟨by rfl, ?_⟩) ?_ ?_
                   rotate_left
                   ·
                    intro w'
                    go_simp
                    with_reducible rfl
                   rotate_left
                   ·
                    simp only [Act.put, q1_, q2_, q3_, i64_w, i32_w]
                    rfl
                   refine pure_ (i := 2) (N := some 62) (v := ?_) (a' := ?_) b7_3 rfl rfl (any_of HT_.out (by kernel_rfl)) (fun _ _ _ h => h) (Or.inl ⟨by rfl, ?_⟩) ?_ ?_
                   rotate_left
                   ·
                    intro w'
                    go_simp
                    with_reducible rfl
                   rotate_left
                   ·
                    simp only [Act.put, q1_, q2_, q3_, i64_w, i32_w]
                    rfl
                   refine pure_ (i := 4) (N := some 64) (v := ?_) (a' := ?_) b7_4 rfl rfl (any_of HT_.out (by kernel_rfl)) (fun _ _ _ h => h) (Or.inl ⟨by rfl, ?_⟩) ?_ ?_
                   rotate_left
                   ·
                    intro w'
                    go_simp
                    with_reducible rfl
                   rotate_left
                   ·
                    simp only [Act.put, q1_, q2_, q3_, i64_w, i32_w]
                    rfl
                   refine pure_ (i := 5) (N := some 65) (v := ?_) (a' := ?_) b7_5 rfl rfl (any_of HT_.out (by kernel_rfl)) (fun _ _ _ h => h) (Or.inl ⟨by rfl, ?_⟩) ?_ ?_
                   rotate_left
                   ·
                    intro w'
                    go_simp
                    with_reducible rfl
                   rotate_left
                   ·
                    simp only [Act.put, q1_, q2_, q3_, i64_w, i32_w]
                    rfl
                   refine pure_ (i := 6) (N := some 66) (v := ?_) (a' := ?_) b7_6 rfl rfl (any_of HT_.out (by kernel_rfl)) (fun _ _ _ h => h) (Or.inl ⟨by rfl, ?_⟩) ?_ ?_
                   rotate_left
                   ·
                    intro w'
                    go_simp
                    with_reducible rfl
                   rotate_left
                   ·
                    simp only [Act.put, q1_, q2_, q3_, i64_w, i32_w]
                    rfl
                   refine pure_ (i := 7) (N := some 67) (v := ?_) (a' := ?_) b7_7 rfl rfl (any_of HT_.out (by kernel_rfl)) (fun _ _ _ h => h) (Or.inl ⟨by rfl, ?_⟩) ?_ ?_
                   rotate_left
                   ·
                    intro w'
                    go_simp
                    with_reducible rfl
                   rotate_left
                   ·
                    simp only [Act.put, q1_, q2_, q3_, i64_w, i32_w]
                    rfl
                   refine pure_ (i := 8) (N := some 68) (v := ?_) (a' := ?_) b7_8 rfl rfl (any_of HT_.out (by kernel_rfl)) (fun _ _ _ h => h) (Or.inl ⟨by rfl, ?_⟩) ?_ ?_
                   rotate_left
                   ·
                    intro w'
                    go_simp
                    with_reducible rfl
                   rotate_left
                   ·
                    simp only [Act.put, q1_, q2_, q3_, i64_w, i32_w]
                    rfl
                   refine pure_ (i := 9) (N := some 69) (v := ?_) (a' := ?_) b7_9 rfl rfl (any_of HT_.out (by kernel_rfl)) (fun _ _ _ h => h) (Or.inl ⟨by rfl, ?_⟩) ?_ ?_
                   rotate_left
                   ·
                    intro w'
                    go_simp
                    with_reducible rfl
                   rotate_left
                   ·
                    simp only [Act.put, q1_, q2_, q3_, i64_w, i32_w]
                    rfl
                   refine pure_ (i := 10) (N := some 70) (v := ?_) (a' := ?_) b7_10 rfl rfl (any_of HT_.out (by kernel_rfl)) (fun _ _ _ h => h) (Or.inl ⟨by rfl, ?_⟩) ?_ ?_
                   rotate_left
                   ·
                    intro w'
                    go_simp
                    with_reducible rfl
                   rotate_left
                   ·
                    simp only [Act.put, q1_, q2_, q3_, i64_w, i32_w]
                    rfl
                   refine take_ (i := 3) (N := some 63) (v := ?_) (a' := ?_) b7_11 rfl rfl (take_ofW HT_.out HW_.out (by kernel_rfl)) (fun _ _ _ h => h) (Or.inl ⟨by rfl, ?_⟩) hHeld ?_ ?_
                   rotate_left
                   ·
                    rintro w' ⟨s0, s1, s2, s3, s4, s5, s6, s7⟩
                    go_simp
                    with_reducible rfl
                   rotate_left
                   ·
                    simp only [Act.put, q1_, q2_, q3_, i64_w, i32_w]
                    rfl
                   refine take_ (i := 11) (N := some 71) (v := ?_) (a' := ?_) b7_12 rfl rfl (take_ofW HT_.out HW_.out (by kernel_rfl)) (fun _ _ _ h => h) (Or.inl ⟨by rfl, ?_⟩) hHeld ?_ ?_
                   rotate_left
                   ·
                    rintro w' ⟨s0, s1, s2, s3, s4, s5, s6, s7⟩
                    go_simp
                    with_reducible rfl
                   rotate_left
                   ·
                    simp only [Act.put, q1_, q2_, q3_, i64_w, i32_w]
                    rfl
                   refine pure_ (i := 12) (N := some 72) (v := ?_) (a' := ?_) b7_13 rfl rfl (any_of HT_.out (by kernel_rfl)) (fun _ _ _ h => h) (Or.inl ⟨by rfl, ?_⟩) ?_ ?_
                   rotate_left
                   ·
                    intro w'
                    go_simp
                    with_reducible rfl
                   rotate_left
                   ·
                    simp only [Act.put, q1_, q2_, q3_, i64_w, i32_w]
                    rfl
                   refine pure_ (i := 13) (N := some 73) (v := ?_) (a' := ?_) b7_14 rfl rfl (any_of HT_.out (by kernel_rfl)) (fun _ _ _ h => h) (Or.inl ⟨by rfl, ?_⟩) ?_ ?_
                   rotate_left
                   ·
                    intro w'
                    go_simp
                    with_reducible rfl
                   rotate_left
                   ·
                    simp only [Act.put, q1_, q2_, q3_, i64_w, i32_w]
                    rfl
                   refine pure_ (i := 14) (N := some 74) (v := ?_) (a' := ?_) b7_15 rfl rfl (any_of HT_.out (by kernel_rfl)) (fun _ _ _ h => h) (Or.inl ⟨by rfl, ?_⟩) ?_ ?_
                   rotate_left
                   ·
                    intro w'
                    go_simp
                    with_reducible rfl
                   rotate_left
                   ·
                    simp only [Act.put, q1_, q2_, q3_, i64_w, i32_w]
                    rfl
                   refine pure_ (i := 15) (N := some 75) (v := ?_) (a' := ?_) b7_16 rfl rfl (any_of HT_.out (by kernel_rfl)) (fun _ _ _ h => h) (Or.inl ⟨by rfl, ?_⟩) ?_ ?_
                   rotate_left
                   ·
                    intro w'
                    go_simp
                    with_reducible rfl
                   rotate_left
                   ·
                    simp only [Act.put, q1_, q2_, q3_, i64_w, i32_w]
                    rfl
                   refine pure_ (i := 16) (N := some 76) (v := ?_) (a' := ?_) b7_17 rfl rfl (any_of HT_.out (by kernel_rfl)) (fun _ _ _ h => h) (Or.inl ⟨by rfl, ?_⟩) ?_ ?_
                   rotate_left
                   ·
                    intro w'
                    go_simp
                    with_reducible rfl
                   rotate_left
                   ·
                    simp only [Act.put, q1_, q2_, q3_, i64_w, i32_w]
                    rfl
                   refine pure_ (i := 17) (N := some 77) (v := ?_) (a' := ?_) b7_18 rfl rfl (any_of HT_.out (by kernel_rfl)) (fun _ _ _ h => h) (Or.inl ⟨by rfl, ?_⟩) ?_ ?_
                   rotate_left
                   ·
                    intro w'
                    go_simp
                    with_reducible rfl
                   rotate_left
                   ·
                    simp only [Act.put, q1_, q2_, q3_, i64_w, i32_w]
                    rfl
                   refine pure_ (i := 19) (N := some 79) (v := ?_) (a' := ?_) b7_19 rfl rfl (any_of HT_.out (by kernel_rfl)) (fun _ _ _ h => h) (Or.inl ⟨by rfl, ?_⟩) ?_ ?_
                   rotate_left
                   ·
                    intro w'
                    go_simp
                    with_reducible rfl
                   rotate_left
                   ·
                    simp only [Act.put, q1_, q2_, q3_, i64_w, i32_w]
                    rfl
                   refine take_ (i := 18) (N := some 78) (v := ?_) (a' := ?_) b7_20 rfl rfl (take_ofW HT_.out HW_.out (by kernel_rfl)) (fun _ _ _ h => h) (Or.inl ⟨by rfl, ?_⟩) hHeld ?_ ?_
                   rotate_left
                   ·
                    rintro w' ⟨s0, s1, s2, s3, s4, s5, s6, s7⟩
                    go_simp
                    with_reducible rfl
                   rotate_left
                   ·
                    simp only [Act.put, q1_, q2_, q3_, i64_w, i32_w]
                    rfl
                   refine pure_ (i := 20) (N := some 80) (v := ?_) (a' := ?_) b7_21 rfl rfl (any_of HT_.out (by kernel_rfl)) (fun _ _ _ h => h) (Or.inl ⟨by rfl, ?_⟩) ?_ ?_
                   rotate_left
                   ·
                    intro w'
                    go_simp
                    with_reducible rfl
                   rotate_left
                   ·
                    simp only [Act.put, q1_, q2_, q3_, i64_w, i32_w]
                    rfl
                   refine pure_ (i := 21) (N := some 81) (v := ?_) (a' := ?_) b7_22 rfl rfl (any_of HT_.out (by kernel_rfl)) (fun _ _ _ h => h) (Or.inl ⟨by rfl, ?_⟩) ?_ ?_
                   rotate_left
                   ·
                    intro w'
                    go_simp
                    with_reducible rfl
                   rotate_left
                   ·
                    simp only [Act.put, q1_, q2_, q3_, i64_w, i32_w]
                    rfl
                   refine pure_ (i := 22) (N := some 82) (v := ?_) (a' := ?_) b7_23 rfl rfl (any_of HT_.out (by kernel_rfl)) (fun _ _ _ h => h) (Or.inl ⟨by rfl, ?_⟩) ?_ ?_
                   rotate_left
                   ·
                    intro w'
                    go_simp
                    with_reducible rfl
                   rotate_left
                   ·
                    simp only [Act.put, q1_, q2_, q3_, i64_w, i32_w]
                    rfl
                   refine pure_ (i := 23) (N := some 83) (v := ?_) (a' := ?_) b7_24 rfl rfl (any_of HT_.out (by kernel_rfl)) (fun _ _ _ h => h) (Or.inl ⟨by rfl, ?_⟩) ?_ ?_
                   rotate_left
                   ·
                    intro w'
                    go_simp
                    with_reducible rfl
                   rotate_left
                   ·
                    simp only [Act.put, q1_, q2_, q3_, i64_w, i32_w]
                    rfl
                   refine pure_ (i := 24) (N := some 84) (v := ?_) (a' := ?_) b7_25 rfl rfl (any_of HT_.out (by kernel_rfl)) (fun _ _ _ h => h) (Or.inl ⟨by rfl, ?_⟩) ?_ ?_
                   rotate_left
                   ·
                    intro w'
                    go_simp
                    with_reducible rfl
                   rotate_left
                   ·
                    simp only [Act.put, q1_, q2_, q3_, i64_w, i32_w]
                    rfl
                   refine pure_ (i := 25) (N := some 85) (v := ?_) (a' := ?_) b7_26 rfl rfl (any_of HT_.out (by kernel_rfl)) (fun _ _ _ h => h) (Or.inl ⟨by rfl, ?_⟩) ?_ ?_
                   rotate_left
                   ·
                    intro w'
                    go_simp
                    with_reducible rfl
                   rotate_left
                   ·
                    simp only [Act.put, q1_, q2_, q3_, i64_w, i32_w]
                    rfl
                   refine pure_ (i := 26) (N := some 86) (v := ?_) (a' := ?_) b7_27 rfl rfl (any_of HT_.out (by kernel_rfl)) (fun _ _ _ h => h) (Or.inl ⟨by rfl, ?_⟩) ?_ ?_
                   rotate_left
                   ·
                    intro w'
                    go_simp
                    with_reducible rfl
                   rotate_left
                   ·
                    simp only [Act.put, q1_, q2_, q3_, i64_w, i32_w]
                    rfl
                   refine pure_ (i := 27) (N := some 87) (v := ?_) (a' := ?_) b7_28 rfl rfl (any_of HT_.out (by kernel_rfl)) (fun _ _ _ h => h) (Or.inl ⟨by rfl, ?_⟩) ?_ ?_
                   rotate_left
                   ·
                    intro w'
                    go_simp
                    with_reducible rfl
                   rotate_left
                   ·
                    simp only [Act.put, q1_, q2_, q3_, i64_w, i32_w]
                    rfl
                   refine pure_ (i := 28) (N := some 88) (v := ?_) (a' := ?_) b7_29 rfl rfl (any_of HT_.out (by kernel_rfl)) (fun _ _ _ h => h) (Or.inl ⟨by rfl, ?_⟩) ?_ ?_
                   rotate_left
                   ·
                    intro w'
                    go_simp
                    with_reducible rfl
                   rotate_left
                   ·
                    simp only [Act.put, q1_, q2_, q3_, i64_w, i32_w]
                    rfl
                   refine pure_ (i := 29) (N := some 89) (v := ?_) (a' := ?_) b7_30 rfl rfl (any_of HT_.out (by kernel_rfl)) (fun _ _ _ h => h) (Or.inl ⟨by rfl, ?_⟩) ?_ ?_
                   rotate_left
                   ·
                    intro w'
                    go_simp
                    with_reducible rfl
                   rotate_left
                   ·
                    simp only [Act.put, q1_, q2_, q3_, i64_w, i32_w]
                    rfl
                   refine pure_ (i := 31) (N := some 91) (v := ?_) (a' := ?_) b7_58 rfl rfl (any_of HT_.out (by kernel_rfl)) (fun _ _ _ h => h) (Or.inl ⟨by rfl, ?_⟩) ?_ ?_
                   rotate_left
                   ·
                    intro w'
                    go_simp
                    with_reducible rfl
                   rotate_left
                   ·
                    simp only [Act.put, q1_, q2_, q3_, i64_w, i32_w]
                    rfl
                   refine take_ (i := 30) (N := some 90) (v := ?_) (a' := ?_) b7_32 rfl rfl (take_ofW HT_.out HW_.out (by kernel_rfl)) (fun _ _ _ h => h) (Or.inl ⟨by rfl, ?_⟩) hHeld ?_ ?_
                   rotate_left
                   ·
                    rintro w' ⟨s0, s1, s2, s3, s4, s5, s6, s7⟩
                    go_simp
                    with_reducible rfl
                   rotate_left
                   ·
                    simp only [Act.put, q1_, q2_, q3_, i64_w, i32_w]
                    rfl
                   refine pure_ (i := 32) (N := some 92) (v := ?_) (a' := ?_) b7_33 rfl rfl (any_of HT_.out (by kernel_rfl)) (fun _ _ _ h => h) (Or.inl ⟨by rfl, ?_⟩) ?_ ?_
                   rotate_left
                   ·
                    intro w'
                    go_simp
                    with_reducible rfl
                   rotate_left
                   ·
                    simp only [Act.put, q1_, q2_, q3_, i64_w, i32_w]
                    rfl
                   refine pure_ (i := 33) (N := some 93) (v := ?_) (a' := ?_) b7_34 rfl rfl (any_of HT_.out (by kernel_rfl)) (fun _ _ _ h => h) (Or.inl ⟨by rfl, ?_⟩) ?_ ?_
                   rotate_left
                   ·
                    intro w'
                    go_simp
                    with_reducible rfl
                   rotate_left
                   ·
                    simp only [Act.put, q1_, q2_, q3_, i64_w, i32_w]
                    rfl
                   refine pure_ (i := 34) (N := some 94) (v := ?_) (a' := ?_) b7_35 rfl rfl (any_of HT_.out (by kernel_rfl)) (fun _ _ _ h => h) (Or.inl ⟨by rfl, ?_⟩) ?_ ?_
                   rotate_left
                   ·
                    intro w'
                    go_simp
                    with_reducible rfl
                   rotate_left
                   ·
                    simp only [Act.put, q1_, q2_, q3_, i64_w, i32_w]
                    rfl
                   refine pure_ (i := 35) (N := some 95) (v := ?_) (a' := ?_) b7_36 rfl rfl (any_of HT_.out (by kernel_rfl)) (fun _ _ _ h => h) (Or.inl ⟨by rfl, ?_⟩) ?_ ?_
                   rotate_left
                   ·
                    intro w'
                    go_simp
                    with_reducible rfl
                   rotate_left
                   ·
                    simp only [Act.put, q1_, q2_, q3_, i64_w, i32_w]
                    rfl
                   refine pure_ (i := 36) (N := some 96) (v := ?_) (a' := ?_) b7_37 rfl rfl (any_of HT_.out (by kernel_rfl)) (fun _ _ _ h => h) (Or.inl ⟨by rfl, ?_⟩) ?_ ?_
                   rotate_left
                   ·
                    intro w'
                    go_simp
                    with_reducible rfl
                   rotate_left
                   ·
                    simp only [Act.put, q1_, q2_, q3_, i64_w, i32_w]
                    rfl
                   refine pure_ (i := 37) (N := some 97) (v := ?_) (a' := ?_) b7_38 rfl rfl (any_of HT_.out (by kernel_rfl)) (fun _ _ _ h => h) (Or.inl ⟨by rfl, ?_⟩) ?_ ?_
                   rotate_left
                   ·
                    intro w'
                    go_simp
                    with_reducible rfl
                   rotate_left
                   ·
                    simp only [Act.put, q1_, q2_, q3_, i64_w, i32_w]
                    rfl
                   refine pure_ (i := 38) (N := some 98) (v := ?_) (a' := ?_) b7_39 rfl rfl (any_of HT_.out (by kernel_rfl)) (fun _ _ _ h => h) (Or.inl ⟨by rfl, ?_⟩) ?_ ?_
                   rotate_left
                   ·
                    intro w'
                    go_simp
                    with_reducible rfl
                   rotate_left
                   ·
                    simp only [Act.put, q1_, q2_, q3_, i64_w, i32_w]
                    rfl
                   refine pure_ (i := 39) (N := some 99) (v := undef) (a' := ?_) b7_40 rfl rfl (any_of HT_.out (by kernel_rfl)) (fun _ _ _ h => h) (Or.inr ⟨by rfl, rfl⟩) ?_ ?_
                   rotate_left
                   ·
                    simp only [Act.put, q1_, q2_, q3_, i64_w, i32_w]
                    rfl
                   refine pure_ (i := 40) (N := some 100) (v := undef) (a' := ?_) b7_41 rfl rfl (any_of HT_.out (by kernel_rfl)) (fun _ _ _ h => h) (Or.inr ⟨by rfl, rfl⟩) ?_ ?_
                   rotate_left
                   ·
                    simp only [Act.put, q1_, q2_, q3_, i64_w, i32_w]
                    rfl
                   refine pure_ (i := 41) (N := some 101) (v := undef) (a' := ?_) b7_42 rfl rfl (any_of HT_.out (by kernel_rfl)) (fun _ _ _ h => h) (Or.inr ⟨by rfl, rfl⟩) ?_ ?_
                   rotate_left
                   ·
                    simp only [Act.put, q1_, q2_, q3_, i64_w, i32_w]
                    rfl
                   refine pure_ (i := 42) (N := some 102) (v := undef) (a' := ?_) b7_43 rfl rfl (any_of HT_.out (by kernel_rfl)) (fun _ _ _ h => h) (Or.inr ⟨by rfl, rfl⟩) ?_ ?_
                   rotate_left
                   ·
                    simp only [Act.put, q1_, q2_, q3_, i64_w, i32_w]
                    rfl
                   refine pure_ (i := 43) (N := some 103) (v := undef) (a' := ?_) b7_44 rfl rfl (any_of HT_.out (by kernel_rfl)) (fun _ _ _ h => h) (Or.inr ⟨by rfl, rfl⟩) ?_ ?_
                   rotate_left
                   ·
                    simp only [Act.put, q1_, q2_, q3_, i64_w, i32_w]
                    rfl
                   refine pure_ (i := 44) (N := some 104) (v := undef) (a' := ?_) b7_54 rfl rfl (any_of HT_.out (by kernel_rfl)) (fun _ _ _ h => h) (Or.inr ⟨by rfl, rfl⟩) ?_ ?_
                   rotate_left
                   ·
                    simp only [Act.put, q1_, q2_, q3_, i64_w, i32_w]
                    rfl
                   refine pure_ (i := 45) (N := some 105) (v := undef) (a' := ?_) b7_55 rfl rfl (any_of HT_.out (by kernel_rfl)) (fun _ _ _ h => h) (Or.inr ⟨by rfl, rfl⟩) ?_ ?_
                   rotate_left
                   ·
                    simp only [Act.put, q1_, q2_, q3_, i64_w, i32_w]
                    rfl
                   refine pure_ (i := 46) (N := some 106) (v := undef) (a' := ?_) b7_56 rfl rfl (any_of HT_.out (by kernel_rfl)) (fun _ _ _ h => h) (Or.inr ⟨by rfl, rfl⟩) ?_ ?_
                   rotate_left
                   ·
                    simp only [Act.put, q1_, q2_, q3_, i64_w, i32_w]
                    rfl
                   refine pure_ (i := 47) (N := some 107) (v := undef) (a' := ?_) b7_57 rfl rfl (any_of HT_.out (by kernel_rfl)) (fun _ _ _ h => h) (Or.inr ⟨by rfl, rfl⟩) ?_ ?_
                   rotate_left
                   ·
                    simp only [Act.put, q1_, q2_, q3_, i64_w, i32_w]
                    rfl
                   refine pure_ (i := 48) (N := some 108) (v := undef) (a' := ?_) b7_49 rfl rfl (any_of HT_.out (by kernel_rfl)) (fun _ _ _ h => h) (Or.inr ⟨by rfl, rfl⟩) ?_ ?_
                   rotate_left
                   ·
                    simp only [Act.put, q1_, q2_, q3_, i64_w, i32_w]
                    rfl
                   refine pure_ (i := 49) (N := some 109) (v := undef) (a' := ?_) b7_50 rfl rfl (any_of HT_.out (by kernel_rfl)) (fun _ _ _ h => h) (Or.inr ⟨by rfl, rfl⟩) ?_ ?_
                   rotate_left
                   ·
                    simp only [Act.put, q1_, q2_, q3_, i64_w, i32_w]
                    rfl
                   refine pure_ (i := 50) (N := some 110) (v := undef) (a' := ?_) b7_51 rfl rfl (any_of HT_.out (by kernel_rfl)) (fun _ _ _ h => h) (Or.inr ⟨by rfl, rfl⟩) ?_ ?_
                   rotate_left
                   ·
                    simp only [Act.put, q1_, q2_, q3_, i64_w, i32_w]
                    rfl
                   refine pure_ (i := 51) (N := some 111) (v := ?_) (a' := ?_) b7_52 rfl rfl (any_of HT_.out (by kernel_rfl)) (fun _ _ _ h => h) (Or.inl ⟨by rfl, ?_⟩) ?_ ?_
                   rotate_left
                   ·
                    intro w'
                    go_simp
                    with_reducible rfl
                   rotate_left
                   ·
                    simp only [Act.put, q1_, q2_, q3_, i64_w, i32_w]
                    rfl
                   refine pure_ (i := 52) (N := some 112) (v := ?_) (a' := ?_) b7_53 rfl rfl (any_of HT_.out (by kernel_rfl)) (fun _ _ _ h => h) (Or.inl ⟨by rfl, ?_⟩) ?_ ?_
                   rotate_left
                   ·
                    intro w'
                    go_simp
                    with_reducible rfl
                   rotate_left
                   ·
                    simp only [Act.put, q1_, q2_, q3_, i64_w, i32_w]
                    rfl
                   refine done_ (done_of HT_.out (by kernel_rfl)) ?_
                   try go_wp2
                   go_roundg k2
                   case measure => have := HJ13.out; have := HK2.out; omega
                   case rel => exact ⟨(wrap64 (x16_2 + 1)), (by first | rfl | (simp; done) | (simp [*]; done)), (by first | exact H' | (simp only [hji29]; exact H')), ⟨by have := HJ13.out; have := HK2.out; omega⟩, ⟨by (with_reducible repeat (first | apply Kd.R_alloc | apply Kd.R_drewN | apply Kd.R_drew)); exact HO_11.out⟩, ⟨by (with_reducible repeat (first | apply Kd.R_alloc | apply Kd.R_drewN | apply Kd.R_drew)); exact HO_14.out⟩, ⟨by (with_reducible repeat (first | apply Kd.R_alloc | apply Kd.R_drewN | apply Kd.R_drew)); exact HO_15.out⟩, ⟨by repeat (first | (with_reducible first | exact HB.out | apply below_alloc | apply pw_below_drewN | apply below_drew1) | exact HB.out | exact Below.refl _ _)⟩⟩
                 ·
                  rw [if_neg c42] at H
                  have c42b0 : (Op.bytesLess (((rd_T47 t268 x16_2).f0).toList) x13_13.toList) = false := by simpa using c42
                  (try (have c42b1 : ((((rd_T47 t268 x16_2).f0).toList) == x13_13.toList) = true := bl_eq (by assumption) (by assumption)))
                  (try (have c42b2 : (x13_13.toList == (((rd_T47 t268 x16_2).f0).toList)) = true := bl_eq (by assumption) (by assumption)))
                  clear c42
                  exact absurd ((Option.some.inj H).trans hR_.out) (by decide)
             ·
              rw [if_neg c31] at H
              exact absurd H (by simp)
            ·
             rw [if_neg c30] at H
             exact absurd H (by simp)
           ·
            rw [if_neg c28] at H
            exact absurd H (by simp)
          ·
           rw [if_neg c27] at H
           have c27b0 : decide (x16_2 < (t268.length : Int)) = false := decide_eq_false c27
           clear c27
           obtain ⟨ji50, hji50⟩ : ∃ j_ : Int, (mn (wrap64 (a4)) (t268.length : Int)) = j_ := ⟨_, rfl⟩
           replace H : ((merge_View.f k2 t263 (wrap64 (a1)) ((⟨#[107, 101, 121]⟩ : ByteArray) ++ t266) x13_13 false (wrap64 (a4))).bind fun t282 => (if 0 ≤ (ji50) then (if (ji50) ≤ (t268.length : Int) then ((iceboxref1_Pairs.f k2 t282 (t268.take ((ji50) : Int).toNat)).bind fun t289 => (if t289 = true then ((merge_View.f k2 t263 (wrap64 (a1)) ((⟨#[107, 101, 121]⟩ : ByteArray) ++ t266) x13_13 true (wrap64 (a4))).bind fun t290 => (if (ji50) ≤ (t271.length : Int) then ((iceboxref1_Pairs.f k2 t290 (t271.take ((ji50) : Int).toNat)).bind fun t297 => (if t297 = true then ((iceboxlaw15_awake.f k2).bind fun t298 => (some t298)) else (some false))) else (none))) else (some false))) else (none)) else (none))) = some r := by first | (rw [hji50] at H; exact H) | (simp only [hji50] at H ⊢; exact H)
           have hji50_ : (if (t268.length : Int) < (wrap64 (a4)) then (t268.length : Int) else (wrap64 (a4))) = ji50 := hji50
           replace H := Option.bind_eq_some_iff.mp H
           obtain ⟨t282, A510, H⟩ := H
           replace H : (if 0 ≤ (ji50) then (if (ji50) ≤ (t268.length : Int) then ((iceboxref1_Pairs.f k2 t282 (t268.take ((ji50) : Int).toNat)).bind fun t289 => (if t289 = true then ((merge_View.f k2 t263 (wrap64 (a1)) ((⟨#[107, 101, 121]⟩ : ByteArray) ++ t266) x13_13 true (wrap64 (a4))).bind fun t290 => (if (ji50) ≤ (t271.length : Int) then ((iceboxref1_Pairs.f k2 t290 (t271.take ((ji50) : Int).toNat)).bind fun t297 => (if t297 = true then ((iceboxlaw15_awake.f k2).bind fun t298 => (some t298)) else (some false))) else (none))) else (some false))) else (none)) else (none)) = some r := H
           have A51 := Aside0.mk A510
           clear A510
           by_cases c52 : 0 ≤ (ji50)
           ·
            rw [if_pos c52] at H
            have c52b0 := eq_true c52
            have c52b1 : decide (0 ≤ (ji50)) = true := decide_eq_true c52
            clear c52
            by_cases c53 : (ji50) ≤ (t268.length : Int)
            ·
             rw [if_pos c53] at H
             have c53b0 := eq_true c53
             have c53b1 : decide ((ji50) ≤ (t268.length : Int)) = true := decide_eq_true c53
             clear c53
             obtain ⟨y285, hy285⟩ : ∃ y_ : List (S47), y_ = (t268.take ((ji50) : Int).toNat) := ⟨_, rfl⟩
             replace H : ((iceboxref1_Pairs.f k2 t282 y285).bind fun t289 => (if t289 = true then ((merge_View.f k2 t263 (wrap64 (a1)) ((⟨#[107, 101, 121]⟩ : ByteArray) ++ t266) x13_13 true (wrap64 (a4))).bind fun t290 => (if (ji50) ≤ (t271.length : Int) then ((iceboxref1_Pairs.f k2 t290 (t271.take ((ji50) : Int).toNat)).bind fun t297 => (if t297 = true then ((iceboxlaw15_awake.f k2).bind fun t298 => (some t298)) else (some false))) else (none))) else (some false))) = some r := by first | (rw [hy285]; with_reducible exact H) | (have H2_ := (Option.bind_some _ _).symm.trans H; rw [hy285]; with_reducible exact H2_) | (have H2_ := (Option.bind_some _ _).symm.trans H; with_reducible exact H2_) | with_reducible exact H | (rw [hy285]; exact H) | exact H
             have Ny285 := Aside0.mk hy285
             clear hy285
             replace H := Option.bind_eq_some_iff.mp H
             obtain ⟨t289, A540, H⟩ := H
             replace H : (if t289 = true then ((merge_View.f k2 t263 (wrap64 (a1)) ((⟨#[107, 101, 121]⟩ : ByteArray) ++ t266) x13_13 true (wrap64 (a4))).bind fun t290 => (if (ji50) ≤ (t271.length : Int) then ((iceboxref1_Pairs.f k2 t290 (t271.take ((ji50) : Int).toNat)).bind fun t297 => (if t297 = true then ((iceboxlaw15_awake.f k2).bind fun t298 => (some t298)) else (some false))) else (none))) else (some false)) = some r := H
             have A54 := Aside0.mk A540
             clear A540
             by_cases c55 : t289 = true
             ·
              subst c55
              have H1 : ((merge_View.f k2 t263 (wrap64 (a1)) ((⟨#[107, 101, 121]⟩ : ByteArray) ++ t266) x13_13 true (wrap64 (a4))).bind fun t290 => (if (ji50) ≤ (t271.length : Int) then ((iceboxref1_Pairs.f k2 t290 (t271.take ((ji50) : Int).toNat)).bind fun t297 => (if t297 = true then ((iceboxlaw15_awake.f k2).bind fun t298 => (some t298)) else (some false))) else (none))) = some r := by rw [if_pos rfl] at H; exact H
              clear H
              have H := H1
              clear H1
              replace H := Option.bind_eq_some_iff.mp H
              obtain ⟨t290, A560, H⟩ := H
              replace H : (if (ji50) ≤ (t271.length : Int) then ((iceboxref1_Pairs.f k2 t290 (t271.take ((ji50) : Int).toNat)).bind fun t297 => (if t297 = true then ((iceboxlaw15_awake.f k2).bind fun t298 => (some t298)) else (some false))) else (none)) = some r := H
              have A56 := Aside0.mk A560
              clear A560
              have c57b0 := eq_true (of_decide_eq_true (by first | (with_reducible assumption) | assumption) : 0 ≤ (ji50))
              by_cases c58 : (ji50) ≤ (t271.length : Int)
              ·
               rw [if_pos c58] at H
               have c58b0 := eq_true c58
               have c58b1 : decide ((ji50) ≤ (t271.length : Int)) = true := decide_eq_true c58
               clear c58
               obtain ⟨y293, hy293⟩ : ∃ y_ : List (S47), y_ = (t271.take ((ji50) : Int).toNat) := ⟨_, rfl⟩
               replace H : ((iceboxref1_Pairs.f k2 t290 y293).bind fun t297 => (if t297 = true then ((iceboxlaw15_awake.f k2).bind fun t298 => (some t298)) else (some false))) = some r := by first | (rw [hy293]; with_reducible exact H) | (have H2_ := (Option.bind_some _ _).symm.trans H; rw [hy293]; with_reducible exact H2_) | (have H2_ := (Option.bind_some _ _).symm.trans H; with_reducible exact H2_) | with_reducible exact H | (rw [hy293]; exact H) | exact H
               have Ny293 := Aside0.mk hy293
               clear hy293
               replace H := Option.bind_eq_some_iff.mp H
               obtain ⟨t297, A590, H⟩ := H
               replace H : (if t297 = true then ((iceboxlaw15_awake.f k2).bind fun t298 => (some t298)) else (some false)) = some r := H
               have A59 := Aside0.mk A590
               clear A590
               by_cases c60 : t297 = true
               ·
                subst c60
                have H1 : ((iceboxlaw15_awake.f k2).bind fun t298 => (some t298)) = some r := by rw [if_pos rfl] at H; exact H
                clear H
                have H := H1
                clear H1
                replace H := Option.bind_eq_some_iff.mp H
                obtain ⟨t298, A610, H⟩ := H
                replace H : (some t298) = some r := H
                have A61 := Aside0.mk A610
                clear A610
                obtain rfl := Option.some.inj H
                try go_wp2
                have n0_ := Aside0.mk (Kd.R_drew HO_11.out)
                have n1_ := Aside0.mk (Kd.R_drew HO_14.out)
                have n2_ := Aside0.mk (Kd.R_drew HO_15.out)
                have n3_ := Aside0.mk (below_drew1 HB.out)
                clear HO_11
                clear HO_14
                clear HO_15
                clear HB
                have HO_11 := n0_
                have HO_14 := n1_
                have HO_15 := n2_
                have HB := n3_
                clear n0_ n1_ n2_ n3_
                have q63 : ((ji50) : Int) ≤ ((t268.length : Int) : Int) := of_decide_eq_true (by first | (with_reducible assumption) | assumption)
                obtain ⟨i063, hi063, _, hsz63, _⟩ := info_parts info47
                have hroom63 : t268.length ≤ co25 := (Kd.R_reads' HO_14.out).2.1
                have hC63 : Kd.C k47 _ Ao25 t268.length t268 := (Kd.R_reads' HO_14.out).2.2
                have hcut63 := cut_to (P := Try.prog) 41 47 .i64 Try.underlying41 hi063 Ao25 t268.length co25 (ji50) (of_decide_eq_true (by first | (with_reducible assumption) | assumption)) q63 hroom63
                have hr63 := Kd.C_take (m := ((ji50) : Int).toNat) hC63 (by omega)
                have hy63 : y285.length = ((ji50) : Int).toNat := (by rw [Ny285.out, List.length_take]; omega)
                rw [← Ny285.out] at hr63
                rw [← hy63] at hcut63
                have HR288 := Aside0.mk hr63
                have HC288 := Aside0.mk (show y285.length ≤ co25 from by omega)
                clear hr63 hC63 hroom63 hi063 hsz63
                have KY63 := Aside0.mk hy63
                clear hy63
                have KL63 := Aside0.mk (show ((ji50) : Int).toNat ≤ t268.length from by omega)
                replace q63 := eq_true q63
                refine start_ (n := 30) (S := fun w' => True) (ds := []) b7_59 (by kernel_rfl) rfl rfl trivial (fun hHeld => ?_); refine with_tabW iceboxlaw15_MergeBack.tab16 iceboxlaw15_MergeBack.bits16 (fun HT_ HW_ => ?_)
                generalize wr.drew = w62 at HO_11 HO_14 HO_15 HB HR288 hHeld ⊢
                refine pure_ (i := 0) (N := some 118) (v := ?_) (a' := ?_) b7_60 rfl rfl (any_of HT_.out (by kernel_rfl)) (fun _ _ _ h => h) (Or.inl ⟨by rfl, ?_⟩) ?_ ?_
                rotate_left
                ·
                 intro w'
                 go_simp
                 with_reducible rfl
                rotate_left
                ·
                 simp only [Act.put, q1_, q2_, q3_, i64_w, i32_w]
                 rfl
                refine pure_ (i := 1) (N := some 119) (v := ?_) (a' := ?_) b7_61 rfl rfl (any_of HT_.out (by kernel_rfl)) (fun _ _ _ h => h) (Or.inl ⟨by rfl, ?_⟩) ?_ ?_
                rotate_left
                ·
                 intro w'
                 go_simp
                 with_reducible rfl
                rotate_left
                ·
                 simp only [Act.put, q1_, q2_, q3_, i64_w, i32_w]
                 rfl
                refine pure_ (i := 2) (N := some 120) (v := ?_) (a' := ?_) b7_62 rfl rfl (any_of HT_.out (by kernel_rfl)) (fun _ _ _ h => h) (Or.inl ⟨by rfl, ?_⟩) ?_ ?_
                rotate_left
                ·
                 intro w'
                 go_simp
                 with_reducible rfl
                rotate_left
                ·
                 simp only [Act.put, q1_, q2_, q3_, i64_w, i32_w]
                 rfl
                refine pure_ (i := 3) (N := some 121) (v := ?_) (a' := ?_) b7_63 rfl rfl (any_of HT_.out (by kernel_rfl)) (fun _ _ _ h => h) (Or.inl ⟨by rfl, ?_⟩) ?_ ?_
                rotate_left
                ·
                 intro w'
                 go_simp
                 with_reducible rfl
                rotate_left
                ·
                 simp only [Act.put, q1_, q2_, q3_, i64_w, i32_w]
                 rfl
                refine pure_ (i := 4) (N := some 122) (v := ?_) (a' := ?_) b7_64 rfl rfl (any_of HT_.out (by kernel_rfl)) (fun _ _ _ h => h) (Or.inl ⟨by rfl, ?_⟩) ?_ ?_
                rotate_left
                ·
                 intro w'
                 go_simp
                 with_reducible rfl
                rotate_left
                ·
                 simp only [Act.put, q1_, q2_, q3_, i64_w, i32_w]
                 rfl
                refine pure_ (i := 5) (N := some 123) (v := ?_) (a' := ?_) b7_65 rfl rfl (any_of HT_.out (by kernel_rfl)) (fun _ _ _ h => h) (Or.inl ⟨by rfl, ?_⟩) ?_ ?_
                rotate_left
                ·
                 intro w'
                 go_simp
                 with_reducible rfl
                rotate_left
                ·
                 simp only [Act.put, q1_, q2_, q3_, i64_w, i32_w]
                 rfl
                refine pure_ (i := 6) (N := some 124) (v := ?_) (a' := ?_) b7_66 rfl rfl (any_of HT_.out (by kernel_rfl)) (fun _ _ _ h => h) (Or.inl ⟨by rfl, ?_⟩) ?_ ?_
                rotate_left
                ·
                 intro w'
                 go_simp
                 with_reducible rfl
                rotate_left
                ·
                 simp only [Act.put, q1_, q2_, q3_, i64_w, i32_w]
                 rfl
                refine pure_ (i := 8) (N := some 126) (v := ?_) (a' := ?_) b7_67 rfl rfl (any_of HT_.out (by kernel_rfl)) (fun _ _ _ h => h) (Or.inl ⟨by rfl, ?_⟩) ?_ ?_
                rotate_left
                ·
                 intro w'
                 go_simp
                 with_reducible rfl
                rotate_left
                ·
                 simp only [Act.put, q1_, q2_, q3_, i64_w, i32_w]
                 rfl
                refine pure_ (i := 9) (N := some 127) (v := ?_) (a' := ?_) b7_68 rfl rfl (any_of HT_.out (by kernel_rfl)) (fun _ _ _ h => h) (Or.inl ⟨by rfl, ?_⟩) ?_ ?_
                rotate_left
                ·
                 intro w'
                 go_simp
                 with_reducible rfl
                rotate_left
                ·
                 simp only [Act.put, q1_, q2_, q3_, i64_w, i32_w]
                 rfl
                refine pure_ (i := 10) (N := some 128) (v := ?_) (a' := ?_) b7_69 rfl rfl (any_of HT_.out (by kernel_rfl)) (fun _ _ _ h => h) (Or.inl ⟨by rfl, ?_⟩) ?_ ?_
                rotate_left
                ·
                 intro w'
                 go_simp
                 with_reducible rfl
                rotate_left
                ·
                 simp only [Act.put, q1_, q2_, q3_, i64_w, i32_w]
                 rfl
                refine one_ (i := 7) (N := some 125) b7_70 rfl rfl (one_of HT_.out (by kernel_rfl)) (by decide) (fun K hK => ?_)
                refine goes_ Try.func27 (by kernel_rfl) rfl #[.slice Ao22 t263.length co22, .int .i64 (wrap64 (a1)), .string ((⟨#[107, 101, 121]⟩ : ByteArray) ++ t266), .string x13_13, .bool false, .int .i64 (wrap64 (a4))] (by rfl) rfl rfl (by (try simp only [List.map_toArray, List.map_cons, List.map_nil]); first | done | rfl | (simp only [List.length_drop, List.length_take]; rfl)) ?_
                with_reducible refine (merge_View.calls k2 _ _ t263 (wrap64 (a1)) ((⟨#[107, 101, 121]⟩ : ByteArray) ++ t266) x13_13 false (wrap64 (a4)) t282 _ ?side1 ?side2 A51.out).mono ?_
                (case side1 => repeat (first | exact (Kd.R_reads' HO_11.out).2.2 | (with_reducible refine Kd.C_alloc ?_ _) | (with_reducible refine Kd.C_drewN ?_ _) | (with_reducible refine Kd.C_drew ?_)))
                (case side2 => exact (Kd.R_reads' HO_11.out).2.1)
                rintro e w64 ⟨v283, rfl, ho0, hb⟩
                refine ⟨_, rfl, ?_⟩
                have n0_ := Aside0.mk (Kd.R_below (by (with_reducible repeat (first | apply Kd.R_alloc | apply Kd.R_drewN | apply Kd.R_drew)); exact HO_11.out) hb)
                have n1_ := Aside0.mk (Kd.R_elder' (by (with_reducible repeat (first | apply Kd.R_alloc | apply Kd.R_drewN | apply Kd.R_drew)); exact HO_14.out) (Kd.R_base ho0) hb)
                have n2_ := Aside0.mk (Kd.R_elder' (by (with_reducible repeat (first | apply Kd.R_alloc | apply Kd.R_drewN | apply Kd.R_drew)); exact HO_15.out) (Kd.R_base ho0) hb)
                have n3_ := Aside0.mk (Kd.R_lower (Kd.R_new' (Kd.R_new' ho0 (Kd.R_lt (by (with_reducible repeat (first | apply Kd.R_alloc | apply Kd.R_drewN | apply Kd.R_drew)); exact HO_14.out))) (Kd.R_lt (by (with_reducible repeat (first | apply Kd.R_alloc | apply Kd.R_drewN | apply Kd.R_drew)); exact HO_15.out))) (below_size (by repeat (first | (with_reducible first | exact HB.out | apply below_alloc | apply pw_below_drewN | apply below_drew1) | exact HB.out | exact Below.refl _ _))))
                have n4_ := Aside0.mk (Kd.C_below (by repeat (first | (with_reducible exact HR288.out) | (with_reducible refine Kd.C_alloc ?_ _) | (with_reducible refine Kd.C_drewN ?_ _) | (with_reducible refine Kd.C_drew ?_) | exact HR288.out)) hb)
                have n5_ := Aside0.mk (below_step (by repeat (first | (with_reducible first | exact HB.out | apply below_alloc | apply pw_below_drewN | apply below_drew1) | exact HB.out | exact Below.refl _ _)) hb)
                clear HO_11
                clear HO_14
                clear HO_15
                clear HR288
                clear HB
                have HO_11 := n0_
                have HO_14 := n1_
                have HO_15 := n2_
                have HO284 := n3_
                have HR288 := n4_
                have HB := n5_
                clear n0_ n1_ n2_ n3_ n4_ n5_
                (try clear hb)
                (try clear ho0)
                obtain ⟨Ao65, co65, eo65⟩ := Kd.R_slice HO284.out
                (first | subst eo65 | (injection eo65 with f1_ f2_ f3_; have f4_ := f1_.symm; have f5_ := f3_.symm; clear f1_ f2_ f3_; subst f4_; subst f5_))
                refine hK.out _ _ trivial (fun hHeld => ?_)
                clear hK K
                refine norm_ (a' := ?_) ?_ ?_
                rotate_left
                ·
                 show Act.put _ (some 125) _ = _
                 simp only [Act.put, q1_, q2_, q3_, i64_w, i32_w]
                 rfl
                refine one_ (i := 11) (N := some 129) b7_71 rfl rfl (one_of HT_.out (by kernel_rfl)) (by decide) (fun K hK => ?_)
                refine goes_ Try.func26 (by kernel_rfl) rfl #[.slice Ao65 t282.length co65, .slice Ao25 y285.length co25] (by rfl) rfl rfl (by (try simp only [List.map_toArray, List.map_cons, List.map_nil]); first | done | rfl | (simp only [List.length_drop, List.length_take]; rfl)) ?_
                with_reducible refine (iceboxref1_Pairs.calls k2 _ _ t282 _ _ y285 true _ ?side1 ?side2 ?side3 ?side4 A54.out).mono ?_
                (case side1 => repeat (first | exact (Kd.R_reads' HO284.out).2.2 | (with_reducible refine Kd.C_alloc ?_ _) | (with_reducible refine Kd.C_drewN ?_ _) | (with_reducible refine Kd.C_drew ?_)))
                (case side2 => exact (Kd.R_reads' HO284.out).2.1)
                (case side3 => repeat (first | exact (by repeat (first | (with_reducible exact HR288.out) | (with_reducible refine Kd.C_alloc ?_ _) | (with_reducible refine Kd.C_drewN ?_ _) | (with_reducible refine Kd.C_drew ?_) | exact HR288.out)) | (with_reducible refine Kd.C_alloc ?_ _) | (with_reducible refine Kd.C_drewN ?_ _) | (with_reducible refine Kd.C_drew ?_)))
                (case side4 => exact HC288.out)
                rintro e w' ⟨rfl, ⟨nd, rfl⟩⟩
                refine ⟨_, rfl, ?_⟩
                refine hK.out _ _ trivial (fun hHeld => ?_)
                clear hK K
                refine norm_ (a' := ?_) ?_ ?_
                rotate_left
                ·
                 show Act.put _ (some 129) _ = _
                 simp only [Act.put, q1_, q2_, q3_, i64_w, i32_w]
                 rfl
                refine pure_ (i := 12) (N := some 130) (v := ?_) (a' := ?_) b7_72 rfl rfl (any_of HT_.out (by kernel_rfl)) (fun _ _ _ h => h) (Or.inl ⟨by rfl, ?_⟩) ?_ ?_
                rotate_left
                ·
                 intro w'
                 go_simp
                 with_reducible rfl
                rotate_left
                ·
                 simp only [Act.put, q1_, q2_, q3_, i64_w, i32_w]
                 rfl
                refine pure_ (i := 13) (N := some 131) (v := ?_) (a' := ?_) b7_73 rfl rfl (any_of HT_.out (by kernel_rfl)) (fun _ _ _ h => h) (Or.inl ⟨by rfl, ?_⟩) ?_ ?_
                rotate_left
                ·
                 intro w'
                 go_simp
                 with_reducible rfl
                rotate_left
                ·
                 simp only [Act.put, q1_, q2_, q3_, i64_w, i32_w]
                 rfl
                refine pure_ (i := 14) (N := some 132) (v := ?_) (a' := ?_) b7_74 rfl rfl (any_of HT_.out (by kernel_rfl)) (fun _ _ _ h => h) (Or.inl ⟨by rfl, ?_⟩) ?_ ?_
                rotate_left
                ·
                 intro w'
                 go_simp
                 with_reducible rfl
                rotate_left
                ·
                 simp only [Act.put, q1_, q2_, q3_, i64_w, i32_w]
                 rfl
                refine pure_ (i := 15) (N := some 133) (v := ?_) (a' := ?_) b7_75 rfl rfl (any_of HT_.out (by kernel_rfl)) (fun _ _ _ h => h) (Or.inl ⟨by rfl, ?_⟩) ?_ ?_
                rotate_left
                ·
                 intro w'
                 go_simp
                 with_reducible rfl
                rotate_left
                ·
                 simp only [Act.put, q1_, q2_, q3_, i64_w, i32_w]
                 rfl
                refine pure_ (i := 16) (N := some 134) (v := ?_) (a' := ?_) b7_76 rfl rfl (any_of HT_.out (by kernel_rfl)) (fun _ _ _ h => h) (Or.inl ⟨by rfl, ?_⟩) ?_ ?_
                rotate_left
                ·
                 intro w'
                 go_simp
                 with_reducible rfl
                rotate_left
                ·
                 simp only [Act.put, q1_, q2_, q3_, i64_w, i32_w]
                 rfl
                refine pure_ (i := 17) (N := some 135) (v := ?_) (a' := ?_) b7_77 rfl rfl (any_of HT_.out (by kernel_rfl)) (fun _ _ _ h => h) (Or.inl ⟨by rfl, ?_⟩) ?_ ?_
                rotate_left
                ·
                 intro w'
                 go_simp
                 with_reducible rfl
                rotate_left
                ·
                 simp only [Act.put, q1_, q2_, q3_, i64_w, i32_w]
                 rfl
                refine pure_ (i := 18) (N := some 136) (v := ?_) (a' := ?_) b7_78 rfl rfl (any_of HT_.out (by kernel_rfl)) (fun _ _ _ h => h) (Or.inl ⟨by rfl, ?_⟩) ?_ ?_
                rotate_left
                ·
                 intro w'
                 go_simp
                 with_reducible rfl
                rotate_left
                ·
                 simp only [Act.put, q1_, q2_, q3_, i64_w, i32_w]
                 rfl
                refine pure_ (i := 19) (N := some 137) (v := ?_) (a' := ?_) b7_79 rfl rfl (any_of HT_.out (by kernel_rfl)) (fun _ _ _ h => h) (Or.inl ⟨by rfl, ?_⟩) ?_ ?_
                rotate_left
                ·
                 intro w'
                 go_simp
                 with_reducible rfl
                rotate_left
                ·
                 simp only [Act.put, q1_, q2_, q3_, i64_w, i32_w]
                 rfl
                refine pure_ (i := 21) (N := some 139) (v := ?_) (a' := ?_) b7_80 rfl rfl (any_of HT_.out (by kernel_rfl)) (fun _ _ _ h => h) (Or.inl ⟨by rfl, ?_⟩) ?_ ?_
                rotate_left
                ·
                 intro w'
                 go_simp
                 with_reducible rfl
                rotate_left
                ·
                 simp only [Act.put, q1_, q2_, q3_, i64_w, i32_w]
                 rfl
                refine pure_ (i := 22) (N := some 140) (v := ?_) (a' := ?_) b7_81 rfl rfl (any_of HT_.out (by kernel_rfl)) (fun _ _ _ h => h) (Or.inl ⟨by rfl, ?_⟩) ?_ ?_
                rotate_left
                ·
                 intro w'
                 go_simp
                 with_reducible rfl
                rotate_left
                ·
                 simp only [Act.put, q1_, q2_, q3_, i64_w, i32_w]
                 rfl
                have qx : ((ji50) : Int) ≤ ((t271.length : Int) : Int) := of_decide_eq_true (by first | (with_reducible assumption) | assumption)
                obtain ⟨ix, hix, _, hszx, _⟩ := info_parts info47
                have hcutx := cut_to (P := Try.prog) 41 47 .i64 Try.underlying41 hix Ao26 t271.length co26 (ji50) (of_decide_eq_true (by first | (with_reducible assumption) | assumption)) qx (Kd.R_reads' HO_15.out).2.1
                have hyx : y293.length = ((ji50) : Int).toNat := (by rw [Ny293.out, List.length_take]; omega)
                rw [← hyx] at hcutx
                clear hix hszx hyx
                refine pure_ (i := 23) (N := some 141) (v := ?_) (a' := ?_) b7_82 rfl rfl (any_of HT_.out (by kernel_rfl)) (fun _ _ _ h => h) (Or.inl ⟨by rfl, ?_⟩) ?_ ?_
                rotate_left
                ·
                 intro w'
                 go_simp
                 with_reducible rfl
                rotate_left
                ·
                 simp only [Act.put, q1_, q2_, q3_, i64_w, i32_w]
                 rfl
                refine one_ (i := 20) (N := some 138) b7_83 rfl rfl (one_of HT_.out (by kernel_rfl)) (by decide) (fun K hK => ?_)
                refine goes_ Try.func27 (by kernel_rfl) rfl #[.slice Ao22 t263.length co22, .int .i64 (wrap64 (a1)), .string ((⟨#[107, 101, 121]⟩ : ByteArray) ++ t266), .string x13_13, .bool true, .int .i64 (wrap64 (a4))] (by rfl) rfl rfl (by (try simp only [List.map_toArray, List.map_cons, List.map_nil]); first | done | rfl | (simp only [List.length_drop, List.length_take]; rfl)) ?_
                with_reducible refine (merge_View.calls k2 _ _ t263 (wrap64 (a1)) ((⟨#[107, 101, 121]⟩ : ByteArray) ++ t266) x13_13 true (wrap64 (a4)) t290 _ ?side1 ?side2 A56.out).mono ?_
                (case side1 => repeat (first | exact (Kd.R_reads' HO_11.out).2.2 | (with_reducible refine Kd.C_alloc ?_ _) | (with_reducible refine Kd.C_drewN ?_ _) | (with_reducible refine Kd.C_drew ?_)))
                (case side2 => exact (Kd.R_reads' HO_11.out).2.1)
                rintro e w66 ⟨v291, rfl, ho0, hb⟩
                refine ⟨_, rfl, ?_⟩
                have n0_ := Aside0.mk (Kd.R_below (by (with_reducible repeat (first | apply Kd.R_alloc | apply Kd.R_drewN | apply Kd.R_drew)); exact HO_11.out) hb)
                have n1_ := Aside0.mk (Kd.R_elder' (by (with_reducible repeat (first | apply Kd.R_alloc | apply Kd.R_drewN | apply Kd.R_drew)); exact HO_14.out) (Kd.R_base ho0) hb)
                have n2_ := Aside0.mk (Kd.R_elder' (by (with_reducible repeat (first | apply Kd.R_alloc | apply Kd.R_drewN | apply Kd.R_drew)); exact HO_15.out) (Kd.R_base ho0) hb)
                have n3_ := Aside0.mk (Kd.R_elder' (by (with_reducible repeat (first | apply Kd.R_alloc | apply Kd.R_drewN | apply Kd.R_drew)); exact HO284.out) (Kd.R_base ho0) hb)
                have n4_ := Aside0.mk (Kd.R_lower (Kd.R_new' (Kd.R_new' (Kd.R_new' ho0 (Kd.R_lt (by (with_reducible repeat (first | apply Kd.R_alloc | apply Kd.R_drewN | apply Kd.R_drew)); exact HO_14.out))) (Kd.R_lt (by (with_reducible repeat (first | apply Kd.R_alloc | apply Kd.R_drewN | apply Kd.R_drew)); exact HO_15.out))) (Kd.R_lt (by (with_reducible repeat (first | apply Kd.R_alloc | apply Kd.R_drewN | apply Kd.R_drew)); exact HO284.out))) (below_size (by repeat (first | (with_reducible first | exact HB.out | apply below_alloc | apply pw_below_drewN | apply below_drew1) | exact HB.out | exact Below.refl _ _))))
                have n5_ := Aside0.mk (Kd.C_below (by repeat (first | (with_reducible exact HR288.out) | (with_reducible refine Kd.C_alloc ?_ _) | (with_reducible refine Kd.C_drewN ?_ _) | (with_reducible refine Kd.C_drew ?_) | exact HR288.out)) hb)
                have n6_ := Aside0.mk (below_step (by repeat (first | (with_reducible first | exact HB.out | apply below_alloc | apply pw_below_drewN | apply below_drew1) | exact HB.out | exact Below.refl _ _)) hb)
                clear HO_11
                clear HO_14
                clear HO_15
                clear HO284
                clear HR288
                clear HB
                have HO_11 := n0_
                have HO_14 := n1_
                have HO_15 := n2_
                have HO284 := n3_
                have HO292 := n4_
                have HR288 := n5_
                have HB := n6_
                clear n0_ n1_ n2_ n3_ n4_ n5_ n6_
                (try clear hb)
                (try clear ho0)
                have q67 : ((ji50) : Int) ≤ ((t271.length : Int) : Int) := of_decide_eq_true (by first | (with_reducible assumption) | assumption)
                obtain ⟨i067, hi067, _, hsz67, _⟩ := info_parts info47
                have hroom67 : t271.length ≤ co26 := (Kd.R_reads' HO_15.out).2.1
                have hC67 : Kd.C k47 _ Ao26 t271.length t271 := (Kd.R_reads' HO_15.out).2.2
                have hcut67 := cut_to (P := Try.prog) 41 47 .i64 Try.underlying41 hi067 Ao26 t271.length co26 (ji50) (of_decide_eq_true (by first | (with_reducible assumption) | assumption)) q67 hroom67
                have hr67 := Kd.C_take (m := ((ji50) : Int).toNat) hC67 (by omega)
                have hy67 : y293.length = ((ji50) : Int).toNat := (by rw [Ny293.out, List.length_take]; omega)
                rw [← Ny293.out] at hr67
                rw [← hy67] at hcut67
                have HR296 := Aside0.mk hr67
                have HC296 := Aside0.mk (show y293.length ≤ co26 from by omega)
                clear hr67 hC67 hroom67 hi067 hsz67
                have KY67 := Aside0.mk hy67
                clear hy67
                have KL67 := Aside0.mk (show ((ji50) : Int).toNat ≤ t271.length from by omega)
                replace q67 := eq_true q67
                obtain ⟨Ao68, co68, eo68⟩ := Kd.R_slice HO292.out
                (first | subst eo68 | (injection eo68 with f1_ f2_ f3_; have f4_ := f1_.symm; have f5_ := f3_.symm; clear f1_ f2_ f3_; subst f4_; subst f5_))
                refine hK.out _ _ trivial (fun hHeld => ?_)
                clear hK K
                refine norm_ (a' := ?_) ?_ ?_
                rotate_left
                ·
                 show Act.put _ (some 138) _ = _
                 simp only [Act.put, q1_, q2_, q3_, i64_w, i32_w]
                 rfl
                refine one_ (i := 24) (N := some 142) b7_84 rfl rfl (one_of HT_.out (by kernel_rfl)) (by decide) (fun K hK => ?_)
                refine goes_ Try.func26 (by kernel_rfl) rfl #[.slice Ao68 t290.length co68, .slice Ao26 y293.length co26] (by rfl) rfl rfl (by (try simp only [List.map_toArray, List.map_cons, List.map_nil]); first | done | rfl | (simp only [List.length_drop, List.length_take]; rfl)) ?_
                with_reducible refine (iceboxref1_Pairs.calls k2 _ _ t290 _ _ y293 true _ ?side1 ?side2 ?side3 ?side4 A59.out).mono ?_
                (case side1 => repeat (first | exact (Kd.R_reads' HO292.out).2.2 | (with_reducible refine Kd.C_alloc ?_ _) | (with_reducible refine Kd.C_drewN ?_ _) | (with_reducible refine Kd.C_drew ?_)))
                (case side2 => exact (Kd.R_reads' HO292.out).2.1)
                (case side3 => repeat (first | exact (by repeat (first | (with_reducible exact HR296.out) | (with_reducible refine Kd.C_alloc ?_ _) | (with_reducible refine Kd.C_drewN ?_ _) | (with_reducible refine Kd.C_drew ?_) | exact HR296.out)) | (with_reducible refine Kd.C_alloc ?_ _) | (with_reducible refine Kd.C_drewN ?_ _) | (with_reducible refine Kd.C_drew ?_)))
                (case side4 => exact HC296.out)
                rintro e w' ⟨rfl, ⟨nd, rfl⟩⟩
                refine ⟨_, rfl, ?_⟩
                refine hK.out _ _ trivial (fun hHeld => ?_)
                clear hK K
                refine norm_ (a' := ?_) ?_ ?_
                rotate_left
                ·
                 show Act.put _ (some 142) _ = _
                 simp only [Act.put, q1_, q2_, q3_, i64_w, i32_w]
                 rfl
                refine pure_ (i := 25) (N := some 143) (v := ?_) (a' := ?_) b7_85 rfl rfl (any_of HT_.out (by kernel_rfl)) (fun _ _ _ h => h) (Or.inl ⟨by rfl, ?_⟩) ?_ ?_
                rotate_left
                ·
                 intro w'
                 go_simp
                 with_reducible rfl
                rotate_left
                ·
                 simp only [Act.put, q1_, q2_, q3_, i64_w, i32_w]
                 rfl
                refine pure_ (i := 26) (N := some 144) (v := ?_) (a' := ?_) b7_86 rfl rfl (any_of HT_.out (by kernel_rfl)) (fun _ _ _ h => h) (Or.inl ⟨by rfl, ?_⟩) ?_ ?_
                rotate_left
                ·
                 intro w'
                 go_simp
                 with_reducible rfl
                rotate_left
                ·
                 simp only [Act.put, q1_, q2_, q3_, i64_w, i32_w]
                 rfl
                refine one_ (i := 27) (N := some 145) b7_87 rfl rfl (one_of HT_.out (by kernel_rfl)) (by decide) (fun K hK => ?_)
                refine goes_ Try.func21 (by kernel_rfl) rfl #[] (by rfl) rfl rfl (by (try simp only [List.map_toArray, List.map_cons, List.map_nil]); first | done | rfl | (simp only [List.length_drop, List.length_take]; rfl)) ?_
                with_reducible refine (iceboxlaw15_awake.calls k2  t298 _ A61.out).mono ?_
                rintro e w69 ⟨rfl, hb⟩
                refine ⟨_, rfl, ?_⟩
                have n0_ := Aside0.mk (Kd.R_below (by (with_reducible repeat (first | apply Kd.R_alloc | apply Kd.R_drewN | apply Kd.R_drew)); exact HO_11.out) hb)
                have n1_ := Aside0.mk (Kd.R_below (by (with_reducible repeat (first | apply Kd.R_alloc | apply Kd.R_drewN | apply Kd.R_drew)); exact HO_14.out) hb)
                have n2_ := Aside0.mk (Kd.R_below (by (with_reducible repeat (first | apply Kd.R_alloc | apply Kd.R_drewN | apply Kd.R_drew)); exact HO_15.out) hb)
                have n3_ := Aside0.mk (Kd.R_below (by (with_reducible repeat (first | apply Kd.R_alloc | apply Kd.R_drewN | apply Kd.R_drew)); exact HO284.out) hb)
                have n4_ := Aside0.mk (Kd.R_below (by (with_reducible repeat (first | apply Kd.R_alloc | apply Kd.R_drewN | apply Kd.R_drew)); exact HO292.out) hb)
                have n5_ := Aside0.mk (Kd.C_below (by repeat (first | (with_reducible exact HR288.out) | (with_reducible refine Kd.C_alloc ?_ _) | (with_reducible refine Kd.C_drewN ?_ _) | (with_reducible refine Kd.C_drew ?_) | exact HR288.out)) hb)
                have n6_ := Aside0.mk (Kd.C_below (by repeat (first | (with_reducible exact HR296.out) | (with_reducible refine Kd.C_alloc ?_ _) | (with_reducible refine Kd.C_drewN ?_ _) | (with_reducible refine Kd.C_drew ?_) | exact HR296.out)) hb)
                have n7_ := Aside0.mk (below_step (by repeat (first | (with_reducible first | exact HB.out | apply below_alloc | apply pw_below_drewN | apply below_drew1) | exact HB.out | exact Below.refl _ _)) hb)
                clear HO_11
                clear HO_14
                clear HO_15
                clear HO284
                clear HO292
                clear HR288
                clear HR296
                clear HB
                have HO_11 := n0_
                have HO_14 := n1_
                have HO_15 := n2_
                have HO284 := n3_
                have HO292 := n4_
                have HR288 := n5_
                have HR296 := n6_
                have HB := n7_
                clear n0_ n1_ n2_ n3_ n4_ n5_ n6_ n7_
                (try clear hb)
                refine hK.out _ _ trivial (fun hHeld => ?_)
                clear hK K
                refine norm_ (a' := ?_) ?_ ?_
                rotate_left
                ·
                 show Act.put _ (some 145) _ = _
                 simp only [Act.put, q1_, q2_, q3_, i64_w, i32_w]
                 rfl
                refine pure_ (i := 28) (N := some 146) (v := ?_) (a' := ?_) b7_88 rfl rfl (any_of HT_.out (by kernel_rfl)) (fun _ _ _ h => h) (Or.inl ⟨by rfl, ?_⟩) ?_ ?_
                rotate_left
                ·
                 intro w'
                 go_simp
                 with_reducible rfl
                rotate_left
                ·
                 simp only [Act.put, q1_, q2_, q3_, i64_w, i32_w]
                 rfl
                refine pure_ (i := 29) (N := some 10) (v := ?_) (a' := ?_) b7_89 rfl rfl (any_of HT_.out (by kernel_rfl)) (fun _ _ _ h => h) (Or.inl ⟨by rfl, ?_⟩) ?_ ?_
                rotate_left
                ·
                 intro w'
                 go_simp
                 with_reducible rfl
                rotate_left
                ·
                 simp only [Act.put, q1_, q2_, q3_, i64_w, i32_w]
                 rfl
                refine done_ (done_of HT_.out (by kernel_rfl)) ?_
                try go_wp2
                go_ret
                exact ⟨by first | rfl | (simp [errW_none, errW_some] <;> rfl) | (simp only [← hji50]; first | rfl | (simp [errW_none, errW_some] <;> rfl)) | (simp [*, errW_none, errW_some] <;> rfl), by repeat (first | (with_reducible first | exact HB.out | apply below_alloc | apply pw_below_drewN | apply below_drew1) | exact HB.out | exact Below.refl _ _)⟩
               ·
                replace c60 := Bool.eq_false_iff.mpr c60
                subst c60
                have H1 : (some false) = some r := by rw [if_neg (show ¬ (false = true) by decide)] at H; exact H
                clear H
                have H := H1
                clear H1
                exact absurd ((Option.some.inj H).trans hR_.out) (by decide)
              ·
               rw [if_neg c58] at H
               exact absurd H (by simp)
             ·
              replace c55 := Bool.eq_false_iff.mpr c55
              subst c55
              have H1 : (some false) = some r := by rw [if_neg (show ¬ (false = true) by decide)] at H; exact H
              clear H
              have H := H1
              clear H1
              exact absurd ((Option.some.inj H).trans hR_.out) (by decide)
            ·
             rw [if_neg c53] at H
             exact absurd H (by simp)
           ·
            rw [if_neg c52] at H
            exact absurd H (by simp)
       ·
        rw [if_neg c21] at H
        have c21b0 : ((t268.length : Int) == (t271.length : Int)) = false := beq_eq_false_iff_ne.mpr c21
        have c21b1 : ((t268.length : Int) != (t271.length : Int)) = true := bne_iff_ne.mpr c21
        have c21b2 : (t268.length == t271.length) = false := by first | simpa using c21 | (simp at c21 ⊢; omega)
        exact absurd ((Option.some.inj H).trans hR_.out) (by decide)
   ·
    rw [if_neg c13] at H
    exact absurd H (by simp)
  ·
   rw [if_neg c11] at H
   exact absurd H (by simp)

/-- THE ONE PURE STATEMENT of iceboxlaw15_MergeBack: yours. -/
def iceboxlaw15_MergeBack.Pure : Prop := ∀ (l0 : List Int) (a1 : Int) (a2 : Int) (a3 : Int) (a4 : Int), l0.length ≤ maxLen → l0.length * 1 ≤ 140737488351232 → (∀ x ∈ l0, (Lit.int .u8 x).wf = true) → (Lit.int .u8 a1).wf = true → (Lit.int .u8 a2).wf = true → (Lit.int .u8 a3).wf = true → (Lit.int .u8 a4).wf = true → ∃ k, iceboxlaw15_MergeBack.f k l0 a1 a2 a3 a4 = some true
theorem iceboxlaw15_MergeBack.walk (P : iceboxlaw15_MergeBack.Pure) (a0 : Option Addr) (len0 cap0 : Nat) (z0 : List Int) (a1 : Int) (a2 : Int) (a3 : Int) (a4 : Int) (w : World) (w0 : (a0 = none ∧ len0 = 0 ∧ cap0 = 0 ∧ z0 = []) ∨ ∃ x, a0 = some x ∧ len0 ≤ cap0 ∧ cap0 ≤ maxLen ∧ z0.length = cap0 ∧ (∀ i, i < z0.length → w.cell? (x.add i) = some (.int .u8 (z0.getD i 0))) ∧ ∀ n ∈ z0, (Lit.int .u8 n).wf = true) (y0 : len0 * 1 ≤ 140737488351232) (w1 : (Lit.int .u8 a1).wf = true) (w2 : (Lit.int .u8 a2).wf = true) (w3 : (Lit.int .u8 a3).wf = true) (w4 : (Lit.int .u8 a4).wf = true) :
 Calls Try.prog 7 #[.slice a0 len0 cap0, .int .u8 a1, .int .u8 a2, .int .u8 a3, .int .u8 a4] w fun e w' => e = .returned (.bool true) ∧ Below w.heap.size w w' := by
 obtain ⟨l0, rfl, hr0, hm0, hw0, hc0⟩ := ReadsInt.ofRowC w0
 obtain ⟨k, h⟩ := P l0 a1 a2 a3 a4 hm0 y0 hw0 w1 w2 w3 w4
 refine (iceboxlaw15_MergeBack.calls k _ _ l0 a1 a2 a3 a4 true w ⟨rfl⟩ (Kd.C_of_reads (d := (0 : Int)) (h1 := fun _ => rfl) hr0) hc0 h).mono ?_
 rintro e w' ⟨rfl, hd⟩
 exact ⟨rfl, hd⟩

end Go.Proofs.Ytoomipmndapgnaa.PMergeBack
