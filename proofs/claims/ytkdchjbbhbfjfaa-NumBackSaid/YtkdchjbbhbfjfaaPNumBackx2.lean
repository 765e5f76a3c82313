/- The functions that a law reaches, as Lean functions, each with the contract that its Go code comes to just these answers. Written by a program of this claim's author (wip/mkprint.py). No conditions. -/
import Derived.Test.YtkdchjbbhbfjfaaPNumBackx0
import Derived.Test.YtkdchjbbhbfjfaaPNumBackx1
namespace Go.Proofs.Ytkdchjbbhbfjfaa.PNumBack
open Go.RowKit Go.Proofs.YtkdchjbbhbfjfaaW.PrintWords Go.Proofs.YtkdchjbbhbfjfaaW.PrintLast Go.Proofs.YtkdchjbbhbfjfaaW.PrintMore
attribute [local go_sem] max2_int min2_int max_two min_two max_three min_three max_four min_four   -- for this text's walks alone
set_option linter.unusedVariables false
set_option linter.unusedSimpArgs false

/-! ### iceboxlaw1_NumBack: function 9 -/
mutual
def iceboxlaw1_NumBack.j0 : Nat → Int → ByteArray → List Int → List Int → Bool → Option (Bool)
  | 0, _, _, _, _, _ => none
  | k + 1, x0, x1, x2, x3, x38 => if x38 = true then ((iceboxlaw1_awake.f k).bind fun t126 => (some t126)) else ((num_Put.f k (wrap64 (x0 / 2))).bind fun t127 => ((num_PutText.f k x1).bind fun t130 => ((some (([] : List Int) : List Int)).bind fun y133 => (if y133.length + x2.length < 140737488355328 then ((some (y133 ++ x2 : List Int)).bind fun y136 => (if y136.length + t127.length < 140737488355328 then ((some (y136 ++ t127 : List Int)).bind fun y139 => (if y139.length + x3.length < 140737488355328 then ((some (([] : List Int) : List Int)).bind fun y145 => (if y145.length + x2.length < 140737488355328 then ((some (y145 ++ x2 : List Int)).bind fun y148 => (if y148.length + t130.length < 140737488355328 then ((some (y148 ++ t130 : List Int)).bind fun y151 => (if y151.length + x3.length < 140737488355328 then ((num_Get.f k (y139 ++ x3) (x2.length : Int)).bind fun bt157 => ((num_GetText.f k (y151 ++ x3) (x2.length : Int)).bind fun bt160 => (if (t127.length : Int) = 0 then (iceboxlaw1_NumBack.j1 k x1 x2 (wrap64 (x0 / 2)) t127 t130 bt157.1 bt157.2.1 bt157.2.2 bt160.1 bt160.2.1 bt160.2.2 true) else (iceboxlaw1_NumBack.j1 k x1 x2 (wrap64 (x0 / 2)) t127 t130 bt157.1 bt157.2.1 bt157.2.2 bt160.1 bt160.2.1 bt160.2.2 ((t130.length : Int) == 0))))) else (none))) else (none))) else (none))) else (none))) else (none))) else (none)))))
def iceboxlaw1_NumBack.j1 : Nat → ByteArray → List Int → Int → List Int → List Int → Int → Int → Bool → ByteArray → Int → Bool → Bool → Option (Bool)
  | 0, _, _, _, _, _, _, _, _, _, _, _, _ => none
  | k + 1, x1, x2, x9, x10, x11, x14, x15, x16, x17, x18, x19, x84 => if x84 = true then (some false) else (if 0 ≤ (wrap64 ((x10.length : Int) - 1)) then (if (wrap64 ((x10.length : Int) - 1)) ≤ (x10.length : Int) then ((num_Get.f k (x10.take ((wrap64 ((x10.length : Int) - 1)) : Int).toNat) 0).bind fun bt167 => (if 0 ≤ (wrap64 ((x11.length : Int) - 1)) then (if (wrap64 ((x11.length : Int) - 1)) ≤ (x11.length : Int) then ((num_GetText.f k (x11.take ((wrap64 ((x11.length : Int) - 1)) : Int).toNat) 0).bind fun bt174 => (if x16 = true then (if x14 = x9 then (if x15 = (wrap64 ((x2.length : Int) + (x10.length : Int))) then (if x19 = true then (if x17.toList = x1.toList then (if x18 = (wrap64 ((x2.length : Int) + (x11.length : Int))) then (if bt167.2.2 = true then (some false) else (if bt174.2.2 = true then (some false) else ((iceboxlaw1_awake.f k).bind fun t177 => (some t177)))) else (some false)) else (some false)) else (some false)) else (some false)) else (some false)) else (some false))) else (none)) else (none))) else (none)) else (none))
end
def iceboxlaw1_NumBack.f (k : Nat) (a0 : Int) (a1 : ByteArray) (l2 : List Int) (l3 : List Int) : Option (Bool) := if (a1.size : Int) > 500 then (iceboxlaw1_NumBack.j0 k a0 a1 l2 l3 true) else (if (l2.length : Int) > 100 then (iceboxlaw1_NumBack.j0 k a0 a1 l2 l3 true) else (iceboxlaw1_NumBack.j0 k a0 a1 l2 l3 (decide ((l3.length : Int) > 100))))
theorem iceboxlaw1_NumBack.mono_l : ∀ k, (∀ y0 y1 y2 y3 y4, LeO (iceboxlaw1_NumBack.j0 k y0 y1 y2 y3 y4) (iceboxlaw1_NumBack.j0 (k + 1) y0 y1 y2 y3 y4)) ∧ (∀ y0 y1 y2 y3 y4 y5 y6 y7 y8 y9 y10 y11, LeO (iceboxlaw1_NumBack.j1 k y0 y1 y2 y3 y4 y5 y6 y7 y8 y9 y10 y11) (iceboxlaw1_NumBack.j1 (k + 1) y0 y1 y2 y3 y4 y5 y6 y7 y8 y9 y10 y11))
  | 0 => ⟨fun _ _ _ _ _ r h => by simp [iceboxlaw1_NumBack.j0] at h, fun _ _ _ _ _ _ _ _ _ _ _ _ r h => by simp [iceboxlaw1_NumBack.j1] at h⟩
  | k + 1 => by
    obtain ⟨ih0, ih1⟩ := iceboxlaw1_NumBack.mono_l k
    refine ⟨?_, ?_⟩
    · intro y0 y1 y2 y3 y4
      unfold iceboxlaw1_NumBack.j0
      repeat' first
      | (with_reducible exact ih0 _ _ _ _ _)
      | (with_reducible exact ih1 _ _ _ _ _ _ _ _ _ _ _ _)
      | (with_reducible exact iceboxlaw1_awake.mono _)
      | (with_reducible exact num_Get.mono _ _ _)
      | (with_reducible exact num_GetText.mono _ _ _)
      | (with_reducible exact num_Put.mono _ _)
      | (with_reducible exact num_PutText.mono _ _)
      | (with_reducible exact LeO.refl _)
      | (with_reducible exact LeO.none _)
      | (with_reducible refine LeO.ite ?_ ?_)
      | (with_reducible refine LeO.bind ?_ (fun _ => ?_))
      | exact ih0 _ _ _ _ _
      | exact ih1 _ _ _ _ _ _ _ _ _ _ _ _
      | exact iceboxlaw1_awake.mono _
      | exact num_Get.mono _ _ _
      | exact num_GetText.mono _ _ _
      | exact num_Put.mono _ _
      | exact num_PutText.mono _ _
      | exact LeO.none _
      | refine LeO.ite ?_ ?_
      | refine LeO.bind ?_ (fun _ => ?_)
    · intro y0 y1 y2 y3 y4 y5 y6 y7 y8 y9 y10 y11
      unfold iceboxlaw1_NumBack.j1
      repeat' first
      | (with_reducible exact ih0 _ _ _ _ _)
      | (with_reducible exact ih1 _ _ _ _ _ _ _ _ _ _ _ _)
      | (with_reducible exact iceboxlaw1_awake.mono _)
      | (with_reducible exact num_Get.mono _ _ _)
      | (with_reducible exact num_GetText.mono _ _ _)
      | (with_reducible exact num_Put.mono _ _)
      | (with_reducible exact num_PutText.mono _ _)
      | (with_reducible exact LeO.refl _)
      | (with_reducible exact LeO.none _)
      | (with_reducible refine LeO.ite ?_ ?_)
      | (with_reducible refine LeO.bind ?_ (fun _ => ?_))
      | exact ih0 _ _ _ _ _
      | exact ih1 _ _ _ _ _ _ _ _ _ _ _ _
      | exact iceboxlaw1_awake.mono _
      | exact num_Get.mono _ _ _
      | exact num_GetText.mono _ _ _
      | exact num_Put.mono _ _
      | exact num_PutText.mono _ _
      | exact LeO.none _
      | refine LeO.ite ?_ ?_
      | refine LeO.bind ?_ (fun _ => ?_)
theorem iceboxlaw1_NumBack.mono : ∀ a0 a1 a2 a3 k, LeO (iceboxlaw1_NumBack.f k a0 a1 a2 a3) (iceboxlaw1_NumBack.f (k + 1) a0 a1 a2 a3) := by
  intro a0 a1 a2 a3 k
  obtain ⟨ih0, ih1⟩ := iceboxlaw1_NumBack.mono_l k
  unfold iceboxlaw1_NumBack.f
  repeat' first
      | (with_reducible exact ih0 _ _ _ _ _)
      | (with_reducible exact ih1 _ _ _ _ _ _ _ _ _ _ _ _)
      | (with_reducible exact iceboxlaw1_awake.mono _)
      | (with_reducible exact num_Get.mono _ _ _)
      | (with_reducible exact num_GetText.mono _ _ _)
      | (with_reducible exact num_Put.mono _ _)
      | (with_reducible exact num_PutText.mono _ _)
      | (with_reducible exact LeO.refl _)
      | (with_reducible exact LeO.none _)
      | (with_reducible refine LeO.ite ?_ ?_)
      | (with_reducible refine LeO.bind ?_ (fun _ => ?_))
      | exact ih0 _ _ _ _ _
      | exact ih1 _ _ _ _ _ _ _ _ _ _ _ _
      | exact iceboxlaw1_awake.mono _
      | exact num_Get.mono _ _ _
      | exact num_GetText.mono _ _ _
      | exact num_Put.mono _ _
      | exact num_PutText.mono _ _
      | exact LeO.none _
      | refine LeO.ite ?_ ?_
      | refine LeO.bind ?_ (fun _ => ?_)
set_option maxHeartbeats 8000000 in
set_option maxRecDepth 100000 in
theorem iceboxlaw1_NumBack.calls (k : Nat) (a0 : Int) (a1 : ByteArray) (A2 : Option Addr) (c2 : Nat) (l2 : List Int) (A3 : Option Addr) (c3 : Nat) (l3 : List Int) (r : Bool) (w : World) (hr2 : Kd.C (Kd.int .u8) w A2 l2.length l2) (hc2 : l2.length ≤ c2) (hr3 : Kd.C (Kd.int .u8) w A3 l3.length l3) (hc3 : l3.length ≤ c3) (h : iceboxlaw1_NumBack.f k a0 a1 l2 l3 = some r) :
    Calls Try.prog 9 #[.int .u64 a0, .string a1, .slice A2 l2.length c2, .slice A3 l3.length c3] w fun e w' => e = .returned (.bool r) ∧ Below w.heap.size w w' := by
  have HR2 := Aside0.mk hr2
  have HC2 := Aside0.mk hc2
  clear hr2 hc2
  have HR3 := Aside0.mk hr3
  have HC3 := Aside0.mk hc3
  clear hr3 hc3
  have HB := Aside0.mk (Below.refl w.heap.size w)
  have H : (if (a1.size : Int) > 500 then (iceboxlaw1_NumBack.j0 k a0 a1 l2 l3 true) else (if (l2.length : Int) > 100 then (iceboxlaw1_NumBack.j0 k a0 a1 l2 l3 true) else (iceboxlaw1_NumBack.j0 k a0 a1 l2 l3 (decide ((l3.length : Int) > 100))))) = some r := h
  clear h
  have HC5 := Aside0.mk H
  clear H
  go_enter Try.func9, Try.ntmps9
  go_upto_region 1 with (fail)
  go_cut [38] (fun v38 wc => ∃ (kq : Nat) (x38_4 : Bool), v38 = .bool x38_4 ∧ Aside0 (iceboxlaw1_NumBack.j0 kq a0 a1 l2 l3 x38_4 = some r) ∧ Aside0 (kq ≤ k) ∧ Aside0 (Below w.heap.size w wc))
  case first =>
    have H := HC5.out
    clear HC5
    by_cases c6 : (a1.size : Int) > 500
    · rw [if_pos c6] at H
      have c6b0 : decide (500 < (a1.size : Int)) = true := decide_eq_true c6
      have c6b1 : decide (500 < a1.size) = true := decide_eq_true (by omega)
      clear c6
      (first | rw [c6b0] | (simp only [i64_w, i32_w]; rw [c6b0]) | skip)
      have H' := Aside0.mk H
      clear H
      go_wp2
      go_meet
      case rel => exact ⟨_, (true), (by first | rfl | (simp; done) | (simp [*]; done)), H', ⟨by first | omega | exact Nat.le_refl _⟩, ⟨by repeat (first | (with_reducible first | exact HB.out | apply below_alloc | apply pw_below_drewN | apply below_drew1) | exact HB.out)⟩⟩
    · rw [if_neg c6] at H
      have c6b0 : decide (500 < (a1.size : Int)) = false := decide_eq_false c6
      have c6b1 : decide (500 < a1.size) = false := decide_eq_false (by omega)
      clear c6
      (first | rw [c6b0] | (simp only [i64_w, i32_w]; rw [c6b0]) | skip)
      by_cases c7 : (l2.length : Int) > 100
      · rw [if_pos c7] at H
        have c7b0 : decide (100 < (l2.length : Int)) = true := decide_eq_true c7
        have c7b1 : decide (100 < l2.length) = true := decide_eq_true (by omega)
        clear c7
        have H' := Aside0.mk H
        clear H
        go_wp2
        go_meet
        case rel => exact ⟨_, (true), (by first | rfl | (simp; done) | (simp [*]; done)), H', ⟨by first | omega | exact Nat.le_refl _⟩, ⟨by repeat (first | (with_reducible first | exact HB.out | apply below_alloc | apply pw_below_drewN | apply below_drew1) | exact HB.out)⟩⟩
      · rw [if_neg c7] at H
        have c7b0 : decide (100 < (l2.length : Int)) = false := decide_eq_false c7
        have c7b1 : decide (100 < l2.length) = false := decide_eq_false (by omega)
        clear c7
        have H' := Aside0.mk H
        clear H
        go_wp2
        go_meet
        case rel => exact ⟨_, (decide ((l3.length : Int) > 100)), (by first | rfl | (simp; done) | (simp [*]; done)), H', ⟨by first | omega | exact Nat.le_refl _⟩, ⟨by repeat (first | (with_reducible first | exact HB.out | apply below_alloc | apply pw_below_drewN | apply below_drew1) | exact HB.out)⟩⟩
  case rest =>
    clear HC5
    try clear c2
    try clear p2
    try clear c3
    try clear c6
    try clear c6b0
    try clear c6b1
    try clear c7
    try clear c7b0
    try clear c7b1
    obtain ⟨kq, x38_4, rfl, HA, HJ4, HB⟩ := hcut
    cases kq with
    | zero => exact absurd HA.out (by simp [iceboxlaw1_NumBack.j0])
    | succ kj4 =>
      have H := HA.out
      clear HA
      simp only [iceboxlaw1_NumBack.j0] at H
      by_cases c8 : x38_4 = true
      · subst c8
        have H1 : ((iceboxlaw1_awake.f kj4).bind fun t126 => (some t126)) = some r := by rw [if_pos rfl] at H; exact H
        clear H
        have H := H1
        clear H1
        replace H := Option.bind_eq_some_iff.mp H
        obtain ⟨t126, A90, H⟩ := H
        replace H : (some t126) = some r := H
        have A9 := Aside0.mk A90
        clear A90
        obtain rfl := Option.some.inj H
        go_wp2_with (first | ((with_reducible refine gate_callee (f := 22) rfl ?_); refine goesL_ (some 39) rfl rfl Try.func22 (by kernel_rfl) rfl #[] rfl (by (try simp only [List.map_toArray, List.map_cons, List.map_nil]); first | done | rfl | (simp only [List.length_drop, List.length_take]; rfl)) ?_; (with_reducible refine (iceboxlaw1_awake.calls kj4  t126 _ A9.out).mono ?_); rintro e w10 ⟨rfl, hb⟩; refine ⟨_, rfl, ?_⟩; have n0_ := Aside0.mk (below_step (by repeat (first | (with_reducible first | exact HB.out | apply below_alloc | apply pw_below_drewN | apply below_drew1) | exact HB.out)) hb); clear HB; have HB := n0_; clear n0_; (try clear hb); (try clear hb2); (try clear hk); (try clear hi)))
        go_ret
        exact ⟨by first | rfl | (simp [errW_none, errW_some] <;> rfl) | (simp [*, errW_none, errW_some] <;> rfl), by repeat (first | (with_reducible first | exact HB.out | apply below_alloc | apply pw_below_drewN | apply below_drew1) | exact HB.out)⟩
      · replace c8 := Bool.eq_false_iff.mpr c8
        subst c8
        have H1 : ((num_Put.f kj4 (wrap64 (a0 / 2))).bind fun t127 => ((num_PutText.f kj4 a1).bind fun t130 => ((some (([] : List Int) : List Int)).bind fun y133 => (if y133.length + l2.length < 140737488355328 then ((some (y133 ++ l2 : List Int)).bind fun y136 => (if y136.length + t127.length < 140737488355328 then ((some (y136 ++ t127 : List Int)).bind fun y139 => (if y139.length + l3.length < 140737488355328 then ((some (([] : List Int) : List Int)).bind fun y145 => (if y145.length + l2.length < 140737488355328 then ((some (y145 ++ l2 : List Int)).bind fun y148 => (if y148.length + t130.length < 140737488355328 then ((some (y148 ++ t130 : List Int)).bind fun y151 => (if y151.length + l3.length < 140737488355328 then ((num_Get.f kj4 (y139 ++ l3) (l2.length : Int)).bind fun bt157 => ((num_GetText.f kj4 (y151 ++ l3) (l2.length : Int)).bind fun bt160 => (if (t127.length : Int) = 0 then (iceboxlaw1_NumBack.j1 kj4 a1 l2 (wrap64 (a0 / 2)) t127 t130 bt157.1 bt157.2.1 bt157.2.2 bt160.1 bt160.2.1 bt160.2.2 true) else (iceboxlaw1_NumBack.j1 kj4 a1 l2 (wrap64 (a0 / 2)) t127 t130 bt157.1 bt157.2.1 bt157.2.2 bt160.1 bt160.2.1 bt160.2.2 ((t130.length : Int) == 0))))) else (none))) else (none))) else (none))) else (none))) else (none))) else (none))))) = some r := by rw [if_neg (show ¬ (false = true) by decide)] at H; exact H
        clear H
        have H := H1
        clear H1
        replace H := Option.bind_eq_some_iff.mp H
        obtain ⟨t127, A110, H⟩ := H
        replace H : ((num_PutText.f kj4 a1).bind fun t130 => ((some (([] : List Int) : List Int)).bind fun y133 => (if y133.length + l2.length < 140737488355328 then ((some (y133 ++ l2 : List Int)).bind fun y136 => (if y136.length + t127.length < 140737488355328 then ((some (y136 ++ t127 : List Int)).bind fun y139 => (if y139.length + l3.length < 140737488355328 then ((some (([] : List Int) : List Int)).bind fun y145 => (if y145.length + l2.length < 140737488355328 then ((some (y145 ++ l2 : List Int)).bind fun y148 => (if y148.length + t130.length < 140737488355328 then ((some (y148 ++ t130 : List Int)).bind fun y151 => (if y151.length + l3.length < 140737488355328 then ((num_Get.f kj4 (y139 ++ l3) (l2.length : Int)).bind fun bt157 => ((num_GetText.f kj4 (y151 ++ l3) (l2.length : Int)).bind fun bt160 => (if (t127.length : Int) = 0 then (iceboxlaw1_NumBack.j1 kj4 a1 l2 (wrap64 (a0 / 2)) t127 t130 bt157.1 bt157.2.1 bt157.2.2 bt160.1 bt160.2.1 bt160.2.2 true) else (iceboxlaw1_NumBack.j1 kj4 a1 l2 (wrap64 (a0 / 2)) t127 t130 bt157.1 bt157.2.1 bt157.2.2 bt160.1 bt160.2.1 bt160.2.2 ((t130.length : Int) == 0))))) else (none))) else (none))) else (none))) else (none))) else (none))) else (none)))) = some r := H
        have A11 := Aside0.mk A110
        clear A110
        replace H := Option.bind_eq_some_iff.mp H
        obtain ⟨t130, A120, H⟩ := H
        replace H : ((some (([] : List Int) : List Int)).bind fun y133 => (if y133.length + l2.length < 140737488355328 then ((some (y133 ++ l2 : List Int)).bind fun y136 => (if y136.length + t127.length < 140737488355328 then ((some (y136 ++ t127 : List Int)).bind fun y139 => (if y139.length + l3.length < 140737488355328 then ((some (([] : List Int) : List Int)).bind fun y145 => (if y145.length + l2.length < 140737488355328 then ((some (y145 ++ l2 : List Int)).bind fun y148 => (if y148.length + t130.length < 140737488355328 then ((some (y148 ++ t130 : List Int)).bind fun y151 => (if y151.length + l3.length < 140737488355328 then ((num_Get.f kj4 (y139 ++ l3) (l2.length : Int)).bind fun bt157 => ((num_GetText.f kj4 (y151 ++ l3) (l2.length : Int)).bind fun bt160 => (if (t127.length : Int) = 0 then (iceboxlaw1_NumBack.j1 kj4 a1 l2 (wrap64 (a0 / 2)) t127 t130 bt157.1 bt157.2.1 bt157.2.2 bt160.1 bt160.2.1 bt160.2.2 true) else (iceboxlaw1_NumBack.j1 kj4 a1 l2 (wrap64 (a0 / 2)) t127 t130 bt157.1 bt157.2.1 bt157.2.2 bt160.1 bt160.2.1 bt160.2.2 ((t130.length : Int) == 0))))) else (none))) else (none))) else (none))) else (none))) else (none))) else (none))) = some r := H
        have A12 := Aside0.mk A120
        clear A120
        obtain ⟨y133, hy133⟩ : ∃ y_ : List Int, y_ = (([] : List Int)) := ⟨_, rfl⟩
        replace H : (if y133.length + l2.length < 140737488355328 then ((some (y133 ++ l2 : List Int)).bind fun y136 => (if y136.length + t127.length < 140737488355328 then ((some (y136 ++ t127 : List Int)).bind fun y139 => (if y139.length + l3.length < 140737488355328 then ((some (([] : List Int) : List Int)).bind fun y145 => (if y145.length + l2.length < 140737488355328 then ((some (y145 ++ l2 : List Int)).bind fun y148 => (if y148.length + t130.length < 140737488355328 then ((some (y148 ++ t130 : List Int)).bind fun y151 => (if y151.length + l3.length < 140737488355328 then ((num_Get.f kj4 (y139 ++ l3) (l2.length : Int)).bind fun bt157 => ((num_GetText.f kj4 (y151 ++ l3) (l2.length : Int)).bind fun bt160 => (if (t127.length : Int) = 0 then (iceboxlaw1_NumBack.j1 kj4 a1 l2 (wrap64 (a0 / 2)) t127 t130 bt157.1 bt157.2.1 bt157.2.2 bt160.1 bt160.2.1 bt160.2.2 true) else (iceboxlaw1_NumBack.j1 kj4 a1 l2 (wrap64 (a0 / 2)) t127 t130 bt157.1 bt157.2.1 bt157.2.2 bt160.1 bt160.2.1 bt160.2.2 ((t130.length : Int) == 0))))) else (none))) else (none))) else (none))) else (none))) else (none))) else (none)) = some r := by first | (rw [hy133]; with_reducible exact H) | (have H2_ := (Option.bind_some _ _).symm.trans H; rw [hy133]; with_reducible exact H2_) | (have H2_ := (Option.bind_some _ _).symm.trans H; with_reducible exact H2_) | with_reducible exact H | (rw [hy133]; exact H) | exact H
        have Ny133 := Aside0.mk hy133
        clear hy133
        by_cases c13 : y133.length + l2.length < 140737488355328
        · rw [if_pos c13] at H
          have LMc13 := Aside0.mk c13
          clear c13
          obtain ⟨y136, hy136⟩ : ∃ y_ : List Int, y_ = (y133 ++ l2) := ⟨_, rfl⟩
          replace H : (if y136.length + t127.length < 140737488355328 then ((some (y136 ++ t127 : List Int)).bind fun y139 => (if y139.length + l3.length < 140737488355328 then ((some (([] : List Int) : List Int)).bind fun y145 => (if y145.length + l2.length < 140737488355328 then ((some (y145 ++ l2 : List Int)).bind fun y148 => (if y148.length + t130.length < 140737488355328 then ((some (y148 ++ t130 : List Int)).bind fun y151 => (if y151.length + l3.length < 140737488355328 then ((num_Get.f kj4 (y139 ++ l3) (l2.length : Int)).bind fun bt157 => ((num_GetText.f kj4 (y151 ++ l3) (l2.length : Int)).bind fun bt160 => (if (t127.length : Int) = 0 then (iceboxlaw1_NumBack.j1 kj4 a1 l2 (wrap64 (a0 / 2)) t127 t130 bt157.1 bt157.2.1 bt157.2.2 bt160.1 bt160.2.1 bt160.2.2 true) else (iceboxlaw1_NumBack.j1 kj4 a1 l2 (wrap64 (a0 / 2)) t127 t130 bt157.1 bt157.2.1 bt157.2.2 bt160.1 bt160.2.1 bt160.2.2 ((t130.length : Int) == 0))))) else (none))) else (none))) else (none))) else (none))) else (none)) = some r := by first | (rw [hy136]; with_reducible exact H) | (have H2_ := (Option.bind_some _ _).symm.trans H; rw [hy136]; with_reducible exact H2_) | (have H2_ := (Option.bind_some _ _).symm.trans H; with_reducible exact H2_) | with_reducible exact H | (rw [hy136]; exact H) | exact H
          have Ny136 := Aside0.mk hy136
          clear hy136
          by_cases c14 : y136.length + t127.length < 140737488355328
          · rw [if_pos c14] at H
            have LMc14 := Aside0.mk c14
            clear c14
            obtain ⟨y139, hy139⟩ : ∃ y_ : List Int, y_ = (y136 ++ t127) := ⟨_, rfl⟩
            replace H : (if y139.length + l3.length < 140737488355328 then ((some (([] : List Int) : List Int)).bind fun y145 => (if y145.length + l2.length < 140737488355328 then ((some (y145 ++ l2 : List Int)).bind fun y148 => (if y148.length + t130.length < 140737488355328 then ((some (y148 ++ t130 : List Int)).bind fun y151 => (if y151.length + l3.length < 140737488355328 then ((num_Get.f kj4 (y139 ++ l3) (l2.length : Int)).bind fun bt157 => ((num_GetText.f kj4 (y151 ++ l3) (l2.length : Int)).bind fun bt160 => (if (t127.length : Int) = 0 then (iceboxlaw1_NumBack.j1 kj4 a1 l2 (wrap64 (a0 / 2)) t127 t130 bt157.1 bt157.2.1 bt157.2.2 bt160.1 bt160.2.1 bt160.2.2 true) else (iceboxlaw1_NumBack.j1 kj4 a1 l2 (wrap64 (a0 / 2)) t127 t130 bt157.1 bt157.2.1 bt157.2.2 bt160.1 bt160.2.1 bt160.2.2 ((t130.length : Int) == 0))))) else (none))) else (none))) else (none))) else (none)) = some r := by first | (rw [hy139]; with_reducible exact H) | (have H2_ := (Option.bind_some _ _).symm.trans H; rw [hy139]; with_reducible exact H2_) | (have H2_ := (Option.bind_some _ _).symm.trans H; with_reducible exact H2_) | with_reducible exact H | (rw [hy139]; exact H) | exact H
            have Ny139 := Aside0.mk hy139
            clear hy139
            by_cases c15 : y139.length + l3.length < 140737488355328
            · rw [if_pos c15] at H
              have LMc15 := Aside0.mk c15
              clear c15
              obtain ⟨y142, hy142⟩ : ∃ y_ : List Int, y_ = (y139 ++ l3) := ⟨_, rfl⟩
              replace H : ((some (([] : List Int) : List Int)).bind fun y145 => (if y145.length + l2.length < 140737488355328 then ((some (y145 ++ l2 : List Int)).bind fun y148 => (if y148.length + t130.length < 140737488355328 then ((some (y148 ++ t130 : List Int)).bind fun y151 => (if y151.length + l3.length < 140737488355328 then ((num_Get.f kj4 y142 (l2.length : Int)).bind fun bt157 => ((num_GetText.f kj4 (y151 ++ l3) (l2.length : Int)).bind fun bt160 => (if (t127.length : Int) = 0 then (iceboxlaw1_NumBack.j1 kj4 a1 l2 (wrap64 (a0 / 2)) t127 t130 bt157.1 bt157.2.1 bt157.2.2 bt160.1 bt160.2.1 bt160.2.2 true) else (iceboxlaw1_NumBack.j1 kj4 a1 l2 (wrap64 (a0 / 2)) t127 t130 bt157.1 bt157.2.1 bt157.2.2 bt160.1 bt160.2.1 bt160.2.2 ((t130.length : Int) == 0))))) else (none))) else (none))) else (none))) = some r := by first | (rw [hy142]; with_reducible exact H) | (have H2_ := (Option.bind_some _ _).symm.trans H; rw [hy142]; with_reducible exact H2_) | (have H2_ := (Option.bind_some _ _).symm.trans H; with_reducible exact H2_) | with_reducible exact H | (rw [hy142]; exact H) | exact H
              have Ny142 := Aside0.mk hy142
              clear hy142
              obtain ⟨y145, hy145⟩ : ∃ y_ : List Int, y_ = (([] : List Int)) := ⟨_, rfl⟩
              replace H : (if y145.length + l2.length < 140737488355328 then ((some (y145 ++ l2 : List Int)).bind fun y148 => (if y148.length + t130.length < 140737488355328 then ((some (y148 ++ t130 : List Int)).bind fun y151 => (if y151.length + l3.length < 140737488355328 then ((num_Get.f kj4 y142 (l2.length : Int)).bind fun bt157 => ((num_GetText.f kj4 (y151 ++ l3) (l2.length : Int)).bind fun bt160 => (if (t127.length : Int) = 0 then (iceboxlaw1_NumBack.j1 kj4 a1 l2 (wrap64 (a0 / 2)) t127 t130 bt157.1 bt157.2.1 bt157.2.2 bt160.1 bt160.2.1 bt160.2.2 true) else (iceboxlaw1_NumBack.j1 kj4 a1 l2 (wrap64 (a0 / 2)) t127 t130 bt157.1 bt157.2.1 bt157.2.2 bt160.1 bt160.2.1 bt160.2.2 ((t130.length : Int) == 0))))) else (none))) else (none))) else (none)) = some r := by first | (rw [hy145]; with_reducible exact H) | (have H2_ := (Option.bind_some _ _).symm.trans H; rw [hy145]; with_reducible exact H2_) | (have H2_ := (Option.bind_some _ _).symm.trans H; with_reducible exact H2_) | with_reducible exact H | (rw [hy145]; exact H) | exact H
              have Ny145 := Aside0.mk hy145
              clear hy145
              by_cases c16 : y145.length + l2.length < 140737488355328
              · rw [if_pos c16] at H
                have LMc16 := Aside0.mk c16
                clear c16
                obtain ⟨y148, hy148⟩ : ∃ y_ : List Int, y_ = (y145 ++ l2) := ⟨_, rfl⟩
                replace H : (if y148.length + t130.length < 140737488355328 then ((some (y148 ++ t130 : List Int)).bind fun y151 => (if y151.length + l3.length < 140737488355328 then ((num_Get.f kj4 y142 (l2.length : Int)).bind fun bt157 => ((num_GetText.f kj4 (y151 ++ l3) (l2.length : Int)).bind fun bt160 => (if (t127.length : Int) = 0 then (iceboxlaw1_NumBack.j1 kj4 a1 l2 (wrap64 (a0 / 2)) t127 t130 bt157.1 bt157.2.1 bt157.2.2 bt160.1 bt160.2.1 bt160.2.2 true) else (iceboxlaw1_NumBack.j1 kj4 a1 l2 (wrap64 (a0 / 2)) t127 t130 bt157.1 bt157.2.1 bt157.2.2 bt160.1 bt160.2.1 bt160.2.2 ((t130.length : Int) == 0))))) else (none))) else (none)) = some r := by first | (rw [hy148]; with_reducible exact H) | (have H2_ := (Option.bind_some _ _).symm.trans H; rw [hy148]; with_reducible exact H2_) | (have H2_ := (Option.bind_some _ _).symm.trans H; with_reducible exact H2_) | with_reducible exact H | (rw [hy148]; exact H) | exact H
                have Ny148 := Aside0.mk hy148
                clear hy148
                by_cases c17 : y148.length + t130.length < 140737488355328
                · rw [if_pos c17] at H
                  have LMc17 := Aside0.mk c17
                  clear c17
                  obtain ⟨y151, hy151⟩ : ∃ y_ : List Int, y_ = (y148 ++ t130) := ⟨_, rfl⟩
                  replace H : (if y151.length + l3.length < 140737488355328 then ((num_Get.f kj4 y142 (l2.length : Int)).bind fun bt157 => ((num_GetText.f kj4 (y151 ++ l3) (l2.length : Int)).bind fun bt160 => (if (t127.length : Int) = 0 then (iceboxlaw1_NumBack.j1 kj4 a1 l2 (wrap64 (a0 / 2)) t127 t130 bt157.1 bt157.2.1 bt157.2.2 bt160.1 bt160.2.1 bt160.2.2 true) else (iceboxlaw1_NumBack.j1 kj4 a1 l2 (wrap64 (a0 / 2)) t127 t130 bt157.1 bt157.2.1 bt157.2.2 bt160.1 bt160.2.1 bt160.2.2 ((t130.length : Int) == 0))))) else (none)) = some r := by first | (rw [hy151]; with_reducible exact H) | (have H2_ := (Option.bind_some _ _).symm.trans H; rw [hy151]; with_reducible exact H2_) | (have H2_ := (Option.bind_some _ _).symm.trans H; with_reducible exact H2_) | with_reducible exact H | (rw [hy151]; exact H) | exact H
                  have Ny151 := Aside0.mk hy151
                  clear hy151
                  by_cases c18 : y151.length + l3.length < 140737488355328
                  · rw [if_pos c18] at H
                    have LMc18 := Aside0.mk c18
                    clear c18
                    obtain ⟨y154, hy154⟩ : ∃ y_ : List Int, y_ = (y151 ++ l3) := ⟨_, rfl⟩
                    replace H : ((num_Get.f kj4 y142 (l2.length : Int)).bind fun bt157 => ((num_GetText.f kj4 y154 (l2.length : Int)).bind fun bt160 => (if (t127.length : Int) = 0 then (iceboxlaw1_NumBack.j1 kj4 a1 l2 (wrap64 (a0 / 2)) t127 t130 bt157.1 bt157.2.1 bt157.2.2 bt160.1 bt160.2.1 bt160.2.2 true) else (iceboxlaw1_NumBack.j1 kj4 a1 l2 (wrap64 (a0 / 2)) t127 t130 bt157.1 bt157.2.1 bt157.2.2 bt160.1 bt160.2.1 bt160.2.2 ((t130.length : Int) == 0))))) = some r := by first | (rw [hy154]; with_reducible exact H) | (have H2_ := (Option.bind_some _ _).symm.trans H; rw [hy154]; with_reducible exact H2_) | (have H2_ := (Option.bind_some _ _).symm.trans H; with_reducible exact H2_) | with_reducible exact H | (rw [hy154]; exact H) | exact H
                    have Ny154 := Aside0.mk hy154
                    clear hy154
                    replace H := Option.bind_eq_some_iff.mp H
                    obtain ⟨⟨t157, t158, t159⟩, A190, H⟩ := H
                    replace H : ((num_GetText.f kj4 y154 (l2.length : Int)).bind fun bt160 => (if (t127.length : Int) = 0 then (iceboxlaw1_NumBack.j1 kj4 a1 l2 (wrap64 (a0 / 2)) t127 t130 t157 t158 t159 bt160.1 bt160.2.1 bt160.2.2 true) else (iceboxlaw1_NumBack.j1 kj4 a1 l2 (wrap64 (a0 / 2)) t127 t130 t157 t158 t159 bt160.1 bt160.2.1 bt160.2.2 ((t130.length : Int) == 0)))) = some r := H
                    have A19 := Aside0.mk A190
                    clear A190
                    replace H := Option.bind_eq_some_iff.mp H
                    obtain ⟨⟨t160, t161, t162⟩, A200, H⟩ := H
                    replace H : (if (t127.length : Int) = 0 then (iceboxlaw1_NumBack.j1 kj4 a1 l2 (wrap64 (a0 / 2)) t127 t130 t157 t158 t159 t160 t161 t162 true) else (iceboxlaw1_NumBack.j1 kj4 a1 l2 (wrap64 (a0 / 2)) t127 t130 t157 t158 t159 t160 t161 t162 ((t130.length : Int) == 0))) = some r := H
                    have A20 := Aside0.mk A200
                    clear A200
                    have HC21 := Aside0.mk H
                    clear H
                    go_upto_region 9 with (first | ((with_reducible refine gate_callee (f := 23) rfl ?_); refine goesL_ (some 44) rfl rfl Try.func23 (by kernel_rfl) rfl #[.int .i64 (wrap64 (a0 / 2))] rfl (by (try simp only [List.map_toArray, List.map_cons, List.map_nil]); first | done | rfl | (simp only [List.length_drop, List.length_take]; rfl)) ?_; (with_reducible refine (num_Put.calls kj4 (wrap64 (a0 / 2)) t127 _ A11.out).mono ?_); rintro e w22 ⟨v128, rfl, ho0, hb⟩; refine ⟨_, rfl, ?_⟩; have n0_ := Aside0.mk (Kd.R_lower ho0 (below_size (by repeat (first | (with_reducible first | exact HB.out | apply below_alloc | apply pw_below_drewN | apply below_drew1) | exact HB.out)))); have n1_ := Aside0.mk (below_step (by repeat (first | (with_reducible first | exact HB.out | apply below_alloc | apply pw_below_drewN | apply below_drew1) | exact HB.out)) hb); clear HB; have HO129 := n0_; have HB := n1_; clear n0_ n1_; (try clear hb); (try clear hb2); (try clear hk); (try clear hi); (try clear ho0)) | ((with_reducible refine gate_callee (f := 25) rfl ?_); refine goesL_ (some 46) rfl rfl Try.func25 (by kernel_rfl) rfl #[.string a1] rfl (by (try simp only [List.map_toArray, List.map_cons, List.map_nil]); first | done | rfl | (simp only [List.length_drop, List.length_take]; rfl)) ?_; (with_reducible refine (num_PutText.calls kj4 a1 t130 _ A12.out).mono ?_); rintro e w23 ⟨v131, rfl, ho0, hb⟩; refine ⟨_, rfl, ?_⟩; have n0_ := Aside0.mk (Kd.R_elder' (by (with_reducible repeat (first | apply Kd.R_alloc | apply Kd.R_drewN | apply Kd.R_drew)); exact HO129.out) (Kd.R_base ho0) hb); have n1_ := Aside0.mk (Kd.R_lower (Kd.R_new' ho0 (Kd.R_lt (by (with_reducible repeat (first | apply Kd.R_alloc | apply Kd.R_drewN | apply Kd.R_drew)); exact HO129.out))) (below_size (by repeat (first | (with_reducible first | exact HB.out | apply below_alloc | apply pw_below_drewN | apply below_drew1) | exact HB.out)))); have n2_ := Aside0.mk (below_step (by repeat (first | (with_reducible first | exact HB.out | apply below_alloc | apply pw_below_drewN | apply below_drew1) | exact HB.out)) hb); clear HO129; clear HB; have HO129 := n0_; have HO132 := n1_; have HB := n2_; clear n0_ n1_ n2_; (try clear hb); (try clear hb2); (try clear hk); (try clear hi); (try clear ho0)) | ((with_reducible refine gate_dst (N := 47) rfl ?_); (try (refine gate_guard (by rfl) ?_; dsimp only)); refine Kd.R_lit (Kd.int .u8) _ 5 ?hg (N := 47) ?hd (xs := ([] : List Int)) (inner := []) (ok := fun _ => True) (okp := fun _ => True) ?hr ?hp (fun _ hk => hk) trivial (Below.refl _ _) (Nat.le_refl _) (by simp) ?_; (case hd => rfl); (case hg => rfl); (case hr => first | (go_simp; done) | (go_simp; rfl)); (case hp => exact (Reps.none _ _)); intro v134 w24 ho25 hb hg_ hnew_; clear hg_ hnew_; (first | rw [← Ny133.out] at ho25 | (simp only [Int.reduceToNat] at ho25; rw [← Ny133.out] at ho25)); have n0_ := Aside0.mk (Kd.R_elder' (by (with_reducible repeat (first | apply Kd.R_alloc | apply Kd.R_drewN | apply Kd.R_drew)); exact HO129.out) (Kd.R_base ho25) hb); have n1_ := Aside0.mk (Kd.R_elder' (by (with_reducible repeat (first | apply Kd.R_alloc | apply Kd.R_drewN | apply Kd.R_drew)); exact HO132.out) (Kd.R_base ho25) hb); have n2_ := Aside0.mk (Kd.R_lower (Kd.R_new' (Kd.R_new' ho25 (Kd.R_lt (by (with_reducible repeat (first | apply Kd.R_alloc | apply Kd.R_drewN | apply Kd.R_drew)); exact HO129.out))) (Kd.R_lt (by (with_reducible repeat (first | apply Kd.R_alloc | apply Kd.R_drewN | apply Kd.R_drew)); exact HO132.out))) (below_size (by repeat (first | (with_reducible first | exact HB.out | apply below_alloc | apply pw_below_drewN | apply below_drew1) | exact HB.out)))); have n3_ := Aside0.mk (below_step (by repeat (first | (with_reducible first | exact HB.out | apply below_alloc | apply pw_below_drewN | apply below_drew1) | exact HB.out)) hb); clear HO129; clear HO132; clear HB; have HO129 := n0_; have HO132 := n1_; have HO135 := n2_; have HB := n3_; clear n0_ n1_ n2_ n3_; clear hb ho25) | ((with_reducible refine gate_builtin (b := .append) (xs := #[.tmp 47, .tmp 48]) rfl ?_); (try (refine gate_guard (by rfl) ?_; dsimp only)); at_builtin; refine Kd.R_append_rows (Kd.int .u8) (w0 := w) w.heap.size rfl (.tmp 47) (.tmp 48) 22 5 (.int .u8 0) 1 rfl Try.underlying22 info5 rfl (by decide) (by omega) v134 y133 l2 _ _ _ (fun k_ => some k_ ≠ (v128 : Value).ownBlock ∧ some k_ ≠ (v131 : Value).ownBlock) (fun _ => False) rfl rfl ?aO ?aR (fun _ _ h => h) (fun _ h => h.elim) ?aF ?aB ?aS ?aL ?_; (case aR => repeat (first | exact (Kd.C_below HR2.out HB.out) | (with_reducible refine Kd.C_alloc ?_ _) | (with_reducible refine Kd.C_drewN ?_ _) | (with_reducible refine Kd.C_drew ?_))); (case aB => exact (by repeat (first | (with_reducible first | exact HB.out | apply below_alloc | apply pw_below_drewN | apply below_drew1) | exact HB.out))); (case aF => exact (fun k_ hk => ⟨Kd.fresh' (Kd.R_lt (by (with_reducible repeat (first | apply Kd.R_alloc | apply Kd.R_drewN | apply Kd.R_drew)); exact HO129.out)) k_ hk, Kd.fresh' (Kd.R_lt (by (with_reducible repeat (first | apply Kd.R_alloc | apply Kd.R_drewN | apply Kd.R_drew)); exact HO132.out)) k_ hk⟩)); (case aO => exact (by (with_reducible repeat (first | apply Kd.R_alloc | apply Kd.R_drewN | apply Kd.R_drew)); exact Kd.R_mono HO135.out (fun _ hk => ⟨hk.1.2, hk.2⟩))); (case aS => exact (below_size (by repeat (first | (with_reducible first | exact HB.out | apply below_alloc | apply pw_below_drewN | apply below_drew1) | exact HB.out)))); (case aL => have := LMc13.out; omega); intro v137 w26 ho hb hg hat; rw [← Ny136.out] at ho; have n0_ := Aside0.mk (Kd.R_after (ok := (fun k_ => some k_ ≠ (v131 : Value).ownBlock)) (by (with_reducible repeat (first | apply Kd.R_alloc | apply Kd.R_drewN | apply Kd.R_drew)); exact Kd.R_mono HO129.out (fun _ hk => ⟨hk.1.2, hk.2⟩)) hg hat); have n1_ := Aside0.mk (Kd.R_after (ok := (fun k_ => some k_ ≠ (v128 : Value).ownBlock)) (by (with_reducible repeat (first | apply Kd.R_alloc | apply Kd.R_drewN | apply Kd.R_drew)); exact Kd.R_mono HO132.out (fun _ hk => ⟨hk.1.2, hk.2⟩)) hg hat); have n2_ := Aside0.mk (hb); have n3_ := Aside0.mk (ho); clear HO129; clear HO132; clear HB; clear HO135; have HO129 := n0_; have HO132 := n1_; have HB := n2_; have HO138 := n3_; clear n0_ n1_ n2_ n3_; clear ho hb hg hat; obtain ⟨Ao28, co28, eo28⟩ := Kd.R_slice HO129.out; subst eo28) | ((with_reducible refine gate_builtin (b := .append) (xs := #[.tmp 49, .tmp 50]) rfl ?_); (try (refine gate_guard (by rfl) ?_; dsimp only)); at_builtin; refine Kd.R_append_rows (Kd.int .u8) (w0 := w) w.heap.size rfl (.tmp 49) (.tmp 50) 22 5 (.int .u8 0) 1 rfl Try.underlying22 info5 rfl (by decide) (by omega) v137 y136 t127 _ _ _ (fun k_ => some k_ ≠ (.slice Ao28 t127.length co28 : Value).ownBlock ∧ some k_ ≠ (v131 : Value).ownBlock) (fun _ => False) rfl rfl ?aO ?aR (fun _ _ h => h) (fun _ h => h.elim) ?aF ?aB ?aS ?aL ?_; (case aR => repeat (first | exact (Kd.R_reads' HO129.out).2.2 | (with_reducible refine Kd.C_alloc ?_ _) | (with_reducible refine Kd.C_drewN ?_ _) | (with_reducible refine Kd.C_drew ?_))); (case aB => exact (by repeat (first | (with_reducible first | exact HB.out | apply below_alloc | apply pw_below_drewN | apply below_drew1) | exact HB.out))); (case aF => exact (fun k_ hk => ⟨Kd.fresh' (Kd.R_lt (by (with_reducible repeat (first | apply Kd.R_alloc | apply Kd.R_drewN | apply Kd.R_drew)); exact HO129.out)) k_ hk, Kd.fresh' (Kd.R_lt (by (with_reducible repeat (first | apply Kd.R_alloc | apply Kd.R_drewN | apply Kd.R_drew)); exact HO132.out)) k_ hk⟩)); (case aO => exact (by (with_reducible repeat (first | apply Kd.R_alloc | apply Kd.R_drewN | apply Kd.R_drew)); exact HO138.out)); (case aS => exact (below_size (by repeat (first | (with_reducible first | exact HB.out | apply below_alloc | apply pw_below_drewN | apply below_drew1) | exact HB.out)))); (case aL => have := LMc14.out; omega); intro v140 w27 ho hb hg hat; rw [← Ny139.out] at ho; have n0_ := Aside0.mk (Kd.R_after (ok := (fun k_ => some k_ ≠ (v131 : Value).ownBlock)) (by (with_reducible repeat (first | apply Kd.R_alloc | apply Kd.R_drewN | apply Kd.R_drew)); exact HO129.out) hg hat); have n1_ := Aside0.mk (Kd.R_after (ok := (fun k_ => some k_ ≠ (.slice Ao28 t127.length co28 : Value).ownBlock)) (by (with_reducible repeat (first | apply Kd.R_alloc | apply Kd.R_drewN | apply Kd.R_drew)); exact HO132.out) hg hat); have n2_ := Aside0.mk (hb); have n3_ := Aside0.mk (ho); clear HO129; clear HO132; clear HB; clear HO138; have HO129 := n0_; have HO132 := n1_; have HB := n2_; have HO141 := n3_; clear n0_ n1_ n2_ n3_; clear ho hb hg hat) | ((with_reducible refine gate_builtin (b := .append) (xs := #[.tmp 51, .tmp 52]) rfl ?_); (try (refine gate_guard (by rfl) ?_; dsimp only)); at_builtin; refine Kd.R_append_rows (Kd.int .u8) (w0 := w) w.heap.size rfl (.tmp 51) (.tmp 52) 22 5 (.int .u8 0) 1 rfl Try.underlying22 info5 rfl (by decide) (by omega) v140 y139 l3 _ _ _ (fun k_ => some k_ ≠ (.slice Ao28 t127.length co28 : Value).ownBlock ∧ some k_ ≠ (v131 : Value).ownBlock) (fun _ => False) rfl rfl ?aO ?aR (fun _ _ h => h) (fun _ h => h.elim) ?aF ?aB ?aS ?aL ?_; (case aR => repeat (first | exact (Kd.C_below HR3.out HB.out) | (with_reducible refine Kd.C_alloc ?_ _) | (with_reducible refine Kd.C_drewN ?_ _) | (with_reducible refine Kd.C_drew ?_))); (case aB => exact (by repeat (first | (with_reducible first | exact HB.out | apply below_alloc | apply pw_below_drewN | apply below_drew1) | exact HB.out))); (case aF => exact (fun k_ hk => ⟨Kd.fresh' (Kd.R_lt (by (with_reducible repeat (first | apply Kd.R_alloc | apply Kd.R_drewN | apply Kd.R_drew)); exact HO129.out)) k_ hk, Kd.fresh' (Kd.R_lt (by (with_reducible repeat (first | apply Kd.R_alloc | apply Kd.R_drewN | apply Kd.R_drew)); exact HO132.out)) k_ hk⟩)); (case aO => exact (by (with_reducible repeat (first | apply Kd.R_alloc | apply Kd.R_drewN | apply Kd.R_drew)); exact HO141.out)); (case aS => exact (below_size (by repeat (first | (with_reducible first | exact HB.out | apply below_alloc | apply pw_below_drewN | apply below_drew1) | exact HB.out)))); (case aL => have := LMc15.out; omega); intro v143 w29 ho hb hg hat; rw [← Ny142.out] at ho; have n0_ := Aside0.mk (Kd.R_after (ok := (fun k_ => some k_ ≠ (v131 : Value).ownBlock)) (by (with_reducible repeat (first | apply Kd.R_alloc | apply Kd.R_drewN | apply Kd.R_drew)); exact HO129.out) hg hat); have n1_ := Aside0.mk (Kd.R_after (ok := (fun k_ => some k_ ≠ (.slice Ao28 t127.length co28 : Value).ownBlock)) (by (with_reducible repeat (first | apply Kd.R_alloc | apply Kd.R_drewN | apply Kd.R_drew)); exact HO132.out) hg hat); have n2_ := Aside0.mk (hb); have n3_ := Aside0.mk (ho); clear HO129; clear HO132; clear HB; clear HO141; have HO129 := n0_; have HO132 := n1_; have HB := n2_; have HO144 := n3_; clear n0_ n1_ n2_ n3_; clear ho hb hg hat) | ((with_reducible refine gate_dst (N := 54) rfl ?_); (try (refine gate_guard (by rfl) ?_; dsimp only)); refine Kd.R_lit (Kd.int .u8) _ 5 ?hg (N := 54) ?hd (xs := ([] : List Int)) (inner := []) (ok := fun _ => True) (okp := fun _ => True) ?hr ?hp (fun _ hk => hk) trivial (Below.refl _ _) (Nat.le_refl _) (by simp) ?_; (case hd => rfl); (case hg => rfl); (case hr => first | (go_simp; done) | (go_simp; rfl)); (case hp => exact (Reps.none _ _)); intro v146 w30 ho31 hb hg_ hnew_; clear hg_ hnew_; (first | rw [← Ny145.out] at ho31 | (simp only [Int.reduceToNat] at ho31; rw [← Ny145.out] at ho31)); have n0_ := Aside0.mk (Kd.R_elder' (by (with_reducible repeat (first | apply Kd.R_alloc | apply Kd.R_drewN | apply Kd.R_drew)); exact HO129.out) (Kd.R_base ho31) hb); have n1_ := Aside0.mk (Kd.R_elder' (by (with_reducible repeat (first | apply Kd.R_alloc | apply Kd.R_drewN | apply Kd.R_drew)); exact HO132.out) (Kd.R_base ho31) hb); have n2_ := Aside0.mk (Kd.R_elder' (by (with_reducible repeat (first | apply Kd.R_alloc | apply Kd.R_drewN | apply Kd.R_drew)); exact HO144.out) (Kd.R_base ho31) hb); have n3_ := Aside0.mk (Kd.R_lower (Kd.R_new' (Kd.R_new' (Kd.R_new' ho31 (Kd.R_lt (by (with_reducible repeat (first | apply Kd.R_alloc | apply Kd.R_drewN | apply Kd.R_drew)); exact HO129.out))) (Kd.R_lt (by (with_reducible repeat (first | apply Kd.R_alloc | apply Kd.R_drewN | apply Kd.R_drew)); exact HO132.out))) (Kd.R_lt (by (with_reducible repeat (first | apply Kd.R_alloc | apply Kd.R_drewN | apply Kd.R_drew)); exact HO144.out))) (below_size (by repeat (first | (with_reducible first | exact HB.out | apply below_alloc | apply pw_below_drewN | apply below_drew1) | exact HB.out)))); have n4_ := Aside0.mk (below_step (by repeat (first | (with_reducible first | exact HB.out | apply below_alloc | apply pw_below_drewN | apply below_drew1) | exact HB.out)) hb); clear HO129; clear HO132; clear HO144; clear HB; have HO129 := n0_; have HO132 := n1_; have HO144 := n2_; have HO147 := n3_; have HB := n4_; clear n0_ n1_ n2_ n3_ n4_; clear hb ho31) | ((with_reducible refine gate_builtin (b := .append) (xs := #[.tmp 54, .tmp 55]) rfl ?_); (try (refine gate_guard (by rfl) ?_; dsimp only)); at_builtin; refine Kd.R_append_rows (Kd.int .u8) (w0 := w) w.heap.size rfl (.tmp 54) (.tmp 55) 22 5 (.int .u8 0) 1 rfl Try.underlying22 info5 rfl (by decide) (by omega) v146 y145 l2 _ _ _ (fun k_ => some k_ ≠ (.slice Ao28 t127.length co28 : Value).ownBlock ∧ some k_ ≠ (v131 : Value).ownBlock ∧ some k_ ≠ (v143 : Value).ownBlock) (fun _ => False) rfl rfl ?aO ?aR (fun _ _ h => h) (fun _ h => h.elim) ?aF ?aB ?aS ?aL ?_; (case aR => repeat (first | exact (Kd.C_below HR2.out HB.out) | (with_reducible refine Kd.C_alloc ?_ _) | (with_reducible refine Kd.C_drewN ?_ _) | (with_reducible refine Kd.C_drew ?_))); (case aB => exact (by repeat (first | (with_reducible first | exact HB.out | apply below_alloc | apply pw_below_drewN | apply below_drew1) | exact HB.out))); (case aF => exact (fun k_ hk => ⟨Kd.fresh' (Kd.R_lt (by (with_reducible repeat (first | apply Kd.R_alloc | apply Kd.R_drewN | apply Kd.R_drew)); exact HO129.out)) k_ hk, Kd.fresh' (Kd.R_lt (by (with_reducible repeat (first | apply Kd.R_alloc | apply Kd.R_drewN | apply Kd.R_drew)); exact HO132.out)) k_ hk, Kd.fresh' (Kd.R_lt (by (with_reducible repeat (first | apply Kd.R_alloc | apply Kd.R_drewN | apply Kd.R_drew)); exact HO144.out)) k_ hk⟩)); (case aO => exact (by (with_reducible repeat (first | apply Kd.R_alloc | apply Kd.R_drewN | apply Kd.R_drew)); exact Kd.R_mono HO147.out (fun _ hk => ⟨hk.1.1.2, ⟨hk.1.2, hk.2⟩⟩))); (case aS => exact (below_size (by repeat (first | (with_reducible first | exact HB.out | apply below_alloc | apply pw_below_drewN | apply below_drew1) | exact HB.out)))); (case aL => have := LMc16.out; omega); intro v149 w32 ho hb hg hat; rw [← Ny148.out] at ho; have n0_ := Aside0.mk (Kd.R_after (ok := (fun k_ => some k_ ≠ (v131 : Value).ownBlock ∧ some k_ ≠ (v143 : Value).ownBlock)) (by (with_reducible repeat (first | apply Kd.R_alloc | apply Kd.R_drewN | apply Kd.R_drew)); exact HO129.out) hg hat); have n1_ := Aside0.mk (Kd.R_after (ok := (fun k_ => some k_ ≠ (.slice Ao28 t127.length co28 : Value).ownBlock ∧ some k_ ≠ (v143 : Value).ownBlock)) (by (with_reducible repeat (first | apply Kd.R_alloc | apply Kd.R_drewN | apply Kd.R_drew)); exact HO132.out) hg hat); have n2_ := Aside0.mk (Kd.R_after (ok := (fun k_ => some k_ ≠ (.slice Ao28 t127.length co28 : Value).ownBlock ∧ some k_ ≠ (v131 : Value).ownBlock)) (by (with_reducible repeat (first | apply Kd.R_alloc | apply Kd.R_drewN | apply Kd.R_drew)); exact HO144.out) hg hat); have n3_ := Aside0.mk (hb); have n4_ := Aside0.mk (ho); clear HO129; clear HO132; clear HO144; clear HB; clear HO147; have HO129 := n0_; have HO132 := n1_; have HO144 := n2_; have HB := n3_; have HO150 := n4_; clear n0_ n1_ n2_ n3_ n4_; clear ho hb hg hat; obtain ⟨Ao34, co34, eo34⟩ := Kd.R_slice HO132.out; subst eo34) | ((with_reducible refine gate_builtin (b := .append) (xs := #[.tmp 56, .tmp 57]) rfl ?_); (try (refine gate_guard (by rfl) ?_; dsimp only)); at_builtin; refine Kd.R_append_rows (Kd.int .u8) (w0 := w) w.heap.size rfl (.tmp 56) (.tmp 57) 22 5 (.int .u8 0) 1 rfl Try.underlying22 info5 rfl (by decide) (by omega) v149 y148 t130 _ _ _ (fun k_ => some k_ ≠ (.slice Ao28 t127.length co28 : Value).ownBlock ∧ some k_ ≠ (.slice Ao34 t130.length co34 : Value).ownBlock ∧ some k_ ≠ (v143 : Value).ownBlock) (fun _ => False) rfl rfl ?aO ?aR (fun _ _ h => h) (fun _ h => h.elim) ?aF ?aB ?aS ?aL ?_; (case aR => repeat (first | exact (Kd.R_reads' HO132.out).2.2 | (with_reducible refine Kd.C_alloc ?_ _) | (with_reducible refine Kd.C_drewN ?_ _) | (with_reducible refine Kd.C_drew ?_))); (case aB => exact (by repeat (first | (with_reducible first | exact HB.out | apply below_alloc | apply pw_below_drewN | apply below_drew1) | exact HB.out))); (case aF => exact (fun k_ hk => ⟨Kd.fresh' (Kd.R_lt (by (with_reducible repeat (first | apply Kd.R_alloc | apply Kd.R_drewN | apply Kd.R_drew)); exact HO129.out)) k_ hk, Kd.fresh' (Kd.R_lt (by (with_reducible repeat (first | apply Kd.R_alloc | apply Kd.R_drewN | apply Kd.R_drew)); exact HO132.out)) k_ hk, Kd.fresh' (Kd.R_lt (by (with_reducible repeat (first | apply Kd.R_alloc | apply Kd.R_drewN | apply Kd.R_drew)); exact HO144.out)) k_ hk⟩)); (case aO => exact (by (with_reducible repeat (first | apply Kd.R_alloc | apply Kd.R_drewN | apply Kd.R_drew)); exact HO150.out)); (case aS => exact (below_size (by repeat (first | (with_reducible first | exact HB.out | apply below_alloc | apply pw_below_drewN | apply below_drew1) | exact HB.out)))); (case aL => have := LMc17.out; omega); intro v152 w33 ho hb hg hat; rw [← Ny151.out] at ho; have n0_ := Aside0.mk (Kd.R_after (ok := (fun k_ => some k_ ≠ (.slice Ao34 t130.length co34 : Value).ownBlock ∧ some k_ ≠ (v143 : Value).ownBlock)) (by (with_reducible repeat (first | apply Kd.R_alloc | apply Kd.R_drewN | apply Kd.R_drew)); exact HO129.out) hg hat); have n1_ := Aside0.mk (Kd.R_after (ok := (fun k_ => some k_ ≠ (.slice Ao28 t127.length co28 : Value).ownBlock ∧ some k_ ≠ (v143 : Value).ownBlock)) (by (with_reducible repeat (first | apply Kd.R_alloc | apply Kd.R_drewN | apply Kd.R_drew)); exact HO132.out) hg hat); have n2_ := Aside0.mk (Kd.R_after (ok := (fun k_ => some k_ ≠ (.slice Ao28 t127.length co28 : Value).ownBlock ∧ some k_ ≠ (.slice Ao34 t130.length co34 : Value).ownBlock)) (by (with_reducible repeat (first | apply Kd.R_alloc | apply Kd.R_drewN | apply Kd.R_drew)); exact HO144.out) hg hat); have n3_ := Aside0.mk (hb); have n4_ := Aside0.mk (ho); clear HO129; clear HO132; clear HO144; clear HB; clear HO150; have HO129 := n0_; have HO132 := n1_; have HO144 := n2_; have HB := n3_; have HO153 := n4_; clear n0_ n1_ n2_ n3_ n4_; clear ho hb hg hat) | ((with_reducible refine gate_builtin (b := .append) (xs := #[.tmp 58, .tmp 59]) rfl ?_); (try (refine gate_guard (by rfl) ?_; dsimp only)); at_builtin; refine Kd.R_append_rows (Kd.int .u8) (w0 := w) w.heap.size rfl (.tmp 58) (.tmp 59) 22 5 (.int .u8 0) 1 rfl Try.underlying22 info5 rfl (by decide) (by omega) v152 y151 l3 _ _ _ (fun k_ => some k_ ≠ (.slice Ao28 t127.length co28 : Value).ownBlock ∧ some k_ ≠ (.slice Ao34 t130.length co34 : Value).ownBlock ∧ some k_ ≠ (v143 : Value).ownBlock) (fun _ => False) rfl rfl ?aO ?aR (fun _ _ h => h) (fun _ h => h.elim) ?aF ?aB ?aS ?aL ?_; (case aR => repeat (first | exact (Kd.C_below HR3.out HB.out) | (with_reducible refine Kd.C_alloc ?_ _) | (with_reducible refine Kd.C_drewN ?_ _) | (with_reducible refine Kd.C_drew ?_))); (case aB => exact (by repeat (first | (with_reducible first | exact HB.out | apply below_alloc | apply pw_below_drewN | apply below_drew1) | exact HB.out))); (case aF => exact (fun k_ hk => ⟨Kd.fresh' (Kd.R_lt (by (with_reducible repeat (first | apply Kd.R_alloc | apply Kd.R_drewN | apply Kd.R_drew)); exact HO129.out)) k_ hk, Kd.fresh' (Kd.R_lt (by (with_reducible repeat (first | apply Kd.R_alloc | apply Kd.R_drewN | apply Kd.R_drew)); exact HO132.out)) k_ hk, Kd.fresh' (Kd.R_lt (by (with_reducible repeat (first | apply Kd.R_alloc | apply Kd.R_drewN | apply Kd.R_drew)); exact HO144.out)) k_ hk⟩)); (case aO => exact (by (with_reducible repeat (first | apply Kd.R_alloc | apply Kd.R_drewN | apply Kd.R_drew)); exact HO153.out)); (case aS => exact (below_size (by repeat (first | (with_reducible first | exact HB.out | apply below_alloc | apply pw_below_drewN | apply below_drew1) | exact HB.out)))); (case aL => have := LMc18.out; omega); intro v155 w35 ho hb hg hat; rw [← Ny154.out] at ho; have n0_ := Aside0.mk (Kd.R_after (ok := (fun k_ => some k_ ≠ (.slice Ao34 t130.length co34 : Value).ownBlock ∧ some k_ ≠ (v143 : Value).ownBlock)) (by (with_reducible repeat (first | apply Kd.R_alloc | apply Kd.R_drewN | apply Kd.R_drew)); exact HO129.out) hg hat); have n1_ := Aside0.mk (Kd.R_after (ok := (fun k_ => some k_ ≠ (.slice Ao28 t127.length co28 : Value).ownBlock ∧ some k_ ≠ (v143 : Value).ownBlock)) (by (with_reducible repeat (first | apply Kd.R_alloc | apply Kd.R_drewN | apply Kd.R_drew)); exact HO132.out) hg hat); have n2_ := Aside0.mk (Kd.R_after (ok := (fun k_ => some k_ ≠ (.slice Ao28 t127.length co28 : Value).ownBlock ∧ some k_ ≠ (.slice Ao34 t130.length co34 : Value).ownBlock)) (by (with_reducible repeat (first | apply Kd.R_alloc | apply Kd.R_drewN | apply Kd.R_drew)); exact HO144.out) hg hat); have n3_ := Aside0.mk (hb); have n4_ := Aside0.mk (ho); clear HO129; clear HO132; clear HO144; clear HB; clear HO153; have HO129 := n0_; have HO132 := n1_; have HO144 := n2_; have HB := n3_; have HO156 := n4_; clear n0_ n1_ n2_ n3_ n4_; clear ho hb hg hat; obtain ⟨Ao36, co36, eo36⟩ := Kd.R_slice HO144.out; subst eo36) | ((with_reducible refine gate_callee (f := 24) rfl ?_); refine goesL_ (some 65) rfl rfl Try.func24 (by kernel_rfl) rfl #[.slice Ao36 y142.length co36, .int .i64 (l2.length : Int)] rfl (by (try simp only [List.map_toArray, List.map_cons, List.map_nil]); first | done | rfl | (simp only [List.length_drop, List.length_take]; rfl)) ?_; (with_reducible refine (num_Get.calls kj4 _ _ y142 (l2.length : Int) t157 t158 t159 _ ?side1 ?side2 A19.out).mono ?_); (case side1 => repeat (first | exact (Kd.R_reads' HO144.out).2.2 | (with_reducible refine Kd.C_alloc ?_ _) | (with_reducible refine Kd.C_drewN ?_ _) | (with_reducible refine Kd.C_drew ?_))); (case side2 => exact (Kd.R_reads' HO144.out).2.1); rintro e w' ⟨rfl, ⟨nd, rfl⟩⟩; refine ⟨_, rfl, ?_⟩; obtain ⟨Ao37, co37, eo37⟩ := Kd.R_slice HO156.out; subst eo37) | ((with_reducible refine gate_callee (f := 26) rfl ?_); refine goesL_ (some 73) rfl rfl Try.func26 (by kernel_rfl) rfl #[.slice Ao37 y154.length co37, .int .i64 (l2.length : Int)] rfl (by (try simp only [List.map_toArray, List.map_cons, List.map_nil]); first | done | rfl | (simp only [List.length_drop, List.length_take]; rfl)) ?_; (with_reducible refine (num_GetText.calls kj4 _ _ y154 (l2.length : Int) t160 t161 t162 _ ?side1 ?side2 A20.out).mono ?_); (case side1 => repeat (first | exact (Kd.R_reads' HO156.out).2.2 | (with_reducible refine Kd.C_alloc ?_ _) | (with_reducible refine Kd.C_drewN ?_ _) | (with_reducible refine Kd.C_drew ?_))); (case side2 => exact (Kd.R_reads' HO156.out).2.1); rintro e w' ⟨rfl, ⟨nd, rfl⟩⟩; refine ⟨_, rfl, ?_⟩))
                    (try simp only [Act.put, List.setIfInBounds_toArray, List.set_cons_zero, List.set_cons_succ])
                    go_cut [84] (fun v84 wc => ∃ (kq : Nat) (x84_20 : Bool), v84 = .bool x84_20 ∧ Aside0 (iceboxlaw1_NumBack.j1 kq a1 l2 (wrap64 (a0 / 2)) t127 t130 t157 t158 t159 t160 t161 t162 x84_20 = some r) ∧ Aside0 (kq ≤ kj4) ∧ Aside0 (Kd.R (Kd.int .u8) 5 wc w.heap.size (fun k_ => some k_ ≠ ((.slice Ao34 t130.length co34) : Value).ownBlock) (.slice Ao28 t127.length co28) t127) ∧ Aside0 (Kd.R (Kd.int .u8) 5 wc w.heap.size (fun k_ => some k_ ≠ ((.slice Ao28 t127.length co28) : Value).ownBlock) (.slice Ao34 t130.length co34) t130) ∧ Aside0 (Below w.heap.size w wc))
                    case first =>
                      have H := HC21.out
                      clear HC21
                      by_cases c38 : (t127.length : Int) = 0
                      · rw [if_pos c38] at H
                        have c38b0 : ((t127.length : Int) == 0) = true := beq_iff_eq.mpr c38
                        have c38b1 : ((t127.length : Int) != 0) = false := bne_eq_false_iff_eq.mpr c38
                        clear c38
                        (first | rw [c38b0] | (simp only [i64_w, i32_w]; rw [c38b0]) | skip)
                        have H' := Aside0.mk H
                        clear H
                        go_wp2
                        go_meet
                        case rel => exact ⟨_, (true), (by first | rfl | (simp; done) | (simp [*]; done)), H', ⟨by have := HJ4.out; first | omega | exact Nat.le_refl _⟩, ⟨by (with_reducible repeat (first | apply Kd.R_alloc | apply Kd.R_drewN | apply Kd.R_drew)); exact Kd.R_mono HO129.out (fun _ hk => hk.1.1)⟩, ⟨by (with_reducible repeat (first | apply Kd.R_alloc | apply Kd.R_drewN | apply Kd.R_drew)); exact Kd.R_mono HO132.out (fun _ hk => hk.1.1)⟩, ⟨by repeat (first | (with_reducible first | exact HB.out | apply below_alloc | apply pw_below_drewN | apply below_drew1) | exact HB.out)⟩⟩
                      · rw [if_neg c38] at H
                        have c38b0 : ((t127.length : Int) == 0) = false := beq_eq_false_iff_ne.mpr c38
                        have c38b1 : ((t127.length : Int) != 0) = true := bne_iff_ne.mpr c38
                        have c38b2 : ¬ (t127 = []) := fun h_ => c38 (by rw [h_]; rfl)
                        (first | rw [c38b0] | (simp only [i64_w, i32_w]; rw [c38b0]) | skip)
                        have H' := Aside0.mk H
                        clear H
                        go_wp2
                        go_meet
                        case rel => exact ⟨_, (((t130.length : Int) == 0)), (by first | rfl | (simp; done) | (simp [*]; done)), H', ⟨by have := HJ4.out; first | omega | exact Nat.le_refl _⟩, ⟨by (with_reducible repeat (first | apply Kd.R_alloc | apply Kd.R_drewN | apply Kd.R_drew)); exact Kd.R_mono HO129.out (fun _ hk => hk.1.1)⟩, ⟨by (with_reducible repeat (first | apply Kd.R_alloc | apply Kd.R_drewN | apply Kd.R_drew)); exact Kd.R_mono HO132.out (fun _ hk => hk.1.1)⟩, ⟨by repeat (first | (with_reducible first | exact HB.out | apply below_alloc | apply pw_below_drewN | apply below_drew1) | exact HB.out)⟩⟩
                    case rest =>
                      clear HC21
                      try clear c1
                      try clear c2
                      try clear p2
                      try clear c3
                      try clear c6
                      try clear c6b0
                      try clear c6b1
                      try clear p6
                      try clear c7
                      try clear c7b0
                      try clear c7b1
                      try clear c8
                      try clear c9
                      try clear c13
                      try clear c14
                      try clear c15
                      try clear c16
                      try clear c17
                      try clear c18
                      try clear c22
                      try clear c23
                      try clear c24
                      try clear c25
                      try clear c26
                      try clear c38
                      try clear c38b0
                      try clear c38b1
                      try clear c38b2
                      try clear p2
                      obtain ⟨kq, x84_20, rfl, HA, HJ20, HO_10, HO_11, HB⟩ := hcut
                      cases kq with
                      | zero => exact absurd HA.out (by simp [iceboxlaw1_NumBack.j1])
                      | succ kj20 =>
                        have H := HA.out
                        clear HA
                        simp only [iceboxlaw1_NumBack.j1] at H
                        by_cases c39 : x84_20 = true
                        · subst c39
                          have H1 : (some false) = some r := by rw [if_pos rfl] at H; exact H
                          clear H
                          have H := H1
                          clear H1
                          obtain rfl := Option.some.inj H
                          go_wp2
                          go_ret
                          exact ⟨by first | rfl | (simp [errW_none, errW_some] <;> rfl) | (simp [*, errW_none, errW_some] <;> rfl), by repeat (first | (with_reducible first | exact HB.out | apply below_alloc | apply pw_below_drewN | apply below_drew1) | exact HB.out)⟩
                        · replace c39 := Bool.eq_false_iff.mpr c39
                          subst c39
                          have H1 : (if 0 ≤ (wrap64 ((t127.length : Int) - 1)) then (if (wrap64 ((t127.length : Int) - 1)) ≤ (t127.length : Int) then ((num_Get.f kj20 (t127.take ((wrap64 ((t127.length : Int) - 1)) : Int).toNat) 0).bind fun bt167 => (if 0 ≤ (wrap64 ((t130.length : Int) - 1)) then (if (wrap64 ((t130.length : Int) - 1)) ≤ (t130.length : Int) then ((num_GetText.f kj20 (t130.take ((wrap64 ((t130.length : Int) - 1)) : Int).toNat) 0).bind fun bt174 => (if t159 = true then (if t157 = (wrap64 (a0 / 2)) then (if t158 = (wrap64 ((l2.length : Int) + (t127.length : Int))) then (if t162 = true then (if t160.toList = a1.toList then (if t161 = (wrap64 ((l2.length : Int) + (t130.length : Int))) then (if bt167.2.2 = true then (some false) else (if bt174.2.2 = true then (some false) else ((iceboxlaw1_awake.f kj20).bind fun t177 => (some t177)))) else (some false)) else (some false)) else (some false)) else (some false)) else (some false)) else (some false))) else (none)) else (none))) else (none)) else (none)) = some r := by rw [if_neg (show ¬ (false = true) by decide)] at H; exact H
                          clear H
                          have H := H1
                          clear H1
                          obtain ⟨ji40, hji40⟩ : ∃ j_ : Int, (wrap64 ((t127.length : Int) - 1)) = j_ := ⟨_, rfl⟩
                          replace H : (if 0 ≤ (ji40) then (if (ji40) ≤ (t127.length : Int) then ((num_Get.f kj20 (t127.take ((ji40) : Int).toNat) 0).bind fun bt167 => (if 0 ≤ (wrap64 ((t130.length : Int) - 1)) then (if (wrap64 ((t130.length : Int) - 1)) ≤ (t130.length : Int) then ((num_GetText.f kj20 (t130.take ((wrap64 ((t130.length : Int) - 1)) : Int).toNat) 0).bind fun bt174 => (if t159 = true then (if t157 = (wrap64 (a0 / 2)) then (if t158 = (wrap64 ((l2.length : Int) + (t127.length : Int))) then (if t162 = true then (if t160.toList = a1.toList then (if t161 = (wrap64 ((l2.length : Int) + (t130.length : Int))) then (if bt167.2.2 = true then (some false) else (if bt174.2.2 = true then (some false) else ((iceboxlaw1_awake.f kj20).bind fun t177 => (some t177)))) else (some false)) else (some false)) else (some false)) else (some false)) else (some false)) else (some false))) else (none)) else (none))) else (none)) else (none)) = some r := by first | (rw [hji40] at H; exact H) | (simp only [hji40] at H ⊢; exact H)
                          have hji40w : (IntKind.i64.wrap ((t127.length : Int) - 1)) = ji40 := (i64_w _).trans hji40
                          by_cases c41 : 0 ≤ (ji40)
                          · rw [if_pos c41] at H
                            have c41b0 := eq_true c41
                            have c41b1 : decide (0 ≤ (ji40)) = true := decide_eq_true c41
                            clear c41
                            by_cases c42 : (ji40) ≤ (t127.length : Int)
                            · rw [if_pos c42] at H
                              have c42b0 := eq_true c42
                              have c42b1 : decide ((ji40) ≤ (t127.length : Int)) = true := decide_eq_true c42
                              clear c42
                              obtain ⟨y163, hy163⟩ : ∃ y_ : List Int, y_ = (t127.take ((ji40) : Int).toNat) := ⟨_, rfl⟩
                              replace H : ((num_Get.f kj20 y163 0).bind fun bt167 => (if 0 ≤ (wrap64 ((t130.length : Int) - 1)) then (if (wrap64 ((t130.length : Int) - 1)) ≤ (t130.length : Int) then ((num_GetText.f kj20 (t130.take ((wrap64 ((t130.length : Int) - 1)) : Int).toNat) 0).bind fun bt174 => (if t159 = true then (if t157 = (wrap64 (a0 / 2)) then (if t158 = (wrap64 ((l2.length : Int) + (t127.length : Int))) then (if t162 = true then (if t160.toList = a1.toList then (if t161 = (wrap64 ((l2.length : Int) + (t130.length : Int))) then (if bt167.2.2 = true then (some false) else (if bt174.2.2 = true then (some false) else ((iceboxlaw1_awake.f kj20).bind fun t177 => (some t177)))) else (some false)) else (some false)) else (some false)) else (some false)) else (some false)) else (some false))) else (none)) else (none))) = some r := by first | (rw [hy163]; with_reducible exact H) | (have H2_ := (Option.bind_some _ _).symm.trans H; rw [hy163]; with_reducible exact H2_) | (have H2_ := (Option.bind_some _ _).symm.trans H; with_reducible exact H2_) | with_reducible exact H | (rw [hy163]; exact H) | exact H
                              have Ny163 := Aside0.mk hy163
                              clear hy163
                              replace H := Option.bind_eq_some_iff.mp H
                              obtain ⟨⟨t167, t168, t169⟩, A430, H⟩ := H
                              replace H : (if 0 ≤ (wrap64 ((t130.length : Int) - 1)) then (if (wrap64 ((t130.length : Int) - 1)) ≤ (t130.length : Int) then ((num_GetText.f kj20 (t130.take ((wrap64 ((t130.length : Int) - 1)) : Int).toNat) 0).bind fun bt174 => (if t159 = true then (if t157 = (wrap64 (a0 / 2)) then (if t158 = (wrap64 ((l2.length : Int) + (t127.length : Int))) then (if t162 = true then (if t160.toList = a1.toList then (if t161 = (wrap64 ((l2.length : Int) + (t130.length : Int))) then (if t169 = true then (some false) else (if bt174.2.2 = true then (some false) else ((iceboxlaw1_awake.f kj20).bind fun t177 => (some t177)))) else (some false)) else (some false)) else (some false)) else (some false)) else (some false)) else (some false))) else (none)) else (none)) = some r := H
                              have A43 := Aside0.mk A430
                              clear A430
                              obtain ⟨ji44, hji44⟩ : ∃ j_ : Int, (wrap64 ((t130.length : Int) - 1)) = j_ := ⟨_, rfl⟩
                              replace H : (if 0 ≤ (ji44) then (if (ji44) ≤ (t130.length : Int) then ((num_GetText.f kj20 (t130.take ((ji44) : Int).toNat) 0).bind fun bt174 => (if t159 = true then (if t157 = (wrap64 (a0 / 2)) then (if t158 = (wrap64 ((l2.length : Int) + (t127.length : Int))) then (if t162 = true then (if t160.toList = a1.toList then (if t161 = (wrap64 ((l2.length : Int) + (t130.length : Int))) then (if t169 = true then (some false) else (if bt174.2.2 = true then (some false) else ((iceboxlaw1_awake.f kj20).bind fun t177 => (some t177)))) else (some false)) else (some false)) else (some false)) else (some false)) else (some false)) else (some false))) else (none)) else (none)) = some r := by first | (rw [hji44] at H; exact H) | (simp only [hji44] at H ⊢; exact H)
                              (try rw [hji44] at A43)
                              have hji44w : (IntKind.i64.wrap ((t130.length : Int) - 1)) = ji44 := (i64_w _).trans hji44
                              by_cases c45 : 0 ≤ (ji44)
                              · rw [if_pos c45] at H
                                have c45b0 := eq_true c45
                                have c45b1 : decide (0 ≤ (ji44)) = true := decide_eq_true c45
                                clear c45
                                by_cases c46 : (ji44) ≤ (t130.length : Int)
                                · rw [if_pos c46] at H
                                  have c46b0 := eq_true c46
                                  have c46b1 : decide ((ji44) ≤ (t130.length : Int)) = true := decide_eq_true c46
                                  clear c46
                                  obtain ⟨y170, hy170⟩ : ∃ y_ : List Int, y_ = (t130.take ((ji44) : Int).toNat) := ⟨_, rfl⟩
                                  replace H : ((num_GetText.f kj20 y170 0).bind fun bt174 => (if t159 = true then (if t157 = (wrap64 (a0 / 2)) then (if t158 = (wrap64 ((l2.length : Int) + (t127.length : Int))) then (if t162 = true then (if t160.toList = a1.toList then (if t161 = (wrap64 ((l2.length : Int) + (t130.length : Int))) then (if t169 = true then (some false) else (if bt174.2.2 = true then (some false) else ((iceboxlaw1_awake.f kj20).bind fun t177 => (some t177)))) else (some false)) else (some false)) else (some false)) else (some false)) else (some false)) else (some false))) = some r := by first | (rw [hy170]; with_reducible exact H) | (have H2_ := (Option.bind_some _ _).symm.trans H; rw [hy170]; with_reducible exact H2_) | (have H2_ := (Option.bind_some _ _).symm.trans H; with_reducible exact H2_) | with_reducible exact H | (rw [hy170]; exact H) | exact H
                                  have Ny170 := Aside0.mk hy170
                                  clear hy170
                                  replace H := Option.bind_eq_some_iff.mp H
                                  obtain ⟨⟨t174, t175, t176⟩, A470, H⟩ := H
                                  replace H : (if t159 = true then (if t157 = (wrap64 (a0 / 2)) then (if t158 = (wrap64 ((l2.length : Int) + (t127.length : Int))) then (if t162 = true then (if t160.toList = a1.toList then (if t161 = (wrap64 ((l2.length : Int) + (t130.length : Int))) then (if t169 = true then (some false) else (if t176 = true then (some false) else ((iceboxlaw1_awake.f kj20).bind fun t177 => (some t177)))) else (some false)) else (some false)) else (some false)) else (some false)) else (some false)) else (some false)) = some r := H
                                  have A47 := Aside0.mk A470
                                  clear A470
                                  by_cases c48 : t159 = true
                                  · subst c48
                                    have H1 : (if t157 = (wrap64 (a0 / 2)) then (if t158 = (wrap64 ((l2.length : Int) + (t127.length : Int))) then (if t162 = true then (if t160.toList = a1.toList then (if t161 = (wrap64 ((l2.length : Int) + (t130.length : Int))) then (if t169 = true then (some false) else (if t176 = true then (some false) else ((iceboxlaw1_awake.f kj20).bind fun t177 => (some t177)))) else (some false)) else (some false)) else (some false)) else (some false)) else (some false)) = some r := by rw [if_pos rfl] at H; exact H
                                    clear H
                                    have H := H1
                                    clear H1
                                    by_cases c49 : t157 = (wrap64 (a0 / 2))
                                    · rw [if_pos c49] at H
                                      have c49b0 : (t157 == (wrap64 (a0 / 2))) = true := beq_iff_eq.mpr c49
                                      have c49b1 : (t157 != (wrap64 (a0 / 2))) = false := bne_eq_false_iff_eq.mpr c49
                                      clear c49
                                      by_cases c50 : t158 = (wrap64 ((l2.length : Int) + (t127.length : Int)))
                                      · rw [if_pos c50] at H
                                        have c50b0 : (t158 == (wrap64 ((l2.length : Int) + (t127.length : Int)))) = true := beq_iff_eq.mpr c50
                                        have c50b1 : (t158 != (wrap64 ((l2.length : Int) + (t127.length : Int)))) = false := bne_eq_false_iff_eq.mpr c50
                                        clear c50
                                        by_cases c51 : t162 = true
                                        · subst c51
                                          have H1 : (if t160.toList = a1.toList then (if t161 = (wrap64 ((l2.length : Int) + (t130.length : Int))) then (if t169 = true then (some false) else (if t176 = true then (some false) else ((iceboxlaw1_awake.f kj20).bind fun t177 => (some t177)))) else (some false)) else (some false)) = some r := by rw [if_pos rfl] at H; exact H
                                          clear H
                                          have H := H1
                                          clear H1
                                          by_cases c52 : t160.toList = a1.toList
                                          · rw [if_pos c52] at H
                                            have c52b0 : (t160.toList == a1.toList) = true := beq_iff_eq.mpr c52
                                            have c52b1 : (t160.toList != a1.toList) = false := bne_eq_false_iff_eq.mpr c52
                                            clear c52
                                            by_cases c53 : t161 = (wrap64 ((l2.length : Int) + (t130.length : Int)))
                                            · rw [if_pos c53] at H
                                              have c53b0 : (t161 == (wrap64 ((l2.length : Int) + (t130.length : Int)))) = true := beq_iff_eq.mpr c53
                                              have c53b1 : (t161 != (wrap64 ((l2.length : Int) + (t130.length : Int)))) = false := bne_eq_false_iff_eq.mpr c53
                                              clear c53
                                              by_cases c54 : t169 = true
                                              · subst c54
                                                have H1 : (some false) = some r := by rw [if_pos rfl] at H; exact H
                                                clear H
                                                have H := H1
                                                clear H1
                                                obtain rfl := Option.some.inj H
                                                have q55 : ((ji40) : Int) ≤ ((t127.length : Int) : Int) := of_decide_eq_true (by first | (with_reducible assumption) | assumption)
                                                obtain ⟨i055, hi055, _, hsz55, _⟩ := info_parts info5
                                                have hroom55 : t127.length ≤ co28 := (Kd.R_reads' HO_10.out).2.1
                                                have hC55 : Kd.C (Kd.int .u8) _ Ao28 t127.length t127 := (Kd.R_reads' HO_10.out).2.2
                                                have hcut55 := cut_to (P := Try.prog) 22 5 .i64 Try.underlying22 hi055 Ao28 t127.length co28 (ji40) (of_decide_eq_true (by first | (with_reducible assumption) | assumption)) q55 hroom55
                                                have hr55 := Kd.C_take (m := ((ji40) : Int).toNat) hC55 (by omega)
                                                have hy55 : y163.length = ((ji40) : Int).toNat := (by rw [Ny163.out, List.length_take]; omega)
                                                rw [← Ny163.out] at hr55
                                                rw [← hy55] at hcut55
                                                have HR166 := Aside0.mk hr55
                                                have HC166 := Aside0.mk (show y163.length ≤ co28 from by omega)
                                                clear hr55 hC55 hroom55 hi055 hsz55
                                                have KY55 := Aside0.mk hy55
                                                clear hy55
                                                have KL55 := Aside0.mk (show ((ji40) : Int).toNat ≤ t127.length from by omega)
                                                replace q55 := eq_true q55
                                                go_wp2_with (first | ((with_reducible refine gate_callee (f := 24) rfl ?_); refine goesL_ (some 91) rfl rfl Try.func24 (by kernel_rfl) rfl #[.slice Ao28 y163.length co28, .int .i64 0] rfl (by (try simp only [List.map_toArray, List.map_cons, List.map_nil]); first | done | rfl | (simp only [List.length_drop, List.length_take]; rfl)) ?_; (with_reducible refine (num_Get.calls kj20 _ _ y163 0 t167 t168 true _ ?side1 ?side2 A43.out).mono ?_); (case side1 => repeat (first | exact (by repeat (first | (with_reducible exact HR166.out) | (with_reducible refine Kd.C_alloc ?_ _) | (with_reducible refine Kd.C_drewN ?_ _) | (with_reducible refine Kd.C_drew ?_) | exact HR166.out)) | (with_reducible refine Kd.C_alloc ?_ _) | (with_reducible refine Kd.C_drewN ?_ _) | (with_reducible refine Kd.C_drew ?_))); (case side2 => exact HC166.out); rintro e w' ⟨rfl, ⟨nd, rfl⟩⟩; refine ⟨_, rfl, ?_⟩; have q56 : ((ji44) : Int) ≤ ((t130.length : Int) : Int) := of_decide_eq_true (by first | (with_reducible assumption) | assumption); obtain ⟨i056, hi056, _, hsz56, _⟩ := info_parts info5; have hroom56 : t130.length ≤ co34 := (Kd.R_reads' HO_11.out).2.1; have hC56 : Kd.C (Kd.int .u8) _ Ao34 t130.length t130 := (Kd.R_reads' HO_11.out).2.2; have hcut56 := cut_to (P := Try.prog) 22 5 .i64 Try.underlying22 hi056 Ao34 t130.length co34 (ji44) (of_decide_eq_true (by first | (with_reducible assumption) | assumption)) q56 hroom56; have hr56 := Kd.C_take (m := ((ji44) : Int).toNat) hC56 (by omega); have hy56 : y170.length = ((ji44) : Int).toNat := (by rw [Ny170.out, List.length_take]; omega); rw [← Ny170.out] at hr56; rw [← hy56] at hcut56; have HR173 := Aside0.mk hr56; have HC173 := Aside0.mk (show y170.length ≤ co34 from by omega); clear hr56 hC56 hroom56 hi056 hsz56; have KY56 := Aside0.mk hy56; clear hy56; have KL56 := Aside0.mk (show ((ji44) : Int).toNat ≤ t130.length from by omega); replace q56 := eq_true q56) | ((with_reducible refine gate_callee (f := 26) rfl ?_); refine goesL_ (some 101) rfl rfl Try.func26 (by kernel_rfl) rfl #[.slice Ao34 y170.length co34, .int .i64 0] rfl (by (try simp only [List.map_toArray, List.map_cons, List.map_nil]); first | done | rfl | (simp only [List.length_drop, List.length_take]; rfl)) ?_; (with_reducible refine (num_GetText.calls kj20 _ _ y170 0 t174 t175 t176 _ ?side1 ?side2 A47.out).mono ?_); (case side1 => repeat (first | exact (by repeat (first | (with_reducible exact HR173.out) | (with_reducible refine Kd.C_alloc ?_ _) | (with_reducible refine Kd.C_drewN ?_ _) | (with_reducible refine Kd.C_drew ?_) | exact HR173.out)) | (with_reducible refine Kd.C_alloc ?_ _) | (with_reducible refine Kd.C_drewN ?_ _) | (with_reducible refine Kd.C_drew ?_))); (case side2 => exact HC173.out); rintro e w' ⟨rfl, ⟨nd, rfl⟩⟩; refine ⟨_, rfl, ?_⟩))
                                                go_ret
                                                exact ⟨by first | rfl | (simp [errW_none, errW_some] <;> rfl) | (simp only [← hji40, ← hji44]; first | rfl | (simp [errW_none, errW_some] <;> rfl)) | (simp [*, errW_none, errW_some] <;> rfl), by repeat (first | (with_reducible first | exact HB.out | apply below_alloc | apply pw_below_drewN | apply below_drew1) | exact HB.out)⟩
                                              · replace c54 := Bool.eq_false_iff.mpr c54
                                                subst c54
                                                have H1 : (if t176 = true then (some false) else ((iceboxlaw1_awake.f kj20).bind fun t177 => (some t177))) = some r := by rw [if_neg (show ¬ (false = true) by decide)] at H; exact H
                                                clear H
                                                have H := H1
                                                clear H1
                                                by_cases c57 : t176 = true
                                                · subst c57
                                                  have H1 : (some false) = some r := by rw [if_pos rfl] at H; exact H
                                                  clear H
                                                  have H := H1
                                                  clear H1
                                                  obtain rfl := Option.some.inj H
                                                  have q58 : ((ji40) : Int) ≤ ((t127.length : Int) : Int) := of_decide_eq_true (by first | (with_reducible assumption) | assumption)
                                                  obtain ⟨i058, hi058, _, hsz58, _⟩ := info_parts info5
                                                  have hroom58 : t127.length ≤ co28 := (Kd.R_reads' HO_10.out).2.1
                                                  have hC58 : Kd.C (Kd.int .u8) _ Ao28 t127.length t127 := (Kd.R_reads' HO_10.out).2.2
                                                  have hcut58 := cut_to (P := Try.prog) 22 5 .i64 Try.underlying22 hi058 Ao28 t127.length co28 (ji40) (of_decide_eq_true (by first | (with_reducible assumption) | assumption)) q58 hroom58
                                                  have hr58 := Kd.C_take (m := ((ji40) : Int).toNat) hC58 (by omega)
                                                  have hy58 : y163.length = ((ji40) : Int).toNat := (by rw [Ny163.out, List.length_take]; omega)
                                                  rw [← Ny163.out] at hr58
                                                  rw [← hy58] at hcut58
                                                  have HR166 := Aside0.mk hr58
                                                  have HC166 := Aside0.mk (show y163.length ≤ co28 from by omega)
                                                  clear hr58 hC58 hroom58 hi058 hsz58
                                                  have KY58 := Aside0.mk hy58
                                                  clear hy58
                                                  have KL58 := Aside0.mk (show ((ji40) : Int).toNat ≤ t127.length from by omega)
                                                  replace q58 := eq_true q58
                                                  go_wp2_with (first | ((with_reducible refine gate_callee (f := 24) rfl ?_); refine goesL_ (some 91) rfl rfl Try.func24 (by kernel_rfl) rfl #[.slice Ao28 y163.length co28, .int .i64 0] rfl (by (try simp only [List.map_toArray, List.map_cons, List.map_nil]); first | done | rfl | (simp only [List.length_drop, List.length_take]; rfl)) ?_; (with_reducible refine (num_Get.calls kj20 _ _ y163 0 t167 t168 false _ ?side1 ?side2 A43.out).mono ?_); (case side1 => repeat (first | exact (by repeat (first | (with_reducible exact HR166.out) | (with_reducible refine Kd.C_alloc ?_ _) | (with_reducible refine Kd.C_drewN ?_ _) | (with_reducible refine Kd.C_drew ?_) | exact HR166.out)) | (with_reducible refine Kd.C_alloc ?_ _) | (with_reducible refine Kd.C_drewN ?_ _) | (with_reducible refine Kd.C_drew ?_))); (case side2 => exact HC166.out); rintro e w' ⟨rfl, ⟨nd, rfl⟩⟩; refine ⟨_, rfl, ?_⟩; have q59 : ((ji44) : Int) ≤ ((t130.length : Int) : Int) := of_decide_eq_true (by first | (with_reducible assumption) | assumption); obtain ⟨i059, hi059, _, hsz59, _⟩ := info_parts info5; have hroom59 : t130.length ≤ co34 := (Kd.R_reads' HO_11.out).2.1; have hC59 : Kd.C (Kd.int .u8) _ Ao34 t130.length t130 := (Kd.R_reads' HO_11.out).2.2; have hcut59 := cut_to (P := Try.prog) 22 5 .i64 Try.underlying22 hi059 Ao34 t130.length co34 (ji44) (of_decide_eq_true (by first | (with_reducible assumption) | assumption)) q59 hroom59; have hr59 := Kd.C_take (m := ((ji44) : Int).toNat) hC59 (by omega); have hy59 : y170.length = ((ji44) : Int).toNat := (by rw [Ny170.out, List.length_take]; omega); rw [← Ny170.out] at hr59; rw [← hy59] at hcut59; have HR173 := Aside0.mk hr59; have HC173 := Aside0.mk (show y170.length ≤ co34 from by omega); clear hr59 hC59 hroom59 hi059 hsz59; have KY59 := Aside0.mk hy59; clear hy59; have KL59 := Aside0.mk (show ((ji44) : Int).toNat ≤ t130.length from by omega); replace q59 := eq_true q59) | ((with_reducible refine gate_callee (f := 26) rfl ?_); refine goesL_ (some 101) rfl rfl Try.func26 (by kernel_rfl) rfl #[.slice Ao34 y170.length co34, .int .i64 0] rfl (by (try simp only [List.map_toArray, List.map_cons, List.map_nil]); first | done | rfl | (simp only [List.length_drop, List.length_take]; rfl)) ?_; (with_reducible refine (num_GetText.calls kj20 _ _ y170 0 t174 t175 true _ ?side1 ?side2 A47.out).mono ?_); (case side1 => repeat (first | exact (by repeat (first | (with_reducible exact HR173.out) | (with_reducible refine Kd.C_alloc ?_ _) | (with_reducible refine Kd.C_drewN ?_ _) | (with_reducible refine Kd.C_drew ?_) | exact HR173.out)) | (with_reducible refine Kd.C_alloc ?_ _) | (with_reducible refine Kd.C_drewN ?_ _) | (with_reducible refine Kd.C_drew ?_))); (case side2 => exact HC173.out); rintro e w' ⟨rfl, ⟨nd, rfl⟩⟩; refine ⟨_, rfl, ?_⟩))
                                                  go_ret
                                                  exact ⟨by first | rfl | (simp [errW_none, errW_some] <;> rfl) | (simp only [← hji40, ← hji44]; first | rfl | (simp [errW_none, errW_some] <;> rfl)) | (simp [*, errW_none, errW_some] <;> rfl), by repeat (first | (with_reducible first | exact HB.out | apply below_alloc | apply pw_below_drewN | apply below_drew1) | exact HB.out)⟩
                                                · replace c57 := Bool.eq_false_iff.mpr c57
                                                  subst c57
                                                  have H1 : ((iceboxlaw1_awake.f kj20).bind fun t177 => (some t177)) = some r := by rw [if_neg (show ¬ (false = true) by decide)] at H; exact H
                                                  clear H
                                                  have H := H1
                                                  clear H1
                                                  replace H := Option.bind_eq_some_iff.mp H
                                                  obtain ⟨t177, A600, H⟩ := H
                                                  replace H : (some t177) = some r := H
                                                  have A60 := Aside0.mk A600
                                                  clear A600
                                                  obtain rfl := Option.some.inj H
                                                  have q61 : ((ji40) : Int) ≤ ((t127.length : Int) : Int) := of_decide_eq_true (by first | (with_reducible assumption) | assumption)
                                                  obtain ⟨i061, hi061, _, hsz61, _⟩ := info_parts info5
                                                  have hroom61 : t127.length ≤ co28 := (Kd.R_reads' HO_10.out).2.1
                                                  have hC61 : Kd.C (Kd.int .u8) _ Ao28 t127.length t127 := (Kd.R_reads' HO_10.out).2.2
                                                  have hcut61 := cut_to (P := Try.prog) 22 5 .i64 Try.underlying22 hi061 Ao28 t127.length co28 (ji40) (of_decide_eq_true (by first | (with_reducible assumption) | assumption)) q61 hroom61
                                                  have hr61 := Kd.C_take (m := ((ji40) : Int).toNat) hC61 (by omega)
                                                  have hy61 : y163.length = ((ji40) : Int).toNat := (by rw [Ny163.out, List.length_take]; omega)
                                                  rw [← Ny163.out] at hr61
                                                  rw [← hy61] at hcut61
                                                  have HR166 := Aside0.mk hr61
                                                  have HC166 := Aside0.mk (show y163.length ≤ co28 from by omega)
                                                  clear hr61 hC61 hroom61 hi061 hsz61
                                                  have KY61 := Aside0.mk hy61
                                                  clear hy61
                                                  have KL61 := Aside0.mk (show ((ji40) : Int).toNat ≤ t127.length from by omega)
                                                  replace q61 := eq_true q61
                                                  go_wp2_with (first | ((with_reducible refine gate_callee (f := 24) rfl ?_); refine goesL_ (some 91) rfl rfl Try.func24 (by kernel_rfl) rfl #[.slice Ao28 y163.length co28, .int .i64 0] rfl (by (try simp only [List.map_toArray, List.map_cons, List.map_nil]); first | done | rfl | (simp only [List.length_drop, List.length_take]; rfl)) ?_; (with_reducible refine (num_Get.calls kj20 _ _ y163 0 t167 t168 false _ ?side1 ?side2 A43.out).mono ?_); (case side1 => repeat (first | exact (by repeat (first | (with_reducible exact HR166.out) | (with_reducible refine Kd.C_alloc ?_ _) | (with_reducible refine Kd.C_drewN ?_ _) | (with_reducible refine Kd.C_drew ?_) | exact HR166.out)) | (with_reducible refine Kd.C_alloc ?_ _) | (with_reducible refine Kd.C_drewN ?_ _) | (with_reducible refine Kd.C_drew ?_))); (case side2 => exact HC166.out); rintro e w' ⟨rfl, ⟨nd, rfl⟩⟩; refine ⟨_, rfl, ?_⟩; have q62 : ((ji44) : Int) ≤ ((t130.length : Int) : Int) := of_decide_eq_true (by first | (with_reducible assumption) | assumption); obtain ⟨i062, hi062, _, hsz62, _⟩ := info_parts info5; have hroom62 : t130.length ≤ co34 := (Kd.R_reads' HO_11.out).2.1; have hC62 : Kd.C (Kd.int .u8) _ Ao34 t130.length t130 := (Kd.R_reads' HO_11.out).2.2; have hcut62 := cut_to (P := Try.prog) 22 5 .i64 Try.underlying22 hi062 Ao34 t130.length co34 (ji44) (of_decide_eq_true (by first | (with_reducible assumption) | assumption)) q62 hroom62; have hr62 := Kd.C_take (m := ((ji44) : Int).toNat) hC62 (by omega); have hy62 : y170.length = ((ji44) : Int).toNat := (by rw [Ny170.out, List.length_take]; omega); rw [← Ny170.out] at hr62; rw [← hy62] at hcut62; have HR173 := Aside0.mk hr62; have HC173 := Aside0.mk (show y170.length ≤ co34 from by omega); clear hr62 hC62 hroom62 hi062 hsz62; have KY62 := Aside0.mk hy62; clear hy62; have KL62 := Aside0.mk (show ((ji44) : Int).toNat ≤ t130.length from by omega); replace q62 := eq_true q62) | ((with_reducible refine gate_callee (f := 26) rfl ?_); refine goesL_ (some 101) rfl rfl Try.func26 (by kernel_rfl) rfl #[.slice Ao34 y170.length co34, .int .i64 0] rfl (by (try simp only [List.map_toArray, List.map_cons, List.map_nil]); first | done | rfl | (simp only [List.length_drop, List.length_take]; rfl)) ?_; (with_reducible refine (num_GetText.calls kj20 _ _ y170 0 t174 t175 false _ ?side1 ?side2 A47.out).mono ?_); (case side1 => repeat (first | exact (by repeat (first | (with_reducible exact HR173.out) | (with_reducible refine Kd.C_alloc ?_ _) | (with_reducible refine Kd.C_drewN ?_ _) | (with_reducible refine Kd.C_drew ?_) | exact HR173.out)) | (with_reducible refine Kd.C_alloc ?_ _) | (with_reducible refine Kd.C_drewN ?_ _) | (with_reducible refine Kd.C_drew ?_))); (case side2 => exact HC173.out); rintro e w' ⟨rfl, ⟨nd, rfl⟩⟩; refine ⟨_, rfl, ?_⟩) | (go_at_call 22; (with_reducible refine (iceboxlaw1_awake.calls kj20  t177 _ A60.out).mono ?_); rintro e w63 ⟨rfl, hb⟩; have n0_ := Aside0.mk (Kd.R_below (by (with_reducible repeat (first | apply Kd.R_alloc | apply Kd.R_drewN | apply Kd.R_drew)); exact HO_10.out) hb); have n1_ := Aside0.mk (Kd.R_below (by (with_reducible repeat (first | apply Kd.R_alloc | apply Kd.R_drewN | apply Kd.R_drew)); exact HO_11.out) hb); have n2_ := Aside0.mk (Kd.C_below (by repeat (first | (with_reducible exact HR166.out) | (with_reducible refine Kd.C_alloc ?_ _) | (with_reducible refine Kd.C_drewN ?_ _) | (with_reducible refine Kd.C_drew ?_) | exact HR166.out)) hb); have n3_ := Aside0.mk (Kd.C_below (by repeat (first | (with_reducible exact HR173.out) | (with_reducible refine Kd.C_alloc ?_ _) | (with_reducible refine Kd.C_drewN ?_ _) | (with_reducible refine Kd.C_drew ?_) | exact HR173.out)) hb); have n4_ := Aside0.mk (below_step (by repeat (first | (with_reducible first | exact HB.out | apply below_alloc | apply pw_below_drewN | apply below_drew1) | exact HB.out)) hb); clear HO_10; clear HO_11; clear HR166; clear HR173; clear HB; have HO_10 := n0_; have HO_11 := n1_; have HR166 := n2_; have HR173 := n3_; have HB := n4_; clear n0_ n1_ n2_ n3_ n4_; (try clear hb); (try clear hb2); (try clear hk); (try clear hi)))
                                                  go_ret
                                                  exact ⟨by first | rfl | (simp [errW_none, errW_some] <;> rfl) | (simp only [← hji40, ← hji44]; first | rfl | (simp [errW_none, errW_some] <;> rfl)) | (simp [*, errW_none, errW_some] <;> rfl), by repeat (first | (with_reducible first | exact HB.out | apply below_alloc | apply pw_below_drewN | apply below_drew1) | exact HB.out)⟩
                                            · rw [if_neg c53] at H
                                              have c53b0 : (t161 == (wrap64 ((l2.length : Int) + (t130.length : Int)))) = false := beq_eq_false_iff_ne.mpr c53
                                              have c53b1 : (t161 != (wrap64 ((l2.length : Int) + (t130.length : Int)))) = true := bne_iff_ne.mpr c53
                                              obtain rfl := Option.some.inj H
                                              have q64 : ((ji40) : Int) ≤ ((t127.length : Int) : Int) := of_decide_eq_true (by first | (with_reducible assumption) | assumption)
                                              obtain ⟨i064, hi064, _, hsz64, _⟩ := info_parts info5
                                              have hroom64 : t127.length ≤ co28 := (Kd.R_reads' HO_10.out).2.1
                                              have hC64 : Kd.C (Kd.int .u8) _ Ao28 t127.length t127 := (Kd.R_reads' HO_10.out).2.2
                                              have hcut64 := cut_to (P := Try.prog) 22 5 .i64 Try.underlying22 hi064 Ao28 t127.length co28 (ji40) (of_decide_eq_true (by first | (with_reducible assumption) | assumption)) q64 hroom64
                                              have hr64 := Kd.C_take (m := ((ji40) : Int).toNat) hC64 (by omega)
                                              have hy64 : y163.length = ((ji40) : Int).toNat := (by rw [Ny163.out, List.length_take]; omega)
                                              rw [← Ny163.out] at hr64
                                              rw [← hy64] at hcut64
                                              have HR166 := Aside0.mk hr64
                                              have HC166 := Aside0.mk (show y163.length ≤ co28 from by omega)
                                              clear hr64 hC64 hroom64 hi064 hsz64
                                              have KY64 := Aside0.mk hy64
                                              clear hy64
                                              have KL64 := Aside0.mk (show ((ji40) : Int).toNat ≤ t127.length from by omega)
                                              replace q64 := eq_true q64
                                              go_wp2_with (first | ((with_reducible refine gate_callee (f := 24) rfl ?_); refine goesL_ (some 91) rfl rfl Try.func24 (by kernel_rfl) rfl #[.slice Ao28 y163.length co28, .int .i64 0] rfl (by (try simp only [List.map_toArray, List.map_cons, List.map_nil]); first | done | rfl | (simp only [List.length_drop, List.length_take]; rfl)) ?_; (with_reducible refine (num_Get.calls kj20 _ _ y163 0 t167 t168 t169 _ ?side1 ?side2 A43.out).mono ?_); (case side1 => repeat (first | exact (by repeat (first | (with_reducible exact HR166.out) | (with_reducible refine Kd.C_alloc ?_ _) | (with_reducible refine Kd.C_drewN ?_ _) | (with_reducible refine Kd.C_drew ?_) | exact HR166.out)) | (with_reducible refine Kd.C_alloc ?_ _) | (with_reducible refine Kd.C_drewN ?_ _) | (with_reducible refine Kd.C_drew ?_))); (case side2 => exact HC166.out); rintro e w' ⟨rfl, ⟨nd, rfl⟩⟩; refine ⟨_, rfl, ?_⟩; have q65 : ((ji44) : Int) ≤ ((t130.length : Int) : Int) := of_decide_eq_true (by first | (with_reducible assumption) | assumption); obtain ⟨i065, hi065, _, hsz65, _⟩ := info_parts info5; have hroom65 : t130.length ≤ co34 := (Kd.R_reads' HO_11.out).2.1; have hC65 : Kd.C (Kd.int .u8) _ Ao34 t130.length t130 := (Kd.R_reads' HO_11.out).2.2; have hcut65 := cut_to (P := Try.prog) 22 5 .i64 Try.underlying22 hi065 Ao34 t130.length co34 (ji44) (of_decide_eq_true (by first | (with_reducible assumption) | assumption)) q65 hroom65; have hr65 := Kd.C_take (m := ((ji44) : Int).toNat) hC65 (by omega); have hy65 : y170.length = ((ji44) : Int).toNat := (by rw [Ny170.out, List.length_take]; omega); rw [← Ny170.out] at hr65; rw [← hy65] at hcut65; have HR173 := Aside0.mk hr65; have HC173 := Aside0.mk (show y170.length ≤ co34 from by omega); clear hr65 hC65 hroom65 hi065 hsz65; have KY65 := Aside0.mk hy65; clear hy65; have KL65 := Aside0.mk (show ((ji44) : Int).toNat ≤ t130.length from by omega); replace q65 := eq_true q65) | ((with_reducible refine gate_callee (f := 26) rfl ?_); refine goesL_ (some 101) rfl rfl Try.func26 (by kernel_rfl) rfl #[.slice Ao34 y170.length co34, .int .i64 0] rfl (by (try simp only [List.map_toArray, List.map_cons, List.map_nil]); first | done | rfl | (simp only [List.length_drop, List.length_take]; rfl)) ?_; (with_reducible refine (num_GetText.calls kj20 _ _ y170 0 t174 t175 t176 _ ?side1 ?side2 A47.out).mono ?_); (case side1 => repeat (first | exact (by repeat (first | (with_reducible exact HR173.out) | (with_reducible refine Kd.C_alloc ?_ _) | (with_reducible refine Kd.C_drewN ?_ _) | (with_reducible refine Kd.C_drew ?_) | exact HR173.out)) | (with_reducible refine Kd.C_alloc ?_ _) | (with_reducible refine Kd.C_drewN ?_ _) | (with_reducible refine Kd.C_drew ?_))); (case side2 => exact HC173.out); rintro e w' ⟨rfl, ⟨nd, rfl⟩⟩; refine ⟨_, rfl, ?_⟩))
                                              go_ret
                                              exact ⟨by first | rfl | (simp [errW_none, errW_some] <;> rfl) | (simp only [← hji40, ← hji44]; first | rfl | (simp [errW_none, errW_some] <;> rfl)) | (simp [*, errW_none, errW_some] <;> rfl), by repeat (first | (with_reducible first | exact HB.out | apply below_alloc | apply pw_below_drewN | apply below_drew1) | exact HB.out)⟩
                                          · rw [if_neg c52] at H
                                            have c52b0 : (t160.toList == a1.toList) = false := beq_eq_false_iff_ne.mpr c52
                                            have c52b1 : (t160.toList != a1.toList) = true := bne_iff_ne.mpr c52
                                            obtain rfl := Option.some.inj H
                                            have q66 : ((ji40) : Int) ≤ ((t127.length : Int) : Int) := of_decide_eq_true (by first | (with_reducible assumption) | assumption)
                                            obtain ⟨i066, hi066, _, hsz66, _⟩ := info_parts info5
                                            have hroom66 : t127.length ≤ co28 := (Kd.R_reads' HO_10.out).2.1
                                            have hC66 : Kd.C (Kd.int .u8) _ Ao28 t127.length t127 := (Kd.R_reads' HO_10.out).2.2
                                            have hcut66 := cut_to (P := Try.prog) 22 5 .i64 Try.underlying22 hi066 Ao28 t127.length co28 (ji40) (of_decide_eq_true (by first | (with_reducible assumption) | assumption)) q66 hroom66
                                            have hr66 := Kd.C_take (m := ((ji40) : Int).toNat) hC66 (by omega)
                                            have hy66 : y163.length = ((ji40) : Int).toNat := (by rw [Ny163.out, List.length_take]; omega)
                                            rw [← Ny163.out] at hr66
                                            rw [← hy66] at hcut66
                                            have HR166 := Aside0.mk hr66
                                            have HC166 := Aside0.mk (show y163.length ≤ co28 from by omega)
                                            clear hr66 hC66 hroom66 hi066 hsz66
                                            have KY66 := Aside0.mk hy66
                                            clear hy66
                                            have KL66 := Aside0.mk (show ((ji40) : Int).toNat ≤ t127.length from by omega)
                                            replace q66 := eq_true q66
                                            go_wp2_with (first | ((with_reducible refine gate_callee (f := 24) rfl ?_); refine goesL_ (some 91) rfl rfl Try.func24 (by kernel_rfl) rfl #[.slice Ao28 y163.length co28, .int .i64 0] rfl (by (try simp only [List.map_toArray, List.map_cons, List.map_nil]); first | done | rfl | (simp only [List.length_drop, List.length_take]; rfl)) ?_; (with_reducible refine (num_Get.calls kj20 _ _ y163 0 t167 t168 t169 _ ?side1 ?side2 A43.out).mono ?_); (case side1 => repeat (first | exact (by repeat (first | (with_reducible exact HR166.out) | (with_reducible refine Kd.C_alloc ?_ _) | (with_reducible refine Kd.C_drewN ?_ _) | (with_reducible refine Kd.C_drew ?_) | exact HR166.out)) | (with_reducible refine Kd.C_alloc ?_ _) | (with_reducible refine Kd.C_drewN ?_ _) | (with_reducible refine Kd.C_drew ?_))); (case side2 => exact HC166.out); rintro e w' ⟨rfl, ⟨nd, rfl⟩⟩; refine ⟨_, rfl, ?_⟩; have q67 : ((ji44) : Int) ≤ ((t130.length : Int) : Int) := of_decide_eq_true (by first | (with_reducible assumption) | assumption); obtain ⟨i067, hi067, _, hsz67, _⟩ := info_parts info5; have hroom67 : t130.length ≤ co34 := (Kd.R_reads' HO_11.out).2.1; have hC67 : Kd.C (Kd.int .u8) _ Ao34 t130.length t130 := (Kd.R_reads' HO_11.out).2.2; have hcut67 := cut_to (P := Try.prog) 22 5 .i64 Try.underlying22 hi067 Ao34 t130.length co34 (ji44) (of_decide_eq_true (by first | (with_reducible assumption) | assumption)) q67 hroom67; have hr67 := Kd.C_take (m := ((ji44) : Int).toNat) hC67 (by omega); have hy67 : y170.length = ((ji44) : Int).toNat := (by rw [Ny170.out, List.length_take]; omega); rw [← Ny170.out] at hr67; rw [← hy67] at hcut67; have HR173 := Aside0.mk hr67; have HC173 := Aside0.mk (show y170.length ≤ co34 from by omega); clear hr67 hC67 hroom67 hi067 hsz67; have KY67 := Aside0.mk hy67; clear hy67; have KL67 := Aside0.mk (show ((ji44) : Int).toNat ≤ t130.length from by omega); replace q67 := eq_true q67) | ((with_reducible refine gate_callee (f := 26) rfl ?_); refine goesL_ (some 101) rfl rfl Try.func26 (by kernel_rfl) rfl #[.slice Ao34 y170.length co34, .int .i64 0] rfl (by (try simp only [List.map_toArray, List.map_cons, List.map_nil]); first | done | rfl | (simp only [List.length_drop, List.length_take]; rfl)) ?_; (with_reducible refine (num_GetText.calls kj20 _ _ y170 0 t174 t175 t176 _ ?side1 ?side2 A47.out).mono ?_); (case side1 => repeat (first | exact (by repeat (first | (with_reducible exact HR173.out) | (with_reducible refine Kd.C_alloc ?_ _) | (with_reducible refine Kd.C_drewN ?_ _) | (with_reducible refine Kd.C_drew ?_) | exact HR173.out)) | (with_reducible refine Kd.C_alloc ?_ _) | (with_reducible refine Kd.C_drewN ?_ _) | (with_reducible refine Kd.C_drew ?_))); (case side2 => exact HC173.out); rintro e w' ⟨rfl, ⟨nd, rfl⟩⟩; refine ⟨_, rfl, ?_⟩))
                                            go_ret
                                            exact ⟨by first | rfl | (simp [errW_none, errW_some] <;> rfl) | (simp only [← hji40, ← hji44]; first | rfl | (simp [errW_none, errW_some] <;> rfl)) | (simp [*, errW_none, errW_some] <;> rfl), by repeat (first | (with_reducible first | exact HB.out | apply below_alloc | apply pw_below_drewN | apply below_drew1) | exact HB.out)⟩
                                        · replace c51 := Bool.eq_false_iff.mpr c51
                                          subst c51
                                          have H1 : (some false) = some r := by rw [if_neg (show ¬ (false = true) by decide)] at H; exact H
                                          clear H
                                          have H := H1
                                          clear H1
                                          obtain rfl := Option.some.inj H
                                          have q68 : ((ji40) : Int) ≤ ((t127.length : Int) : Int) := of_decide_eq_true (by first | (with_reducible assumption) | assumption)
                                          obtain ⟨i068, hi068, _, hsz68, _⟩ := info_parts info5
                                          have hroom68 : t127.length ≤ co28 := (Kd.R_reads' HO_10.out).2.1
                                          have hC68 : Kd.C (Kd.int .u8) _ Ao28 t127.length t127 := (Kd.R_reads' HO_10.out).2.2
                                          have hcut68 := cut_to (P := Try.prog) 22 5 .i64 Try.underlying22 hi068 Ao28 t127.length co28 (ji40) (of_decide_eq_true (by first | (with_reducible assumption) | assumption)) q68 hroom68
                                          have hr68 := Kd.C_take (m := ((ji40) : Int).toNat) hC68 (by omega)
                                          have hy68 : y163.length = ((ji40) : Int).toNat := (by rw [Ny163.out, List.length_take]; omega)
                                          rw [← Ny163.out] at hr68
                                          rw [← hy68] at hcut68
                                          have HR166 := Aside0.mk hr68
                                          have HC166 := Aside0.mk (show y163.length ≤ co28 from by omega)
                                          clear hr68 hC68 hroom68 hi068 hsz68
                                          have KY68 := Aside0.mk hy68
                                          clear hy68
                                          have KL68 := Aside0.mk (show ((ji40) : Int).toNat ≤ t127.length from by omega)
                                          replace q68 := eq_true q68
                                          go_wp2_with (first | ((with_reducible refine gate_callee (f := 24) rfl ?_); refine goesL_ (some 91) rfl rfl Try.func24 (by kernel_rfl) rfl #[.slice Ao28 y163.length co28, .int .i64 0] rfl (by (try simp only [List.map_toArray, List.map_cons, List.map_nil]); first | done | rfl | (simp only [List.length_drop, List.length_take]; rfl)) ?_; (with_reducible refine (num_Get.calls kj20 _ _ y163 0 t167 t168 t169 _ ?side1 ?side2 A43.out).mono ?_); (case side1 => repeat (first | exact (by repeat (first | (with_reducible exact HR166.out) | (with_reducible refine Kd.C_alloc ?_ _) | (with_reducible refine Kd.C_drewN ?_ _) | (with_reducible refine Kd.C_drew ?_) | exact HR166.out)) | (with_reducible refine Kd.C_alloc ?_ _) | (with_reducible refine Kd.C_drewN ?_ _) | (with_reducible refine Kd.C_drew ?_))); (case side2 => exact HC166.out); rintro e w' ⟨rfl, ⟨nd, rfl⟩⟩; refine ⟨_, rfl, ?_⟩; have q69 : ((ji44) : Int) ≤ ((t130.length : Int) : Int) := of_decide_eq_true (by first | (with_reducible assumption) | assumption); obtain ⟨i069, hi069, _, hsz69, _⟩ := info_parts info5; have hroom69 : t130.length ≤ co34 := (Kd.R_reads' HO_11.out).2.1; have hC69 : Kd.C (Kd.int .u8) _ Ao34 t130.length t130 := (Kd.R_reads' HO_11.out).2.2; have hcut69 := cut_to (P := Try.prog) 22 5 .i64 Try.underlying22 hi069 Ao34 t130.length co34 (ji44) (of_decide_eq_true (by first | (with_reducible assumption) | assumption)) q69 hroom69; have hr69 := Kd.C_take (m := ((ji44) : Int).toNat) hC69 (by omega); have hy69 : y170.length = ((ji44) : Int).toNat := (by rw [Ny170.out, List.length_take]; omega); rw [← Ny170.out] at hr69; rw [← hy69] at hcut69; have HR173 := Aside0.mk hr69; have HC173 := Aside0.mk (show y170.length ≤ co34 from by omega); clear hr69 hC69 hroom69 hi069 hsz69; have KY69 := Aside0.mk hy69; clear hy69; have KL69 := Aside0.mk (show ((ji44) : Int).toNat ≤ t130.length from by omega); replace q69 := eq_true q69) | ((with_reducible refine gate_callee (f := 26) rfl ?_); refine goesL_ (some 101) rfl rfl Try.func26 (by kernel_rfl) rfl #[.slice Ao34 y170.length co34, .int .i64 0] rfl (by (try simp only [List.map_toArray, List.map_cons, List.map_nil]); first | done | rfl | (simp only [List.length_drop, List.length_take]; rfl)) ?_; (with_reducible refine (num_GetText.calls kj20 _ _ y170 0 t174 t175 t176 _ ?side1 ?side2 A47.out).mono ?_); (case side1 => repeat (first | exact (by repeat (first | (with_reducible exact HR173.out) | (with_reducible refine Kd.C_alloc ?_ _) | (with_reducible refine Kd.C_drewN ?_ _) | (with_reducible refine Kd.C_drew ?_) | exact HR173.out)) | (with_reducible refine Kd.C_alloc ?_ _) | (with_reducible refine Kd.C_drewN ?_ _) | (with_reducible refine Kd.C_drew ?_))); (case side2 => exact HC173.out); rintro e w' ⟨rfl, ⟨nd, rfl⟩⟩; refine ⟨_, rfl, ?_⟩))
                                          go_ret
                                          exact ⟨by first | rfl | (simp [errW_none, errW_some] <;> rfl) | (simp only [← hji40, ← hji44]; first | rfl | (simp [errW_none, errW_some] <;> rfl)) | (simp [*, errW_none, errW_some] <;> rfl), by repeat (first | (with_reducible first | exact HB.out | apply below_alloc | apply pw_below_drewN | apply below_drew1) | exact HB.out)⟩
                                      · rw [if_neg c50] at H
                                        have c50b0 : (t158 == (wrap64 ((l2.length : Int) + (t127.length : Int)))) = false := beq_eq_false_iff_ne.mpr c50
                                        have c50b1 : (t158 != (wrap64 ((l2.length : Int) + (t127.length : Int)))) = true := bne_iff_ne.mpr c50
                                        obtain rfl := Option.some.inj H
                                        have q70 : ((ji40) : Int) ≤ ((t127.length : Int) : Int) := of_decide_eq_true (by first | (with_reducible assumption) | assumption)
                                        obtain ⟨i070, hi070, _, hsz70, _⟩ := info_parts info5
                                        have hroom70 : t127.length ≤ co28 := (Kd.R_reads' HO_10.out).2.1
                                        have hC70 : Kd.C (Kd.int .u8) _ Ao28 t127.length t127 := (Kd.R_reads' HO_10.out).2.2
                                        have hcut70 := cut_to (P := Try.prog) 22 5 .i64 Try.underlying22 hi070 Ao28 t127.length co28 (ji40) (of_decide_eq_true (by first | (with_reducible assumption) | assumption)) q70 hroom70
                                        have hr70 := Kd.C_take (m := ((ji40) : Int).toNat) hC70 (by omega)
                                        have hy70 : y163.length = ((ji40) : Int).toNat := (by rw [Ny163.out, List.length_take]; omega)
                                        rw [← Ny163.out] at hr70
                                        rw [← hy70] at hcut70
                                        have HR166 := Aside0.mk hr70
                                        have HC166 := Aside0.mk (show y163.length ≤ co28 from by omega)
                                        clear hr70 hC70 hroom70 hi070 hsz70
                                        have KY70 := Aside0.mk hy70
                                        clear hy70
                                        have KL70 := Aside0.mk (show ((ji40) : Int).toNat ≤ t127.length from by omega)
                                        replace q70 := eq_true q70
                                        go_wp2_with (first | ((with_reducible refine gate_callee (f := 24) rfl ?_); refine goesL_ (some 91) rfl rfl Try.func24 (by kernel_rfl) rfl #[.slice Ao28 y163.length co28, .int .i64 0] rfl (by (try simp only [List.map_toArray, List.map_cons, List.map_nil]); first | done | rfl | (simp only [List.length_drop, List.length_take]; rfl)) ?_; (with_reducible refine (num_Get.calls kj20 _ _ y163 0 t167 t168 t169 _ ?side1 ?side2 A43.out).mono ?_); (case side1 => repeat (first | exact (by repeat (first | (with_reducible exact HR166.out) | (with_reducible refine Kd.C_alloc ?_ _) | (with_reducible refine Kd.C_drewN ?_ _) | (with_reducible refine Kd.C_drew ?_) | exact HR166.out)) | (with_reducible refine Kd.C_alloc ?_ _) | (with_reducible refine Kd.C_drewN ?_ _) | (with_reducible refine Kd.C_drew ?_))); (case side2 => exact HC166.out); rintro e w' ⟨rfl, ⟨nd, rfl⟩⟩; refine ⟨_, rfl, ?_⟩; have q71 : ((ji44) : Int) ≤ ((t130.length : Int) : Int) := of_decide_eq_true (by first | (with_reducible assumption) | assumption); obtain ⟨i071, hi071, _, hsz71, _⟩ := info_parts info5; have hroom71 : t130.length ≤ co34 := (Kd.R_reads' HO_11.out).2.1; have hC71 : Kd.C (Kd.int .u8) _ Ao34 t130.length t130 := (Kd.R_reads' HO_11.out).2.2; have hcut71 := cut_to (P := Try.prog) 22 5 .i64 Try.underlying22 hi071 Ao34 t130.length co34 (ji44) (of_decide_eq_true (by first | (with_reducible assumption) | assumption)) q71 hroom71; have hr71 := Kd.C_take (m := ((ji44) : Int).toNat) hC71 (by omega); have hy71 : y170.length = ((ji44) : Int).toNat := (by rw [Ny170.out, List.length_take]; omega); rw [← Ny170.out] at hr71; rw [← hy71] at hcut71; have HR173 := Aside0.mk hr71; have HC173 := Aside0.mk (show y170.length ≤ co34 from by omega); clear hr71 hC71 hroom71 hi071 hsz71; have KY71 := Aside0.mk hy71; clear hy71; have KL71 := Aside0.mk (show ((ji44) : Int).toNat ≤ t130.length from by omega); replace q71 := eq_true q71) | ((with_reducible refine gate_callee (f := 26) rfl ?_); refine goesL_ (some 101) rfl rfl Try.func26 (by kernel_rfl) rfl #[.slice Ao34 y170.length co34, .int .i64 0] rfl (by (try simp only [List.map_toArray, List.map_cons, List.map_nil]); first | done | rfl | (simp only [List.length_drop, List.length_take]; rfl)) ?_; (with_reducible refine (num_GetText.calls kj20 _ _ y170 0 t174 t175 t176 _ ?side1 ?side2 A47.out).mono ?_); (case side1 => repeat (first | exact (by repeat (first | (with_reducible exact HR173.out) | (with_reducible refine Kd.C_alloc ?_ _) | (with_reducible refine Kd.C_drewN ?_ _) | (with_reducible refine Kd.C_drew ?_) | exact HR173.out)) | (with_reducible refine Kd.C_alloc ?_ _) | (with_reducible refine Kd.C_drewN ?_ _) | (with_reducible refine Kd.C_drew ?_))); (case side2 => exact HC173.out); rintro e w' ⟨rfl, ⟨nd, rfl⟩⟩; refine ⟨_, rfl, ?_⟩))
                                        go_ret
                                        exact ⟨by first | rfl | (simp [errW_none, errW_some] <;> rfl) | (simp only [← hji40, ← hji44]; first | rfl | (simp [errW_none, errW_some] <;> rfl)) | (simp [*, errW_none, errW_some] <;> rfl), by repeat (first | (with_reducible first | exact HB.out | apply below_alloc | apply pw_below_drewN | apply below_drew1) | exact HB.out)⟩
                                    · rw [if_neg c49] at H
                                      have c49b0 : (t157 == (wrap64 (a0 / 2))) = false := beq_eq_false_iff_ne.mpr c49
                                      have c49b1 : (t157 != (wrap64 (a0 / 2))) = true := bne_iff_ne.mpr c49
                                      obtain rfl := Option.some.inj H
                                      have q72 : ((ji40) : Int) ≤ ((t127.length : Int) : Int) := of_decide_eq_true (by first | (with_reducible assumption) | assumption)
                                      obtain ⟨i072, hi072, _, hsz72, _⟩ := info_parts info5
                                      have hroom72 : t127.length ≤ co28 := (Kd.R_reads' HO_10.out).2.1
                                      have hC72 : Kd.C (Kd.int .u8) _ Ao28 t127.length t127 := (Kd.R_reads' HO_10.out).2.2
                                      have hcut72 := cut_to (P := Try.prog) 22 5 .i64 Try.underlying22 hi072 Ao28 t127.length co28 (ji40) (of_decide_eq_true (by first | (with_reducible assumption) | assumption)) q72 hroom72
                                      have hr72 := Kd.C_take (m := ((ji40) : Int).toNat) hC72 (by omega)
                                      have hy72 : y163.length = ((ji40) : Int).toNat := (by rw [Ny163.out, List.length_take]; omega)
                                      rw [← Ny163.out] at hr72
                                      rw [← hy72] at hcut72
                                      have HR166 := Aside0.mk hr72
                                      have HC166 := Aside0.mk (show y163.length ≤ co28 from by omega)
                                      clear hr72 hC72 hroom72 hi072 hsz72
                                      have KY72 := Aside0.mk hy72
                                      clear hy72
                                      have KL72 := Aside0.mk (show ((ji40) : Int).toNat ≤ t127.length from by omega)
                                      replace q72 := eq_true q72
                                      go_wp2_with (first | ((with_reducible refine gate_callee (f := 24) rfl ?_); refine goesL_ (some 91) rfl rfl Try.func24 (by kernel_rfl) rfl #[.slice Ao28 y163.length co28, .int .i64 0] rfl (by (try simp only [List.map_toArray, List.map_cons, List.map_nil]); first | done | rfl | (simp only [List.length_drop, List.length_take]; rfl)) ?_; (with_reducible refine (num_Get.calls kj20 _ _ y163 0 t167 t168 t169 _ ?side1 ?side2 A43.out).mono ?_); (case side1 => repeat (first | exact (by repeat (first | (with_reducible exact HR166.out) | (with_reducible refine Kd.C_alloc ?_ _) | (with_reducible refine Kd.C_drewN ?_ _) | (with_reducible refine Kd.C_drew ?_) | exact HR166.out)) | (with_reducible refine Kd.C_alloc ?_ _) | (with_reducible refine Kd.C_drewN ?_ _) | (with_reducible refine Kd.C_drew ?_))); (case side2 => exact HC166.out); rintro e w' ⟨rfl, ⟨nd, rfl⟩⟩; refine ⟨_, rfl, ?_⟩; have q73 : ((ji44) : Int) ≤ ((t130.length : Int) : Int) := of_decide_eq_true (by first | (with_reducible assumption) | assumption); obtain ⟨i073, hi073, _, hsz73, _⟩ := info_parts info5; have hroom73 : t130.length ≤ co34 := (Kd.R_reads' HO_11.out).2.1; have hC73 : Kd.C (Kd.int .u8) _ Ao34 t130.length t130 := (Kd.R_reads' HO_11.out).2.2; have hcut73 := cut_to (P := Try.prog) 22 5 .i64 Try.underlying22 hi073 Ao34 t130.length co34 (ji44) (of_decide_eq_true (by first | (with_reducible assumption) | assumption)) q73 hroom73; have hr73 := Kd.C_take (m := ((ji44) : Int).toNat) hC73 (by omega); have hy73 : y170.length = ((ji44) : Int).toNat := (by rw [Ny170.out, List.length_take]; omega); rw [← Ny170.out] at hr73; rw [← hy73] at hcut73; have HR173 := Aside0.mk hr73; have HC173 := Aside0.mk (show y170.length ≤ co34 from by omega); clear hr73 hC73 hroom73 hi073 hsz73; have KY73 := Aside0.mk hy73; clear hy73; have KL73 := Aside0.mk (show ((ji44) : Int).toNat ≤ t130.length from by omega); replace q73 := eq_true q73) | ((with_reducible refine gate_callee (f := 26) rfl ?_); refine goesL_ (some 101) rfl rfl Try.func26 (by kernel_rfl) rfl #[.slice Ao34 y170.length co34, .int .i64 0] rfl (by (try simp only [List.map_toArray, List.map_cons, List.map_nil]); first | done | rfl | (simp only [List.length_drop, List.length_take]; rfl)) ?_; (with_reducible refine (num_GetText.calls kj20 _ _ y170 0 t174 t175 t176 _ ?side1 ?side2 A47.out).mono ?_); (case side1 => repeat (first | exact (by repeat (first | (with_reducible exact HR173.out) | (with_reducible refine Kd.C_alloc ?_ _) | (with_reducible refine Kd.C_drewN ?_ _) | (with_reducible refine Kd.C_drew ?_) | exact HR173.out)) | (with_reducible refine Kd.C_alloc ?_ _) | (with_reducible refine Kd.C_drewN ?_ _) | (with_reducible refine Kd.C_drew ?_))); (case side2 => exact HC173.out); rintro e w' ⟨rfl, ⟨nd, rfl⟩⟩; refine ⟨_, rfl, ?_⟩))
                                      go_ret
                                      exact ⟨by first | rfl | (simp [errW_none, errW_some] <;> rfl) | (simp only [← hji40, ← hji44]; first | rfl | (simp [errW_none, errW_some] <;> rfl)) | (simp [*, errW_none, errW_some] <;> rfl), by repeat (first | (with_reducible first | exact HB.out | apply below_alloc | apply pw_below_drewN | apply below_drew1) | exact HB.out)⟩
                                  · replace c48 := Bool.eq_false_iff.mpr c48
                                    subst c48
                                    have H1 : (some false) = some r := by rw [if_neg (show ¬ (false = true) by decide)] at H; exact H
                                    clear H
                                    have H := H1
                                    clear H1
                                    obtain rfl := Option.some.inj H
                                    have q74 : ((ji40) : Int) ≤ ((t127.length : Int) : Int) := of_decide_eq_true (by first | (with_reducible assumption) | assumption)
                                    obtain ⟨i074, hi074, _, hsz74, _⟩ := info_parts info5
                                    have hroom74 : t127.length ≤ co28 := (Kd.R_reads' HO_10.out).2.1
                                    have hC74 : Kd.C (Kd.int .u8) _ Ao28 t127.length t127 := (Kd.R_reads' HO_10.out).2.2
                                    have hcut74 := cut_to (P := Try.prog) 22 5 .i64 Try.underlying22 hi074 Ao28 t127.length co28 (ji40) (of_decide_eq_true (by first | (with_reducible assumption) | assumption)) q74 hroom74
                                    have hr74 := Kd.C_take (m := ((ji40) : Int).toNat) hC74 (by omega)
                                    have hy74 : y163.length = ((ji40) : Int).toNat := (by rw [Ny163.out, List.length_take]; omega)
                                    rw [← Ny163.out] at hr74
                                    rw [← hy74] at hcut74
                                    have HR166 := Aside0.mk hr74
                                    have HC166 := Aside0.mk (show y163.length ≤ co28 from by omega)
                                    clear hr74 hC74 hroom74 hi074 hsz74
                                    have KY74 := Aside0.mk hy74
                                    clear hy74
                                    have KL74 := Aside0.mk (show ((ji40) : Int).toNat ≤ t127.length from by omega)
                                    replace q74 := eq_true q74
                                    go_wp2_with (first | ((with_reducible refine gate_callee (f := 24) rfl ?_); refine goesL_ (some 91) rfl rfl Try.func24 (by kernel_rfl) rfl #[.slice Ao28 y163.length co28, .int .i64 0] rfl (by (try simp only [List.map_toArray, List.map_cons, List.map_nil]); first | done | rfl | (simp only [List.length_drop, List.length_take]; rfl)) ?_; (with_reducible refine (num_Get.calls kj20 _ _ y163 0 t167 t168 t169 _ ?side1 ?side2 A43.out).mono ?_); (case side1 => repeat (first | exact (by repeat (first | (with_reducible exact HR166.out) | (with_reducible refine Kd.C_alloc ?_ _) | (with_reducible refine Kd.C_drewN ?_ _) | (with_reducible refine Kd.C_drew ?_) | exact HR166.out)) | (with_reducible refine Kd.C_alloc ?_ _) | (with_reducible refine Kd.C_drewN ?_ _) | (with_reducible refine Kd.C_drew ?_))); (case side2 => exact HC166.out); rintro e w' ⟨rfl, ⟨nd, rfl⟩⟩; refine ⟨_, rfl, ?_⟩; have q75 : ((ji44) : Int) ≤ ((t130.length : Int) : Int) := of_decide_eq_true (by first | (with_reducible assumption) | assumption); obtain ⟨i075, hi075, _, hsz75, _⟩ := info_parts info5; have hroom75 : t130.length ≤ co34 := (Kd.R_reads' HO_11.out).2.1; have hC75 : Kd.C (Kd.int .u8) _ Ao34 t130.length t130 := (Kd.R_reads' HO_11.out).2.2; have hcut75 := cut_to (P := Try.prog) 22 5 .i64 Try.underlying22 hi075 Ao34 t130.length co34 (ji44) (of_decide_eq_true (by first | (with_reducible assumption) | assumption)) q75 hroom75; have hr75 := Kd.C_take (m := ((ji44) : Int).toNat) hC75 (by omega); have hy75 : y170.length = ((ji44) : Int).toNat := (by rw [Ny170.out, List.length_take]; omega); rw [← Ny170.out] at hr75; rw [← hy75] at hcut75; have HR173 := Aside0.mk hr75; have HC173 := Aside0.mk (show y170.length ≤ co34 from by omega); clear hr75 hC75 hroom75 hi075 hsz75; have KY75 := Aside0.mk hy75; clear hy75; have KL75 := Aside0.mk (show ((ji44) : Int).toNat ≤ t130.length from by omega); replace q75 := eq_true q75) | ((with_reducible refine gate_callee (f := 26) rfl ?_); refine goesL_ (some 101) rfl rfl Try.func26 (by kernel_rfl) rfl #[.slice Ao34 y170.length co34, .int .i64 0] rfl (by (try simp only [List.map_toArray, List.map_cons, List.map_nil]); first | done | rfl | (simp only [List.length_drop, List.length_take]; rfl)) ?_; (with_reducible refine (num_GetText.calls kj20 _ _ y170 0 t174 t175 t176 _ ?side1 ?side2 A47.out).mono ?_); (case side1 => repeat (first | exact (by repeat (first | (with_reducible exact HR173.out) | (with_reducible refine Kd.C_alloc ?_ _) | (with_reducible refine Kd.C_drewN ?_ _) | (with_reducible refine Kd.C_drew ?_) | exact HR173.out)) | (with_reducible refine Kd.C_alloc ?_ _) | (with_reducible refine Kd.C_drewN ?_ _) | (with_reducible refine Kd.C_drew ?_))); (case side2 => exact HC173.out); rintro e w' ⟨rfl, ⟨nd, rfl⟩⟩; refine ⟨_, rfl, ?_⟩))
                                    go_ret
                                    exact ⟨by first | rfl | (simp [errW_none, errW_some] <;> rfl) | (simp only [← hji40, ← hji44]; first | rfl | (simp [errW_none, errW_some] <;> rfl)) | (simp [*, errW_none, errW_some] <;> rfl), by repeat (first | (with_reducible first | exact HB.out | apply below_alloc | apply pw_below_drewN | apply below_drew1) | exact HB.out)⟩
                                · rw [if_neg c46] at H
                                  exact absurd H (by simp)
                              · rw [if_neg c45] at H
                                exact absurd H (by simp)
                            · rw [if_neg c42] at H
                              exact absurd H (by simp)
                          · rw [if_neg c41] at H
                            exact absurd H (by simp)
                  · rw [if_neg c18] at H
                    exact absurd H (by simp)
                · rw [if_neg c17] at H
                  exact absurd H (by simp)
              · rw [if_neg c16] at H
                exact absurd H (by simp)
            · rw [if_neg c15] at H
              exact absurd H (by simp)
          · rw [if_neg c14] at H
            exact absurd H (by simp)
        · rw [if_neg c13] at H
          exact absurd H (by simp)

/-- THE ONE PURE STATEMENT of iceboxlaw1_NumBack: yours. -/
def iceboxlaw1_NumBack.Pure : Prop := ∀ (a0 : Int) (a1 : ByteArray) (l2 : List Int) (l3 : List Int), (Lit.int .u64 a0).wf = true → a1.size ≤ 140737488351232 → l2.length ≤ maxLen → l2.length * 1 ≤ 140737488351232 → (∀ x ∈ l2, (Lit.int .u8 x).wf = true) → l3.length ≤ maxLen → l3.length * 1 ≤ 140737488351232 → (∀ x ∈ l3, (Lit.int .u8 x).wf = true) → ∃ k, iceboxlaw1_NumBack.f k a0 a1 l2 l3 = some true
theorem iceboxlaw1_NumBack.walk (P : iceboxlaw1_NumBack.Pure) (a0 : Int) (a1 : ByteArray) (a2 : Option Addr) (len2 cap2 : Nat) (z2 : List Int) (a3 : Option Addr) (len3 cap3 : Nat) (z3 : List Int) (w : World) (w0 : (Lit.int .u64 a0).wf = true) (w1 : a1.size ≤ 140737488351232) (w2 : (a2 = none ∧ len2 = 0 ∧ cap2 = 0 ∧ z2 = []) ∨ ∃ x, a2 = some x ∧ len2 ≤ cap2 ∧ cap2 ≤ maxLen ∧ z2.length = cap2 ∧ (∀ i, i < z2.length → w.cell? (x.add i) = some (.int .u8 (z2.getD i 0))) ∧ ∀ n ∈ z2, (Lit.int .u8 n).wf = true) (y2 : len2 * 1 ≤ 140737488351232) (w3 : (a3 = none ∧ len3 = 0 ∧ cap3 = 0 ∧ z3 = []) ∨ ∃ x, a3 = some x ∧ len3 ≤ cap3 ∧ cap3 ≤ maxLen ∧ z3.length = cap3 ∧ (∀ i, i < z3.length → w.cell? (x.add i) = some (.int .u8 (z3.getD i 0))) ∧ ∀ n ∈ z3, (Lit.int .u8 n).wf = true) (y3 : len3 * 1 ≤ 140737488351232) :
    Calls Try.prog 9 #[.int .u64 a0, .string a1, .slice a2 len2 cap2, .slice a3 len3 cap3] w fun e w' => e = .returned (.bool true) ∧ Below w.heap.size w w' := by
  obtain ⟨l2, rfl, hr2, hm2, hw2, hc2⟩ := ReadsInt.ofRowC w2
  obtain ⟨l3, rfl, hr3, hm3, hw3, hc3⟩ := ReadsInt.ofRowC w3
  obtain ⟨k, h⟩ := P a0 a1 l2 l3 w0 w1 hm2 y2 hw2 hm3 y3 hw3
  refine (iceboxlaw1_NumBack.calls k a0 a1 _ _ l2 _ _ l3 true w (Kd.C_of_reads (d := (0 : Int)) (h1 := fun _ => rfl) hr2) hc2 (Kd.C_of_reads (d := (0 : Int)) (h1 := fun _ => rfl) hr3) hc3 h).mono ?_
  rintro e w' ⟨rfl, hd⟩
  exact ⟨rfl, hd⟩

end Go.Proofs.Ytkdchjbbhbfjfaa.PNumBack
