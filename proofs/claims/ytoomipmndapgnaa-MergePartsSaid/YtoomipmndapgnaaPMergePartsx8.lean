/- The functions that a law reaches, as Lean functions, each with the contract that its Go code comes to just these answers. Written by a program of this claim's author (wip/mkprint.py). No conditions. -/
import Derived.Test.YtoomipmndapgnaaPMergePartsx0
import Derived.Test.YtoomipmndapgnaaPMergePartsx3
import Derived.Test.YtoomipmndapgnaaPMergePartsx7
namespace Go.Proofs.Ytoomipmndapgnaa.PMergeParts
open Go.RowKit Go.Proofs.YtoomipmndapgnaaW.PrintWords Go.Proofs.YtoomipmndapgnaaW.PrintLast Go.Proofs.YtoomipmndapgnaaW.PrintMore
attribute [local go_sem] max2_int min2_int max_two min_two max_three min_three max_four min_four   -- for this text's walks alone
set_option linter.unusedVariables false
set_option linter.unusedSimpArgs false

/-! ### merge_Merge: function 23 -/
mutual
def merge_Merge.l0 : Nat → List (List (S31)) → List (List (S31)) → Int → Int → Option ((List (S31)))
 | 0, _, _, _, _ => none
 | k + 1, x3, x12, x13, x14 => if x14 < x13 then (if 0 ≤ x14 then (if x14 < (x12.length : Int) then ((merge_sorted.f k (rd_L5 x12 x14)).bind fun t191 => (if x3.length < 5864062014805 then (merge_Merge.l0 k (x3 ++ [t191]) x12 x13 (wrap64 (x14 + 1))) else (none))) else (none)) else (none)) else (merge_Merge.l1 k x3 ([] : List (S31)))
def merge_Merge.l1 : Nat → List (List (S31)) → List (S31) → Option ((List (S31)))
 | 0, _, _ => none
 | k + 1, x3, x6 => merge_Merge.l2 k x3 x6 (-1) x3 (x3.length : Int) 0
def merge_Merge.l2 : Nat → List (List (S31)) → List (S31) → Int → List (List (S31)) → Int → Int → Option ((List (S31)))
 | 0, _, _, _, _, _, _ => none
 | k + 1, x3, x6, x7, x24, x25, x26 => if x26 < x25 then (if 0 ≤ x26 then (if x26 < (x24.length : Int) then (if ((rd_L5 x24 x26).length : Int) = 0 then (merge_Merge.l2 k x3 x6 x7 x24 x25 (wrap64 (x26 + 1))) else (if x7 < 0 then (merge_Merge.l2 k x3 x6 x26 x24 x25 (wrap64 (x26 + 1))) else (if 0 < ((rd_L5 x24 x26).length : Int) then (if 0 ≤ x7 then (if x7 < (x3.length : Int) then (if 0 < ((rd_L5 x3 x7).length : Int) then ((key_Cmp.f k ((rd_T31 (rd_L5 x24 x26) 0).f0.f0) ((rd_T31 (rd_L5 x24 x26) 0).f0.f1) ((rd_T31 (rd_L5 x24 x26) 0).f0.f2) ((rd_T31 (rd_L5 x3 x7) 0).f0.f0) ((rd_T31 (rd_L5 x3 x7) 0).f0.f1) ((rd_T31 (rd_L5 x3 x7) 0).f0.f2)).bind fun t201 => (if t201 < 0 then (merge_Merge.l2 k x3 x6 x26 x24 x25 (wrap64 (x26 + 1))) else (merge_Merge.l2 k x3 x6 x7 x24 x25 (wrap64 (x26 + 1))))) else (none)) else (none)) else (none)) else (none)))) else (none)) else (none)) else (if x7 < 0 then (some x6) else (if 0 ≤ x7 then (if x7 < (x3.length : Int) then (if 0 < ((rd_L5 x3 x7).length : Int) then (if 1 ≤ ((rd_L5 x3 x7).length : Int) then ((some (x3.set (x7 : Int).toNat ((rd_L5 x3 x7).drop 1) : List (List (S31)))).bind fun y211 => (if (x6.length : Int) > 0 then (if 0 ≤ (wrap64 ((x6.length : Int) - 1)) then (if (wrap64 ((x6.length : Int) - 1)) < (x6.length : Int) then ((key_Cmp.f k ((rd_T31 x6 (wrap64 ((x6.length : Int) - 1))).f0.f0) ((rd_T31 x6 (wrap64 ((x6.length : Int) - 1))).f0.f1) ((rd_T31 x6 (wrap64 ((x6.length : Int) - 1))).f0.f2) ((rd_T31 (rd_L5 x3 x7) 0).f0.f0) ((rd_T31 (rd_L5 x3 x7) 0).f0.f1) ((rd_T31 (rd_L5 x3 x7) 0).f0.f2)).bind fun t213 => (if t213 = 0 then (merge_Merge.l1 k y211 x6) else (if x6.length < 2932031007402 then (merge_Merge.l1 k y211 (x6 ++ [(⟨(⟨(rd_T31 (rd_L5 x3 x7) 0).f0.f0, (rd_T31 (rd_L5 x3 x7) 0).f0.f1, (rd_T31 (rd_L5 x3 x7) 0).f0.f2⟩ : S29), (rd_T31 (rd_L5 x3 x7) 0).f1⟩ : S31)])) else (none)))) else (none)) else (none)) else (if x6.length < 2932031007402 then (merge_Merge.l1 k y211 (x6 ++ [(⟨(⟨(rd_T31 (rd_L5 x3 x7) 0).f0.f0, (rd_T31 (rd_L5 x3 x7) 0).f0.f1, (rd_T31 (rd_L5 x3 x7) 0).f0.f2⟩ : S29), (rd_T31 (rd_L5 x3 x7) 0).f1⟩ : S31)])) else (none)))) else (none)) else (none)) else (none)) else (none)))
end
def merge_Merge.f (k : Nat) (l0 : List (List (S31))) : Option ((List (S31))) := merge_Merge.l0 k ([] : List (List (S31))) l0 (l0.length : Int) 0
theorem merge_Merge.mono_l : ∀ k, (∀ y0 y1 y2 y3, LeO (merge_Merge.l0 k y0 y1 y2 y3) (merge_Merge.l0 (k + 1) y0 y1 y2 y3)) ∧ (∀ y0 y1, LeO (merge_Merge.l1 k y0 y1) (merge_Merge.l1 (k + 1) y0 y1)) ∧ (∀ y0 y1 y2 y3 y4 y5, LeO (merge_Merge.l2 k y0 y1 y2 y3 y4 y5) (merge_Merge.l2 (k + 1) y0 y1 y2 y3 y4 y5))
 | 0 => ⟨fun _ _ _ _ r h => by simp [merge_Merge.l0] at h, fun _ _ r h => by simp [merge_Merge.l1] at h, fun _ _ _ _ _ _ r h => by simp [merge_Merge.l2] at h⟩
 | k + 1 => by
  obtain ⟨ih0, ih1, ih2⟩ := merge_Merge.mono_l k
  refine ⟨?_, ?_, ?_⟩
  ·
   intro y0 y1 y2 y3
   unfold merge_Merge.l0
   repeat' first
   | (with_reducible exact ih0 _ _ _ _)
   | (with_reducible exact ih1 _ _)
   | (with_reducible exact ih2 _ _ _ _ _ _)
   | (with_reducible exact key_Cmp.mono _ _ _ _ _ _ _)
   | (with_reducible exact merge_sorted.mono _ _)
   | (with_reducible exact LeO.refl _)
   | (with_reducible exact LeO.none _)
   | (with_reducible refine LeO.ite ?_ ?_)
   | (with_reducible refine LeO.bind ?_ (fun _ => ?_))
   | exact ih0 _ _ _ _
   | exact ih1 _ _
   | exact ih2 _ _ _ _ _ _
   | exact key_Cmp.mono _ _ _ _ _ _ _
   | exact merge_sorted.mono _ _
   | exact LeO.none _
   | refine LeO.ite ?_ ?_
   | refine LeO.bind ?_ (fun _ => ?_)
  ·
   intro y0 y1
   unfold merge_Merge.l1
   repeat' first
   | (with_reducible exact ih0 _ _ _ _)
   | (with_reducible exact ih1 _ _)
   | (with_reducible exact ih2 _ _ _ _ _ _)
   | (with_reducible exact key_Cmp.mono _ _ _ _ _ _ _)
   | (with_reducible exact merge_sorted.mono _ _)
   | (with_reducible exact LeO.refl _)
   | (with_reducible exact LeO.none _)
   | (with_reducible refine LeO.ite ?_ ?_)
   | (with_reducible refine LeO.bind ?_ (fun _ => ?_))
   | exact ih0 _ _ _ _
   | exact ih1 _ _
   | exact ih2 _ _ _ _ _ _
   | exact key_Cmp.mono _ _ _ _ _ _ _
   | exact merge_sorted.mono _ _
   | exact LeO.none _
   | refine LeO.ite ?_ ?_
   | refine LeO.bind ?_ (fun _ => ?_)
  ·
   intro y0 y1 y2 y3 y4 y5
   unfold merge_Merge.l2
   repeat' first
   | (with_reducible exact ih0 _ _ _ _)
   | (with_reducible exact ih1 _ _)
   | (with_reducible exact ih2 _ _ _ _ _ _)
   | (with_reducible exact key_Cmp.mono _ _ _ _ _ _ _)
   | (with_reducible exact merge_sorted.mono _ _)
   | (with_reducible exact LeO.refl _)
   | (with_reducible exact LeO.none _)
   | (with_reducible refine LeO.ite ?_ ?_)
   | (with_reducible refine LeO.bind ?_ (fun _ => ?_))
   | exact ih0 _ _ _ _
   | exact ih1 _ _
   | exact ih2 _ _ _ _ _ _
   | exact key_Cmp.mono _ _ _ _ _ _ _
   | exact merge_sorted.mono _ _
   | exact LeO.none _
   | refine LeO.ite ?_ ?_
   | refine LeO.bind ?_ (fun _ => ?_)
theorem merge_Merge.mono : ∀ a0 k, LeO (merge_Merge.f k a0) (merge_Merge.f (k + 1) a0) := by
 intro a0 k
 obtain ⟨ih0, ih1, ih2⟩ := merge_Merge.mono_l k
 unfold merge_Merge.f
 repeat' first
  | (with_reducible exact ih0 _ _ _ _)
  | (with_reducible exact ih1 _ _)
  | (with_reducible exact ih2 _ _ _ _ _ _)
  | (with_reducible exact key_Cmp.mono _ _ _ _ _ _ _)
  | (with_reducible exact merge_sorted.mono _ _)
  | (with_reducible exact LeO.refl _)
  | (with_reducible exact LeO.none _)
  | (with_reducible refine LeO.ite ?_ ?_)
  | (with_reducible refine LeO.bind ?_ (fun _ => ?_))
  | exact ih0 _ _ _ _
  | exact ih1 _ _
  | exact ih2 _ _ _ _ _ _
  | exact key_Cmp.mono _ _ _ _ _ _ _
  | exact merge_sorted.mono _ _
  | exact LeO.none _
  | refine LeO.ite ?_ ?_
  | refine LeO.bind ?_ (fun _ => ?_)
def merge_Merge.T13 : Bool × List (List Nat × List Nat) := (true, [([], []), ([0], [0]), ([1], [1]), ([2], [2]), ([3, 2], [2, 3]), ([4, 2], [2, 4]), ([5, 2], [2, 5]), ([2], [2]), ([2], [2]), ([7, 8, 2], [2, 7, 8]), ([9, 2], [2, 9]), ([10, 2], [2, 10]), ([11, 2], [2, 11]), ([12, 2], [2, 12]), ([6, 13, 2, 2], [2, 6, 13]), ([14, 2], [2, 14]), ([2, 15], [2, 15]), ([16, 14], [16])])
def merge_Merge.B13 : List Nat := [0, 1, 3, 7, 15, 31, 63, 7, 7, 391, 903, 1927, 3975, 8071, 16383, 32767, 65535, 131071]
theorem merge_Merge.tab13 : rtab .any (opsOf Try.f23 13) = merge_Merge.T13 := by kernel_rfl
theorem merge_Merge.bits13 : waitsOk merge_Merge.T13.2 merge_Merge.B13 = true := by kernel_rfl
def merge_Merge.T20 : Bool × List (List Nat × List Nat) := (true, [([], []), ([0], [0]), ([1], [1]), ([2], [2]), ([2], [2]), ([4, 2], [2, 4]), ([3, 5, 2], [2, 3, 5]), ([6, 2], [2, 6]), ([7, 2], [2, 7]), ([2], [2]), ([9, 2], [2, 9]), ([8, 10, 2, 2], [2, 8, 10]), ([11, 2], [2, 11]), ([2, 12], [2, 12])])
def merge_Merge.B20 : List Nat := [0, 1, 3, 7, 7, 23, 63, 127, 255, 7, 519, 2047, 4095, 8191]
theorem merge_Merge.tab20 : rtab .any (opsOf Try.f23 20) = merge_Merge.T20 := by kernel_rfl
theorem merge_Merge.bits20 : waitsOk merge_Merge.T20.2 merge_Merge.B20 = true := by kernel_rfl
set_option maxHeartbeats 80000000 in
set_option maxRecDepth 100000 in
theorem merge_Merge.calls (k : Nat) (A0 : Option Addr) (c0 : Nat) (l0 : List (List (S31))) (r : List (S31)) (w : World) (hr0 : Kd.C (Kd.slice 31 k31) w A0 l0.length l0) (hc0 : l0.length ≤ c0) (h : merge_Merge.f k l0 = some r) :
 Calls Try.prog 23 #[.slice A0 l0.length c0] w fun e w' => ∃ v0_ : Value, e = .returned (v0_) ∧ Kd.R k31 31 w' w.heap.size (fun _ => True) v0_ r ∧ Below w.heap.size w w' := by
 have hu29 := Try.underlying29
 have hu31 := Try.underlying31
 have HR0 := Aside0.mk hr0
 have HC0 := Aside0.mk hc0
 clear hr0 hc0
 have HB := Aside0.mk (Below.refl w.heap.size w)
 have H : (merge_Merge.l0 k ([] : List (List (S31))) l0 (l0.length : Int) 0) = some r := h
 clear h
 have H' := Aside0.mk H
 clear H
 go_enter Try.func23, Try.ntmps23
 go_wp2_with (first | (with_reducible refine wp_label ?_) | (with_reducible refine wp_scope_straight ?_) | (simp only [Exit.noGoto_ret, Exit.noGoto_normal, Exit.noGoto_exit]))
 try simp only [Act.put, List.setIfInBounds_toArray, List.set_cons_zero, List.set_cons_succ]
 go_loopg [3, 14] k (fun kq v3 v14 w' => ∃ (x3_1 : List (List (S31))) (x14_1 : Int), v14 = .int .i64 x14_1 ∧ Aside0 (merge_Merge.l0 kq x3_1 l0 (l0.length : Int) x14_1 = some r) ∧ Aside0 (kq ≤ k) ∧ Aside0 (Kd.N (Kd.slice 31 k31) 24 w' w.heap.size (fun _ => True) v3 x3_1) ∧ Aside0 (Below w.heap.size w w'))
 case atStart => exact ⟨(([] : List (List (S31)))), (0), (by first | rfl | (simp; done) | (simp [*]; done)), H', ⟨Nat.le_refl _⟩, ⟨by first | exact Kd.S_nil _ _ _ _ _ | exact Kd.N_nil _ _ _ _ _ | exact Kd.V_nil _ _ _ _ _ | exact Kd.Q_nil _ _ _ _ _ | exact Kd.R_nil _ _ _ _ _⟩, ⟨by repeat (first | (with_reducible first | exact HB.out | apply below_alloc | apply pw_below_drewN | apply below_drew1) | exact HB.out | exact Below.refl _ _)⟩⟩
 case round =>
  clear H'
  obtain ⟨x3_1, x14_1, rfl, HA, HK1, HO_3, HB⟩ := hrel
  cases gk with
  | zero => exact absurd HA.out (by simp [merge_Merge.l0])
  | succ k1 =>
   have H := HA.out
   clear HA
   simp only [merge_Merge.l0] at H
   by_cases c2 : x14_1 < (l0.length : Int)
   ·
    rw [if_pos c2] at H
    have c2b0 : decide (x14_1 < (l0.length : Int)) = true := decide_eq_true c2
    clear c2
    by_cases c3 : 0 ≤ x14_1
    ·
     rw [if_pos c3] at H
     have c3b0 : decide (0 ≤ x14_1) = true := decide_eq_true c3
     clear c3
     by_cases c4 : x14_1 < (l0.length : Int)
     ·
      rw [if_pos c4] at H
      have c4b0 : decide (x14_1 < (l0.length : Int)) = true := decide_eq_true c4
      clear c4
      replace H := Option.bind_eq_some_iff.mp H
      obtain ⟨t191, A50, H⟩ := H
      replace H : (if x3_1.length < 5864062014805 then (merge_Merge.l0 k1 (x3_1 ++ [t191]) l0 (l0.length : Int) (wrap64 (x14_1 + 1))) else (none)) = some r := H
      have A5 := Aside0.mk A50
      clear A50
      by_cases c6 : x3_1.length < 5864062014805
      ·
       rw [if_pos c6] at H
       have LMc6 := Aside0.mk c6
       clear c6
       obtain ⟨y194, hy194⟩ : ∃ y_ : List (List (S31)), y_ = (x3_1 ++ [t191]) := ⟨_, rfl⟩
       replace H : (merge_Merge.l0 k1 y194 l0 (l0.length : Int) (wrap64 (x14_1 + 1))) = some r := by first | (rw [hy194]; with_reducible exact H) | (have H2_ := (Option.bind_some _ _).symm.trans H; rw [hy194]; with_reducible exact H2_) | (have H2_ := (Option.bind_some _ _).symm.trans H; with_reducible exact H2_) | with_reducible exact H | (rw [hy194]; exact H) | exact H
       have Ny194 := Aside0.mk hy194
       clear hy194
       have H' := Aside0.mk H
       clear H
       have p190 : 0 ≤ (x14_1 : Int) := of_decide_eq_true (by first | (with_reducible assumption) | assumption)
       have q190 : x14_1 < (l0.length : Int) := of_decide_eq_true (by first | (with_reducible assumption) | assumption)
       obtain ⟨ad190, A190_0, c190_0, e190, hx190_0, hl190_0, hi190_0⟩ := at_L5 HR0.out x14_1 p190 q190
       cases e190
       replace hx190_0 := (HB.out.cell (World.block_lt_of_cell? w _ hx190_0)).trans hx190_0
       have HR190_0 := Aside0.mk hi190_0
       have HC190_0 := Aside0.mk hl190_0
       clear hi190_0 hl190_0
       replace p190 := eq_true p190
       replace q190 := eq_true q190
       go_wp2_with (first | (first | (with_reducible refine wp_label ?_) | (with_reducible refine wp_scope_straight ?_) | (simp only [Exit.noGoto_ret, Exit.noGoto_normal, Exit.noGoto_exit])) | ((with_reducible refine gate_callee (f := 49) rfl ?_); refine goesL_ (some 20) rfl rfl Try.func49 (by kernel_rfl) rfl #[.slice A190_0 (rd_L5 l0 x14_1).length c190_0] rfl (by (try simp only [List.map_toArray, List.map_cons, List.map_nil]); first | done | rfl | (simp only [List.length_drop, List.length_take]; rfl)) ?_; (with_reducible refine (merge_sorted.calls k1 _ _ (rd_L5 l0 x14_1) t191 _ ?side1 ?side2 A5.out).mono ?_); (case side1 => repeat (first | exact (Kd.C_below HR190_0.out HB.out) | (with_reducible refine Kd.C_alloc ?_ _) | (with_reducible refine Kd.C_drewN ?_ _) | (with_reducible refine Kd.C_drew ?_))); (case side2 => exact HC190_0.out); rintro e w7 ⟨v192, rfl, ho0, hb⟩; refine ⟨_, rfl, ?_⟩; have n0_ := Aside0.mk (Kd.N_elder' (by (with_reducible repeat (first | apply Kd.N_alloc | apply Kd.N_drewN | apply Kd.N_drew)); exact HO_3.out) (Kd.R_base ho0) hb); have n1_ := Aside0.mk (Kd.R_lower ho0 (below_size (by repeat (first | (with_reducible first | exact HB.out | apply below_alloc | apply pw_below_drewN | apply below_drew1) | exact HB.out | exact Below.refl _ _)))); have n2_ := Aside0.mk (below_step (by repeat (first | (with_reducible first | exact HB.out | apply below_alloc | apply pw_below_drewN | apply below_drew1) | exact HB.out | exact Below.refl _ _)) hb); clear HO_3; clear HB; have HO_3 := n0_; have HO193 := n1_; have HB := n2_; clear n0_ n1_ n2_; (try clear hb); (try clear hb2); (try clear hk); (try clear hi); (try clear ho0); obtain ⟨Ao9, co9, eo9⟩ := Kd.R_slice HO193.out; subst eo9) | ((with_reducible refine gate_builtin (b := .append) (xs := #[.tmp 18, .tmp 21]) rfl ?_); at_builtin; refine Kd.N_append (Kd.slice 31 k31) (w0 := w) w.heap.size rfl (.tmp 18) (.tmp 21) 36 24 (.slice none 0 0) 24 rfl Try.underlying36 info24 rfl (by decide) (by omega) u3 x3_1 t191 [.slice Ao9 t191.length co9] (fun _ => True) (fun k_ => ((fun _ => True)) k_ ∧ some k_ ≠ (u3 : Value).ownBlock) rfl rfl ?aP (fun _ hk => hk) ?aF ?aO ?aB ?aS ?aL ?_; (case aP => exact (Kd.FK_slice_mk (Kd.R_reads' (Kd.R_mono (ok' := (fun k_ => ((fun _ => True)) k_ ∧ some k_ ≠ (u3 : Value).ownBlock)) (Kd.R_apart' (HO193.out) (Kd.N_typed HO_3.out) (by decide)) (fun k_ hk => ⟨trivial, hk.2⟩))).2.1 (Kd.R_F (Kd.R_mono (ok' := (fun k_ => ((fun _ => True)) k_ ∧ some k_ ≠ (u3 : Value).ownBlock)) (Kd.R_apart' (HO193.out) (Kd.N_typed HO_3.out) (by decide)) (fun k_ hk => ⟨trivial, hk.2⟩))))); (case aB => exact (by repeat (first | (with_reducible first | exact HB.out | apply below_alloc | apply pw_below_drewN | apply below_drew1) | exact HB.out | exact Below.refl _ _))); (case aF => exact (fun _ _ => trivial)); (case aO => exact (by (with_reducible repeat (first | apply Kd.N_alloc | apply Kd.N_drewN | apply Kd.N_drew)); exact Kd.N_mono HO_3.out (fun _ hk => trivial))); (case aS => exact (below_size (by repeat (first | (with_reducible first | exact HB.out | apply below_alloc | apply pw_below_drewN | apply below_drew1) | exact HB.out | exact Below.refl _ _)))); (case aL => have := LMc6.out; omega); intro v195 w8 ho hb hg hat; rw [← Ny194.out] at ho; have n0_ := Aside0.mk (hb); have n1_ := Aside0.mk (ho); clear HB; clear HO_3; clear HO193; have HB := n0_; have HO196 := n1_; clear n0_ n1_; clear ho hb hg hat))
       go_roundg k1
       case measure => have := HK1.out; omega
       case rel => exact ⟨(y194), (wrap64 (x14_1 + 1)), (by first | rfl | (simp; done) | (simp [*]; done)), H', ⟨by have := HK1.out; omega⟩, ⟨by (with_reducible repeat (first | apply Kd.N_alloc | apply Kd.N_drewN | apply Kd.N_drew)); exact HO196.out⟩, ⟨by repeat (first | (with_reducible first | exact HB.out | apply below_alloc | apply pw_below_drewN | apply below_drew1) | exact HB.out | exact Below.refl _ _)⟩⟩
      ·
       rw [if_neg c6] at H
       exact absurd H (by simp)
     ·
      rw [if_neg c4] at H
      exact absurd H (by simp)
    ·
     rw [if_neg c3] at H
     exact absurd H (by simp)
   ·
    rw [if_neg c2] at H
    have c2b0 : decide (x14_1 < (l0.length : Int)) = false := decide_eq_false c2
    clear c2
    have H' := Aside0.mk H
    clear H
    go_wp2_with (first | (with_reducible refine wp_label ?_) | (with_reducible refine wp_scope_straight ?_) | (simp only [Exit.noGoto_ret, Exit.noGoto_normal, Exit.noGoto_exit]))
    try simp only [Act.put, List.setIfInBounds_toArray, List.set_cons_zero, List.set_cons_succ]
    go_loopg [6] k1 (fun kq v6 w' => ∃ (x3_2 : List (List (S31))) (x6_2 : List (S31)), Aside0 (merge_Merge.l1 kq x3_2 x6_2 = some r) ∧ Aside0 (kq ≤ k1) ∧ Aside0 (Kd.N (Kd.slice 31 k31) 24 w' w.heap.size (fun k_ => some k_ ≠ (v6 : Value).ownBlock) u3 x3_2) ∧ Aside0 (Kd.R k31 31 w' w.heap.size (fun _ => True) v6 x6_2) ∧ Aside0 (Below w.heap.size w w'))
    case atStart => exact ⟨(x3_1), (([] : List (S31))), H', ⟨Nat.le_refl _⟩, ⟨by (with_reducible repeat (first | apply Kd.N_alloc | apply Kd.N_drewN | apply Kd.N_drew)); exact Kd.N_mono HO_3.out (fun _ hk => (by simp [Value.ownBlock]))⟩, ⟨by first | exact Kd.R_nil _ _ _ _ _ | exact Kd.N_nil _ _ _ _ _ | exact Kd.V_nil _ _ _ _ _ | exact Kd.Q_nil _ _ _ _ _ | exact Kd.S_nil _ _ _ _ _⟩, ⟨by repeat (first | (with_reducible first | exact HB.out | apply below_alloc | apply pw_below_drewN | apply below_drew1) | exact HB.out | exact Below.refl _ _)⟩⟩
    case round =>
     clear H'
     obtain ⟨x3_2, x6_2, HA, HK2, HO_3, HO_6, HB⟩ := hrel
     cases gk with
     | zero => exact absurd HA.out (by simp [merge_Merge.l1])
     | succ k2 =>
      have H := HA.out
      clear HA
      simp only [merge_Merge.l1] at H
      have H' := Aside0.mk H
      clear H
      obtain ⟨Ao10, co10, eo10⟩ := Kd.N_slice HO_3.out
      subst eo10
      go_wp2_with (first | (with_reducible refine wp_label ?_) | (with_reducible refine wp_scope_straight ?_) | (simp only [Exit.noGoto_ret, Exit.noGoto_normal, Exit.noGoto_exit]))
      try simp only [Act.put, List.setIfInBounds_toArray, List.set_cons_zero, List.set_cons_succ]
      go_loopg [7, 26] k2 (fun kq v7 v26 w' => ∃ (x7_3 : Int) (x26_3 : Int), v7 = .int .i64 x7_3 ∧ v26 = .int .i64 x26_3 ∧ Aside0 (merge_Merge.l2 kq x3_2 x6_2 x7_3 x3_2 (x3_2.length : Int) x26_3 = some r) ∧ Aside0 (kq ≤ k2) ∧ Aside0 (Kd.N (Kd.slice 31 k31) 24 w' w.heap.size (fun k_ => some k_ ≠ (u6 : Value).ownBlock) (.slice Ao10 x3_2.length co10) x3_2) ∧ Aside0 (Kd.R k31 31 w' w.heap.size (fun _ => True) u6 x6_2) ∧ Aside0 (Kd.N (Kd.slice 31 k31) 24 w' w.heap.size (fun k_ => some k_ ≠ (u6 : Value).ownBlock) (.slice Ao10 x3_2.length co10) x3_2) ∧ Aside0 (Below w.heap.size w w'))
      case atStart => exact ⟨((-1)), (0), (by first | rfl | (simp; done) | (simp [*]; done)), (by first | rfl | (simp; done) | (simp [*]; done)), H', ⟨Nat.le_refl _⟩, ⟨by (with_reducible repeat (first | apply Kd.N_alloc | apply Kd.N_drewN | apply Kd.N_drew)); exact HO_3.out⟩, ⟨by (with_reducible repeat (first | apply Kd.R_alloc | apply Kd.R_drewN | apply Kd.R_drew)); exact HO_6.out⟩, ⟨by (with_reducible repeat (first | apply Kd.N_alloc | apply Kd.N_drewN | apply Kd.N_drew)); exact HO_3.out⟩, ⟨by repeat (first | (with_reducible first | exact HB.out | apply below_alloc | apply pw_below_drewN | apply below_drew1) | exact HB.out | exact Below.refl _ _)⟩⟩
      case round =>
       clear H'
       obtain ⟨x7_3, x26_3, rfl, rfl, HA, HK3, HO_3, HO_6, HO_24, HB⟩ := hrel
       cases gk with
       | zero => exact absurd HA.out (by simp [merge_Merge.l2])
       | succ k3 =>
        have H := HA.out
        clear HA
        simp only [merge_Merge.l2] at H
        by_cases c11 : x26_3 < (x3_2.length : Int)
        ·
         rw [if_pos c11] at H
         have c11b0 : decide (x26_3 < (x3_2.length : Int)) = true := decide_eq_true c11
         clear c11
         by_cases c12 : 0 ≤ x26_3
         ·
          rw [if_pos c12] at H
          have c12b0 : decide (0 ≤ x26_3) = true := decide_eq_true c12
          clear c12
          by_cases c13 : x26_3 < (x3_2.length : Int)
          ·
           rw [if_pos c13] at H
           have c13b0 : decide (x26_3 < (x3_2.length : Int)) = true := decide_eq_true c13
           clear c13
           by_cases c14 : ((rd_L5 x3_2 x26_3).length : Int) = 0
           ·
            rw [if_pos c14] at H
            have c14b0 : (((rd_L5 x3_2 x26_3).length : Int) == 0) = true := beq_iff_eq.mpr c14
            have c14b1 : (((rd_L5 x3_2 x26_3).length : Int) != 0) = false := bne_eq_false_iff_eq.mpr c14
            clear c14
            have H' := Aside0.mk H
            clear H
            have p197 : 0 ≤ (x26_3 : Int) := of_decide_eq_true (by first | (with_reducible assumption) | assumption)
            have q197 : x26_3 < (x3_2.length : Int) := of_decide_eq_true (by first | (with_reducible assumption) | assumption)
            obtain ⟨ad197, A197_0, c197_0, e197, hx197_0, hl197_0, hi197_0⟩ := at_L5 (Kd.N_reads' HO_24.out).2.2 x26_3 p197 q197
            cases e197
            obtain ⟨ce197, hce197, hMe197, hcc197⟩ := Kd.N_get HO_24.out [] x26_3 p197 (by first | exact q197 | exact of_decide_eq_true (by first | (with_reducible assumption) | assumption) | (have e_ := (Kd.N_reads' HO_24.out).1; omega))
            obtain ⟨ua197_0, uc197_0, rfl, ul197_0, ge197_0⟩ := Kd.FK_slice_open hMe197
            have hv197_0 := hcc197 0 _ rfl
            rw [Nat.add_zero, show ((Kd.slice 31 k31)).sz = 1 from rfl, Nat.mul_one] at hv197_0
            replace hv197_0 := Option.some.inj (hv197_0.symm.trans hx197_0)
            injection hv197_0 with hva_ hvn_ hvc_
            rw [hva_] at ge197_0
            rw [hvc_] at ul197_0
            have HL197_0 := Aside0.mk (show Kd.V k31 31 _ w.heap.size _ _ (rd_L5 x3_2 x26_3) from Kd.V_mk ul197_0 ge197_0)
            clear hva_ hvn_ hvc_ ge197_0 ul197_0
            clear hcc197 hce197
            have HR197_0 := Aside0.mk hi197_0
            have HC197_0 := Aside0.mk hl197_0
            clear hi197_0 hl197_0
            replace p197 := eq_true p197
            replace q197 := eq_true q197
            go_wp2_with (first | (with_reducible refine wp_label ?_) | (with_reducible refine wp_scope_straight ?_) | (simp only [Exit.noGoto_ret, Exit.noGoto_normal, Exit.noGoto_exit]))
            go_roundg k3
            case measure => have := HK1.out; have := HK2.out; have := HK3.out; omega
            case rel => exact ⟨(x7_3), (wrap64 (x26_3 + 1)), (by first | rfl | (simp; done) | (simp [*]; done)), (by first | rfl | (simp; done) | (simp [*]; done)), H', ⟨by have := HK1.out; have := HK2.out; have := HK3.out; omega⟩, ⟨by (with_reducible repeat (first | apply Kd.N_alloc | apply Kd.N_drewN | apply Kd.N_drew)); exact HO_3.out⟩, ⟨by (with_reducible repeat (first | apply Kd.R_alloc | apply Kd.R_drewN | apply Kd.R_drew)); exact HO_6.out⟩, ⟨by (with_reducible repeat (first | apply Kd.N_alloc | apply Kd.N_drewN | apply Kd.N_drew)); exact HO_24.out⟩, ⟨by repeat (first | (with_reducible first | exact HB.out | apply below_alloc | apply pw_below_drewN | apply below_drew1) | exact HB.out | exact Below.refl _ _)⟩⟩
           ·
            rw [if_neg c14] at H
            have c14b0 : (((rd_L5 x3_2 x26_3).length : Int) == 0) = false := beq_eq_false_iff_ne.mpr c14
            have c14b1 : (((rd_L5 x3_2 x26_3).length : Int) != 0) = true := bne_iff_ne.mpr c14
            have c14b2 : ¬ ((rd_L5 x3_2 x26_3) = []) := fun h_ => c14 (by rw [h_]; rfl)
            by_cases c15 : x7_3 < 0
            ·
             rw [if_pos c15] at H
             have c15b0 : decide (x7_3 < 0) = true := decide_eq_true c15
             clear c15
             have H' := Aside0.mk H
             clear H
             have p197 : 0 ≤ (x26_3 : Int) := of_decide_eq_true (by first | (with_reducible assumption) | assumption)
             have q197 : x26_3 < (x3_2.length : Int) := of_decide_eq_true (by first | (with_reducible assumption) | assumption)
             obtain ⟨ad197, A197_0, c197_0, e197, hx197_0, hl197_0, hi197_0⟩ := at_L5 (Kd.N_reads' HO_24.out).2.2 x26_3 p197 q197
             cases e197
             obtain ⟨ce197, hce197, hMe197, hcc197⟩ := Kd.N_get HO_24.out [] x26_3 p197 (by first | exact q197 | exact of_decide_eq_true (by first | (with_reducible assumption) | assumption) | (have e_ := (Kd.N_reads' HO_24.out).1; omega))
             obtain ⟨ua197_0, uc197_0, rfl, ul197_0, ge197_0⟩ := Kd.FK_slice_open hMe197
             have hv197_0 := hcc197 0 _ rfl
             rw [Nat.add_zero, show ((Kd.slice 31 k31)).sz = 1 from rfl, Nat.mul_one] at hv197_0
             replace hv197_0 := Option.some.inj (hv197_0.symm.trans hx197_0)
             injection hv197_0 with hva_ hvn_ hvc_
             rw [hva_] at ge197_0
             rw [hvc_] at ul197_0
             have HL197_0 := Aside0.mk (show Kd.V k31 31 _ w.heap.size _ _ (rd_L5 x3_2 x26_3) from Kd.V_mk ul197_0 ge197_0)
             clear hva_ hvn_ hvc_ ge197_0 ul197_0
             clear hcc197 hce197
             have HR197_0 := Aside0.mk hi197_0
             have HC197_0 := Aside0.mk hl197_0
             clear hi197_0 hl197_0
             replace p197 := eq_true p197
             replace q197 := eq_true q197
             try go_wp2_with (first | (with_reducible refine wp_label ?_) | (with_reducible refine wp_scope_straight ?_) | (simp only [Exit.noGoto_ret, Exit.noGoto_normal, Exit.noGoto_exit]))
             have n0_ := Aside0.mk (Kd.N_drew HO_3.out)
             have n1_ := Aside0.mk (Kd.R_drew HO_6.out)
             have n2_ := Aside0.mk (Kd.N_drew HO_24.out)
             have n3_ := Aside0.mk (Kd.V_drew HL197_0.out)
             have n4_ := Aside0.mk (Kd.C_drew HR197_0.out)
             have n5_ := Aside0.mk (below_drew1 HB.out)
             clear HO_3
             clear HO_6
             clear HO_24
             clear HL197_0
             clear HR197_0
             clear HB
             have HO_3 := n0_
             have HO_6 := n1_
             have HO_24 := n2_
             have HL197_0 := n3_
             have HR197_0 := n4_
             have HB := n5_
             clear n0_ n1_ n2_ n3_ n4_ n5_
             refine start_ (n := 18) (S := fun w' => True) (ds := []) #[false, false, false, false, false, false, false, false, false, false, false, false, false, false, false, false, false, false] (by kernel_rfl) rfl rfl trivial (fun hHeld => ?_); refine with_tabW merge_Merge.tab13 merge_Merge.bits13 (fun HT_ HW_ => ?_)
             generalize wr.drew = w16 at HO_3 HO_6 HO_24 HL197_0 HR197_0 HB hHeld ⊢
             refine pure_ (i := 0) (N := some 36) (v := ?_) (a' := ?_) #[true, false, false, false, false, false, false, false, false, false, false, false, false, false, false, false, false, false] rfl rfl (any_of HT_.out (by kernel_rfl)) (fun _ _ _ h => h) (Or.inl ⟨by rfl, ?_⟩) ?_ ?_
             rotate_left
             ·
              intro w'
              go_simp
              with_reducible rfl
             rotate_left
             ·
              simp only [Act.put, List.setIfInBounds_toArray, List.set_cons_zero, List.set_cons_succ, i64_w, i32_w]
              rfl
             refine pure_ (i := 1) (N := some 37) (v := ?_) (a' := ?_) #[true, true, false, false, false, false, false, false, false, false, false, false, false, false, false, false, false, false] rfl rfl (any_of HT_.out (by kernel_rfl)) (fun _ _ _ h => h) (Or.inl ⟨by rfl, ?_⟩) ?_ ?_
             rotate_left
             ·
              intro w'
              go_simp
              with_reducible rfl
             rotate_left
             ·
              simp only [Act.put, List.setIfInBounds_toArray, List.set_cons_zero, List.set_cons_succ, i64_w, i32_w]
              rfl
             refine pure_ (i := 2) (N := some 38) (v := ?_) (a' := ?_) #[true, true, true, false, false, false, false, false, false, false, false, false, false, false, false, false, false, false] rfl rfl (any_of HT_.out (by kernel_rfl)) (fun _ _ _ h => h) (Or.inl ⟨by rfl, ?_⟩) ?_ ?_
             rotate_left
             ·
              intro w'
              go_simp
              with_reducible rfl
             rotate_left
             ·
              simp only [Act.put, List.setIfInBounds_toArray, List.set_cons_zero, List.set_cons_succ, i64_w, i32_w]
              rfl
             refine pure_ (i := 3) (N := some 39) (v := undef) (a' := ?_) #[true, true, true, true, false, false, false, false, false, false, false, false, false, false, false, false, false, false] rfl rfl (any_of HT_.out (by kernel_rfl)) (fun _ _ _ h => h) (Or.inr ⟨by rfl, rfl⟩) ?_ ?_
             rotate_left
             ·
              simp only [Act.put, List.setIfInBounds_toArray, List.set_cons_zero, List.set_cons_succ, i64_w, i32_w]
              rfl
             refine pure_ (i := 4) (N := some 40) (v := undef) (a' := ?_) #[true, true, true, true, true, false, false, false, false, false, false, false, false, false, false, false, false, false] rfl rfl (any_of HT_.out (by kernel_rfl)) (fun _ _ _ h => h) (Or.inr ⟨by rfl, rfl⟩) ?_ ?_
             rotate_left
             ·
              simp only [Act.put, List.setIfInBounds_toArray, List.set_cons_zero, List.set_cons_succ, i64_w, i32_w]
              rfl
             refine pure_ (i := 5) (N := some 41) (v := undef) (a' := ?_) #[true, true, true, true, true, true, false, false, false, false, false, false, false, false, false, false, false, false] rfl rfl (any_of HT_.out (by kernel_rfl)) (fun _ _ _ h => h) (Or.inr ⟨by rfl, rfl⟩) ?_ ?_
             rotate_left
             ·
              simp only [Act.put, List.setIfInBounds_toArray, List.set_cons_zero, List.set_cons_succ, i64_w, i32_w]
              rfl
             refine pure_ (i := 6) (N := some 42) (v := undef) (a' := ?_) #[true, true, true, true, true, true, true, false, false, false, false, false, false, false, false, false, false, false] rfl rfl (any_of HT_.out (by kernel_rfl)) (fun _ _ _ h => h) (Or.inr ⟨by rfl, rfl⟩) ?_ ?_
             rotate_left
             ·
              simp only [Act.put, List.setIfInBounds_toArray, List.set_cons_zero, List.set_cons_succ, i64_w, i32_w]
              rfl
             refine pure_ (i := 7) (N := some 43) (v := undef) (a' := ?_) #[true, true, true, true, true, true, true, true, false, false, false, false, false, false, false, false, false, false] rfl rfl (any_of HT_.out (by kernel_rfl)) (fun _ _ _ h => h) (Or.inr ⟨by rfl, rfl⟩) ?_ ?_
             rotate_left
             ·
              simp only [Act.put, List.setIfInBounds_toArray, List.set_cons_zero, List.set_cons_succ, i64_w, i32_w]
              rfl
             refine pure_ (i := 8) (N := some 44) (v := undef) (a' := ?_) #[true, true, true, true, true, true, true, true, true, false, false, false, false, false, false, false, false, false] rfl rfl (any_of HT_.out (by kernel_rfl)) (fun _ _ _ h => h) (Or.inr ⟨by rfl, rfl⟩) ?_ ?_
             rotate_left
             ·
              simp only [Act.put, List.setIfInBounds_toArray, List.set_cons_zero, List.set_cons_succ, i64_w, i32_w]
              rfl
             refine pure_ (i := 9) (N := some 45) (v := undef) (a' := ?_) #[true, true, true, true, true, true, true, true, true, true, false, false, false, false, false, false, false, false] rfl rfl (any_of HT_.out (by kernel_rfl)) (fun _ _ _ h => h) (Or.inr ⟨by rfl, rfl⟩) ?_ ?_
             rotate_left
             ·
              simp only [Act.put, List.setIfInBounds_toArray, List.set_cons_zero, List.set_cons_succ, i64_w, i32_w]
              rfl
             refine pure_ (i := 10) (N := some 46) (v := undef) (a' := ?_) #[true, true, true, true, true, true, true, true, true, true, true, false, false, false, false, false, false, false] rfl rfl (any_of HT_.out (by kernel_rfl)) (fun _ _ _ h => h) (Or.inr ⟨by rfl, rfl⟩) ?_ ?_
             rotate_left
             ·
              simp only [Act.put, List.setIfInBounds_toArray, List.set_cons_zero, List.set_cons_succ, i64_w, i32_w]
              rfl
             refine pure_ (i := 11) (N := some 47) (v := undef) (a' := ?_) #[true, true, true, true, true, true, true, true, true, true, true, true, false, false, false, false, false, false] rfl rfl (any_of HT_.out (by kernel_rfl)) (fun _ _ _ h => h) (Or.inr ⟨by rfl, rfl⟩) ?_ ?_
             rotate_left
             ·
              simp only [Act.put, List.setIfInBounds_toArray, List.set_cons_zero, List.set_cons_succ, i64_w, i32_w]
              rfl
             refine pure_ (i := 12) (N := some 48) (v := undef) (a' := ?_) #[true, true, true, true, true, true, true, true, true, true, true, true, true, false, false, false, false, false] rfl rfl (any_of HT_.out (by kernel_rfl)) (fun _ _ _ h => h) (Or.inr ⟨by rfl, rfl⟩) ?_ ?_
             rotate_left
             ·
              simp only [Act.put, List.setIfInBounds_toArray, List.set_cons_zero, List.set_cons_succ, i64_w, i32_w]
              rfl
             refine pure_ (i := 13) (N := some 49) (v := undef) (a' := ?_) #[true, true, true, true, true, true, true, true, true, true, true, true, true, true, false, false, false, false] rfl rfl (any_of HT_.out (by kernel_rfl)) (fun _ _ _ h => h) (Or.inr ⟨by rfl, rfl⟩) ?_ ?_
             rotate_left
             ·
              simp only [Act.put, List.setIfInBounds_toArray, List.set_cons_zero, List.set_cons_succ, i64_w, i32_w]
              rfl
             refine pure_ (i := 14) (N := some 50) (v := undef) (a' := ?_) #[true, true, true, true, true, true, true, true, true, true, true, true, true, true, true, false, false, false] rfl rfl (any_of HT_.out (by kernel_rfl)) (fun _ _ _ h => h) (Or.inr ⟨by rfl, rfl⟩) ?_ ?_
             rotate_left
             ·
              simp only [Act.put, List.setIfInBounds_toArray, List.set_cons_zero, List.set_cons_succ, i64_w, i32_w]
              rfl
             refine pure_ (i := 15) (N := some 51) (v := undef) (a' := ?_) #[true, true, true, true, true, true, true, true, true, true, true, true, true, true, true, true, false, false] rfl rfl (any_of HT_.out (by kernel_rfl)) (fun _ _ _ h => h) (Or.inr ⟨by rfl, rfl⟩) ?_ ?_
             rotate_left
             ·
              simp only [Act.put, List.setIfInBounds_toArray, List.set_cons_zero, List.set_cons_succ, i64_w, i32_w]
              rfl
             refine pure_ (i := 16) (N := some 52) (v := ?_) (a' := ?_) #[true, true, true, true, true, true, true, true, true, true, true, true, true, true, true, true, true, false] rfl rfl (any_of HT_.out (by kernel_rfl)) (fun _ _ _ h => h) (Or.inl ⟨by rfl, ?_⟩) ?_ ?_
             rotate_left
             ·
              intro w'
              go_simp
              with_reducible rfl
             rotate_left
             ·
              simp only [Act.put, List.setIfInBounds_toArray, List.set_cons_zero, List.set_cons_succ, i64_w, i32_w]
              rfl
             refine pure_ (i := 17) (N := some 35) (v := ?_) (a' := ?_) #[true, true, true, true, true, true, true, true, true, true, true, true, true, true, true, true, true, true] rfl rfl (any_of HT_.out (by kernel_rfl)) (fun _ _ _ h => h) (Or.inl ⟨by rfl, ?_⟩) ?_ ?_
             rotate_left
             ·
              intro w'
              go_simp
              with_reducible rfl
             rotate_left
             ·
              simp only [Act.put, List.setIfInBounds_toArray, List.set_cons_zero, List.set_cons_succ, i64_w, i32_w]
              rfl
             refine done_ (done_of HT_.out (by kernel_rfl)) ?_
             try go_wp2_with (first | (with_reducible refine wp_label ?_) | (with_reducible refine wp_scope_straight ?_) | (simp only [Exit.noGoto_ret, Exit.noGoto_normal, Exit.noGoto_exit]))
             go_roundg k3
             case measure => have := HK1.out; have := HK2.out; have := HK3.out; omega
             case rel => exact ⟨(x26_3), (wrap64 (x26_3 + 1)), (by first | rfl | (simp; done) | (simp [*]; done)), (by first | rfl | (simp; done) | (simp [*]; done)), H', ⟨by have := HK1.out; have := HK2.out; have := HK3.out; omega⟩, ⟨by (with_reducible repeat (first | apply Kd.N_alloc | apply Kd.N_drewN | apply Kd.N_drew)); exact HO_3.out⟩, ⟨by (with_reducible repeat (first | apply Kd.R_alloc | apply Kd.R_drewN | apply Kd.R_drew)); exact HO_6.out⟩, ⟨by (with_reducible repeat (first | apply Kd.N_alloc | apply Kd.N_drewN | apply Kd.N_drew)); exact HO_24.out⟩, ⟨by repeat (first | (with_reducible first | exact HB.out | apply below_alloc | apply pw_below_drewN | apply below_drew1) | exact HB.out | exact Below.refl _ _)⟩⟩
            ·
             rw [if_neg c15] at H
             have c15b0 : decide (x7_3 < 0) = false := decide_eq_false c15
             clear c15
             by_cases c17 : 0 < ((rd_L5 x3_2 x26_3).length : Int)
             ·
              rw [if_pos c17] at H
              have c17b0 : decide (0 < ((rd_L5 x3_2 x26_3).length : Int)) = true := decide_eq_true c17
              have c17b1 : decide (0 < (rd_L5 x3_2 x26_3).length) = true := decide_eq_true (by omega)
              clear c17
              by_cases c18 : 0 ≤ x7_3
              ·
               rw [if_pos c18] at H
               have c18b0 : decide (0 ≤ x7_3) = true := decide_eq_true c18
               clear c18
               by_cases c19 : x7_3 < (x3_2.length : Int)
               ·
                rw [if_pos c19] at H
                have c19b0 : decide (x7_3 < (x3_2.length : Int)) = true := decide_eq_true c19
                clear c19
                by_cases c20 : 0 < ((rd_L5 x3_2 x7_3).length : Int)
                ·
                 rw [if_pos c20] at H
                 have c20b0 : decide (0 < ((rd_L5 x3_2 x7_3).length : Int)) = true := decide_eq_true c20
                 have c20b1 : decide (0 < (rd_L5 x3_2 x7_3).length) = true := decide_eq_true (by omega)
                 clear c20
                 replace H := Option.bind_eq_some_iff.mp H
                 obtain ⟨t201, A210, H⟩ := H
                 replace H : (if t201 < 0 then (merge_Merge.l2 k3 x3_2 x6_2 x26_3 x3_2 (x3_2.length : Int) (wrap64 (x26_3 + 1))) else (merge_Merge.l2 k3 x3_2 x6_2 x7_3 x3_2 (x3_2.length : Int) (wrap64 (x26_3 + 1)))) = some r := H
                 have A21 := Aside0.mk A210
                 clear A210
                 by_cases c22 : t201 < 0
                 ·
                  rw [if_pos c22] at H
                  have c22b0 : decide (t201 < 0) = true := decide_eq_true c22
                  clear c22
                  have H' := Aside0.mk H
                  clear H
                  have p197 : 0 ≤ (x26_3 : Int) := of_decide_eq_true (by first | (with_reducible assumption) | assumption)
                  have q197 : x26_3 < (x3_2.length : Int) := of_decide_eq_true (by first | (with_reducible assumption) | assumption)
                  obtain ⟨ad197, A197_0, c197_0, e197, hx197_0, hl197_0, hi197_0⟩ := at_L5 (Kd.N_reads' HO_24.out).2.2 x26_3 p197 q197
                  cases e197
                  obtain ⟨ce197, hce197, hMe197, hcc197⟩ := Kd.N_get HO_24.out [] x26_3 p197 (by first | exact q197 | exact of_decide_eq_true (by first | (with_reducible assumption) | assumption) | (have e_ := (Kd.N_reads' HO_24.out).1; omega))
                  obtain ⟨ua197_0, uc197_0, rfl, ul197_0, ge197_0⟩ := Kd.FK_slice_open hMe197
                  have hv197_0 := hcc197 0 _ rfl
                  rw [Nat.add_zero, show ((Kd.slice 31 k31)).sz = 1 from rfl, Nat.mul_one] at hv197_0
                  replace hv197_0 := Option.some.inj (hv197_0.symm.trans hx197_0)
                  injection hv197_0 with hva_ hvn_ hvc_
                  rw [hva_] at ge197_0
                  rw [hvc_] at ul197_0
                  have HL197_0 := Aside0.mk (show Kd.V k31 31 _ w.heap.size _ _ (rd_L5 x3_2 x26_3) from Kd.V_mk ul197_0 ge197_0)
                  clear hva_ hvn_ hvc_ ge197_0 ul197_0
                  clear hcc197 hce197
                  have HR197_0 := Aside0.mk hi197_0
                  have HC197_0 := Aside0.mk hl197_0
                  clear hi197_0 hl197_0
                  replace p197 := eq_true p197
                  replace q197 := eq_true q197
                  try go_wp2_with (first | (with_reducible refine wp_label ?_) | (with_reducible refine wp_scope_straight ?_) | (simp only [Exit.noGoto_ret, Exit.noGoto_normal, Exit.noGoto_exit]))
                  have n0_ := Aside0.mk (Kd.N_drew HO_3.out)
                  have n1_ := Aside0.mk (Kd.R_drew HO_6.out)
                  have n2_ := Aside0.mk (Kd.N_drew HO_24.out)
                  have n3_ := Aside0.mk (Kd.V_drew HL197_0.out)
                  have n4_ := Aside0.mk (Kd.C_drew HR197_0.out)
                  have n5_ := Aside0.mk (below_drew1 HB.out)
                  clear HO_3
                  clear HO_6
                  clear HO_24
                  clear HL197_0
                  clear HR197_0
                  clear HB
                  have HO_3 := n0_
                  have HO_6 := n1_
                  have HO_24 := n2_
                  have HL197_0 := n3_
                  have HR197_0 := n4_
                  have HB := n5_
                  clear n0_ n1_ n2_ n3_ n4_ n5_
                  have p198 : 0 ≤ (0 : Int) := (by omega)
                  have q198 : 0 < ((rd_L5 x3_2 x26_3).length : Int) := of_decide_eq_true (by first | (with_reducible assumption) | assumption)
                  obtain ⟨ad198, e198, hx198_0, hx198_1, hx198_2, hx198_3⟩ := at_T31 (by repeat (first | (with_reducible exact HR197_0.out) | (with_reducible refine Kd.C_alloc ?_ _) | (with_reducible refine Kd.C_drewN ?_ _) | (with_reducible refine Kd.C_drew ?_) | exact HR197_0.out)) 0 p198 q198
                  cases e198
                  have qi198 : (0 < (rd_L5 x3_2 x26_3).length) = True := eq_true (by omega)
                  (try rw [show ((0 : Int)).toNat = 0 from rfl] at hx198_0)
                  (try rw [show 0 * 4 = 0 from rfl] at hx198_0)
                  (try rw [Addr.add_zero'] at hx198_0)
                  (try rw [show ((0 : Int)).toNat = 0 from rfl] at hx198_1)
                  (try rw [show 0 * 4 = 0 from rfl] at hx198_1)
                  (try rw [Addr.add_zero'] at hx198_1)
                  (try rw [show ((0 : Int)).toNat = 0 from rfl] at hx198_2)
                  (try rw [show 0 * 4 = 0 from rfl] at hx198_2)
                  (try rw [Addr.add_zero'] at hx198_2)
                  (try rw [show ((0 : Int)).toNat = 0 from rfl] at hx198_3)
                  (try rw [show 0 * 4 = 0 from rfl] at hx198_3)
                  (try rw [Addr.add_zero'] at hx198_3)
                  replace p198 := eq_true p198
                  replace q198 := eq_true q198
                  have p199 : 0 ≤ (x7_3 : Int) := of_decide_eq_true (by first | (with_reducible assumption) | assumption)
                  have q199 : x7_3 < (x3_2.length : Int) := of_decide_eq_true (by first | (with_reducible assumption) | assumption)
                  obtain ⟨ad199, A199_0, c199_0, e199, hx199_0, hl199_0, hi199_0⟩ := at_L5 (Kd.N_reads' HO_3.out).2.2 x7_3 p199 q199
                  obtain rfl : ad197 = ad199 := (by injection e199)
                  obtain ⟨ce199, hce199, hMe199, hcc199⟩ := Kd.N_get HO_3.out [] x7_3 p199 (by first | exact q199 | exact of_decide_eq_true (by first | (with_reducible assumption) | assumption) | (have e_ := (Kd.N_reads' HO_3.out).1; omega))
                  obtain ⟨ua199_0, uc199_0, rfl, ul199_0, ge199_0⟩ := Kd.FK_slice_open hMe199
                  have hv199_0 := hcc199 0 _ rfl
                  rw [Nat.add_zero, show ((Kd.slice 31 k31)).sz = 1 from rfl, Nat.mul_one] at hv199_0
                  replace hv199_0 := Option.some.inj (hv199_0.symm.trans hx199_0)
                  injection hv199_0 with hva_ hvn_ hvc_
                  rw [hva_] at ge199_0
                  rw [hvc_] at ul199_0
                  have HL199_0 := Aside0.mk (show Kd.V k31 31 _ w.heap.size _ _ (rd_L5 x3_2 x7_3) from Kd.V_mk ul199_0 ge199_0)
                  clear hva_ hvn_ hvc_ ge199_0 ul199_0
                  clear hcc199 hce199
                  have HR199_0 := Aside0.mk hi199_0
                  have HC199_0 := Aside0.mk hl199_0
                  clear hi199_0 hl199_0
                  replace p199 := eq_true p199
                  replace q199 := eq_true q199
                  have p200 : 0 ≤ (0 : Int) := (by omega)
                  have q200 : 0 < ((rd_L5 x3_2 x7_3).length : Int) := of_decide_eq_true (by first | (with_reducible assumption) | assumption)
                  obtain ⟨ad200, e200, hx200_0, hx200_1, hx200_2, hx200_3⟩ := at_T31 (by repeat (first | (with_reducible exact HR199_0.out) | (with_reducible refine Kd.C_alloc ?_ _) | (with_reducible refine Kd.C_drewN ?_ _) | (with_reducible refine Kd.C_drew ?_) | exact HR199_0.out)) 0 p200 q200
                  cases e200
                  have qi200 : (0 < (rd_L5 x3_2 x7_3).length) = True := eq_true (by omega)
                  (try rw [show ((0 : Int)).toNat = 0 from rfl] at hx200_0)
                  (try rw [show 0 * 4 = 0 from rfl] at hx200_0)
                  (try rw [Addr.add_zero'] at hx200_0)
                  (try rw [show ((0 : Int)).toNat = 0 from rfl] at hx200_1)
                  (try rw [show 0 * 4 = 0 from rfl] at hx200_1)
                  (try rw [Addr.add_zero'] at hx200_1)
                  (try rw [show ((0 : Int)).toNat = 0 from rfl] at hx200_2)
                  (try rw [show 0 * 4 = 0 from rfl] at hx200_2)
                  (try rw [Addr.add_zero'] at hx200_2)
                  (try rw [show ((0 : Int)).toNat = 0 from rfl] at hx200_3)
                  (try rw [show 0 * 4 = 0 from rfl] at hx200_3)
                  (try rw [Addr.add_zero'] at hx200_3)
                  replace p200 := eq_true p200
                  replace q200 := eq_true q200
                  refine start_ (n := 18) (S := fun w' => w'.cell? ad198 = some (.string ((rd_T31 (rd_L5 x3_2 x26_3) 0).f0.f0)) ∧ w'.cell? ⟨ad198.block, ad198.off + 1, none⟩ = some (.int .i64 ((rd_T31 (rd_L5 x3_2 x26_3) 0).f0.f1)) ∧ w'.cell? ⟨ad198.block, ad198.off + 2, none⟩ = some (.int .i64 ((rd_T31 (rd_L5 x3_2 x26_3) 0).f0.f2)) ∧ w'.cell? ⟨ad198.block, ad198.off + 3, none⟩ = some (.string ((rd_T31 (rd_L5 x3_2 x26_3) 0).f1)) ∧ w'.cell? (ad197.add (x7_3).toNat) = some (.slice (some ad200) (rd_L5 x3_2 x7_3).length c199_0) ∧ w'.cell? ad200 = some (.string ((rd_T31 (rd_L5 x3_2 x7_3) 0).f0.f0)) ∧ w'.cell? ⟨ad200.block, ad200.off + 1, none⟩ = some (.int .i64 ((rd_T31 (rd_L5 x3_2 x7_3) 0).f0.f1)) ∧ w'.cell? ⟨ad200.block, ad200.off + 2, none⟩ = some (.int .i64 ((rd_T31 (rd_L5 x3_2 x7_3) 0).f0.f2)) ∧ w'.cell? ⟨ad200.block, ad200.off + 3, none⟩ = some (.string ((rd_T31 (rd_L5 x3_2 x7_3) 0).f1))) (ds := []) #[false, false, false, false, false, false, false, false, false, false, false, false, false, false, false, false, false, false] (by kernel_rfl) rfl rfl ⟨hx198_0, hx198_1, hx198_2, hx198_3, hx199_0, hx200_0, hx200_1, hx200_2, hx200_3⟩ (fun hHeld => ?_); refine with_tabW merge_Merge.tab13 merge_Merge.bits13 (fun HT_ HW_ => ?_)
                  generalize wr.drew = w23 at HO_3 HO_6 HO_24 HL197_0 HR197_0 HB HL199_0 HR199_0 hx198_0 hx198_1 hx198_2 hx198_3 hx199_0 hx200_0 hx200_1 hx200_2 hx200_3 hHeld ⊢
                  refine pure_ (i := 0) (N := some 36) (v := ?_) (a' := ?_) #[true, false, false, false, false, false, false, false, false, false, false, false, false, false, false, false, false, false] rfl rfl (any_of HT_.out (by kernel_rfl)) (fun _ _ _ h => h) (Or.inl ⟨by rfl, ?_⟩) ?_ ?_
                  rotate_left
                  ·
                   intro w'
                   go_simp
                   with_reducible rfl
                  rotate_left
                  ·
                   simp only [Act.put, List.setIfInBounds_toArray, List.set_cons_zero, List.set_cons_succ, i64_w, i32_w]
                   rfl
                  refine pure_ (i := 1) (N := some 37) (v := ?_) (a' := ?_) #[true, true, false, false, false, false, false, false, false, false, false, false, false, false, false, false, false, false] rfl rfl (any_of HT_.out (by kernel_rfl)) (fun _ _ _ h => h) (Or.inl ⟨by rfl, ?_⟩) ?_ ?_
                  rotate_left
                  ·
                   intro w'
                   go_simp
                   with_reducible rfl
                  rotate_left
                  ·
                   simp only [Act.put, List.setIfInBounds_toArray, List.set_cons_zero, List.set_cons_succ, i64_w, i32_w]
                   rfl
                  refine pure_ (i := 2) (N := some 38) (v := ?_) (a' := ?_) #[true, true, true, false, false, false, false, false, false, false, false, false, false, false, false, false, false, false] rfl rfl (any_of HT_.out (by kernel_rfl)) (fun _ _ _ h => h) (Or.inl ⟨by rfl, ?_⟩) ?_ ?_
                  rotate_left
                  ·
                   intro w'
                   go_simp
                   with_reducible rfl
                  rotate_left
                  ·
                   simp only [Act.put, List.setIfInBounds_toArray, List.set_cons_zero, List.set_cons_succ, i64_w, i32_w]
                   rfl
                  refine pure_ (i := 3) (N := some 39) (v := ?_) (a' := ?_) #[true, true, true, true, false, false, false, false, false, false, false, false, false, false, false, false, false, false] rfl rfl (any_of HT_.out (by kernel_rfl)) (fun _ _ _ h => h) (Or.inl ⟨by rfl, ?_⟩) ?_ ?_
                  rotate_left
                  ·
                   intro w'
                   go_simp
                   with_reducible rfl
                  rotate_left
                  ·
                   simp only [Act.put, List.setIfInBounds_toArray, List.set_cons_zero, List.set_cons_succ, i64_w, i32_w]
                   rfl
                  refine pure_ (i := 4) (N := some 40) (v := ?_) (a' := ?_) #[true, true, true, true, true, false, false, false, false, false, false, false, false, false, false, false, false, false] rfl rfl (any_of HT_.out (by kernel_rfl)) (fun _ _ _ h => h) (Or.inl ⟨by rfl, ?_⟩) ?_ ?_
                  rotate_left
                  ·
                   intro w'
                   go_simp
                   with_reducible rfl
                  rotate_left
                  ·
                   simp only [Act.put, List.setIfInBounds_toArray, List.set_cons_zero, List.set_cons_succ, i64_w, i32_w]
                   rfl
                  refine pure_ (i := 5) (N := some 41) (v := ?_) (a' := ?_) #[true, true, true, true, true, true, false, false, false, false, false, false, false, false, false, false, false, false] rfl rfl (any_of HT_.out (by kernel_rfl)) (fun _ _ _ h => h) (Or.inl ⟨by rfl, ?_⟩) ?_ ?_
                  rotate_left
                  ·
                   intro w'
                   go_simp
                   with_reducible rfl
                  rotate_left
                  ·
                   simp only [Act.put, List.setIfInBounds_toArray, List.set_cons_zero, List.set_cons_succ, i64_w, i32_w]
                   rfl
                  refine pure_ (i := 7) (N := some 43) (v := ?_) (a' := ?_) #[true, true, true, true, true, true, false, true, false, false, false, false, false, false, false, false, false, false] rfl rfl (any_of HT_.out (by kernel_rfl)) (fun _ _ _ h => h) (Or.inl ⟨by rfl, ?_⟩) ?_ ?_
                  rotate_left
                  ·
                   intro w'
                   go_simp
                   with_reducible rfl
                  rotate_left
                  ·
                   simp only [Act.put, List.setIfInBounds_toArray, List.set_cons_zero, List.set_cons_succ, i64_w, i32_w]
                   rfl
                  refine pure_ (i := 8) (N := some 44) (v := ?_) (a' := ?_) #[true, true, true, true, true, true, false, true, true, false, false, false, false, false, false, false, false, false] rfl rfl (any_of HT_.out (by kernel_rfl)) (fun _ _ _ h => h) (Or.inl ⟨by rfl, ?_⟩) ?_ ?_
                  rotate_left
                  ·
                   intro w'
                   go_simp
                   with_reducible rfl
                  rotate_left
                  ·
                   simp only [Act.put, List.setIfInBounds_toArray, List.set_cons_zero, List.set_cons_succ, i64_w, i32_w]
                   rfl
                  refine pure_ (i := 9) (N := some 45) (v := ?_) (a' := ?_) #[true, true, true, true, true, true, false, true, true, true, false, false, false, false, false, false, false, false] rfl rfl (any_of HT_.out (by kernel_rfl)) (fun _ _ _ h => h) (Or.inl ⟨by rfl, ?_⟩) ?_ ?_
                  rotate_left
                  ·
                   intro w'
                   go_simp
                   with_reducible rfl
                  rotate_left
                  ·
                   simp only [Act.put, List.setIfInBounds_toArray, List.set_cons_zero, List.set_cons_succ, i64_w, i32_w]
                   rfl
                  refine take_ (i := 6) (N := some 42) (v := ?_) (a' := ?_) #[true, true, true, true, true, true, true, true, true, true, false, false, false, false, false, false, false, false] rfl rfl (take_ofW HT_.out HW_.out (by kernel_rfl)) (fun _ _ _ h => h) (Or.inl ⟨by rfl, ?_⟩) hHeld ?_ ?_
                  rotate_left
                  ·
                   rintro w' ⟨s0, s1, s2, s3, s4, s5, s6, s7, s8⟩
                   go_simp
                   with_reducible rfl
                  rotate_left
                  ·
                   simp only [Act.put, List.setIfInBounds_toArray, List.set_cons_zero, List.set_cons_succ, i64_w, i32_w]
                   rfl
                  refine take_ (i := 10) (N := some 46) (v := ?_) (a' := ?_) #[true, true, true, true, true, true, true, true, true, true, true, false, false, false, false, false, false, false] rfl rfl (take_ofW HT_.out HW_.out (by kernel_rfl)) (fun _ _ _ h => h) (Or.inl ⟨by rfl, ?_⟩) hHeld ?_ ?_
                  rotate_left
                  ·
                   rintro w' ⟨s0, s1, s2, s3, s4, s5, s6, s7, s8⟩
                   go_simp
                   with_reducible rfl
                  rotate_left
                  ·
                   simp only [Act.put, List.setIfInBounds_toArray, List.set_cons_zero, List.set_cons_succ, i64_w, i32_w]
                   rfl
                  refine pure_ (i := 11) (N := some 47) (v := ?_) (a' := ?_) #[true, true, true, true, true, true, true, true, true, true, true, true, false, false, false, false, false, false] rfl rfl (any_of HT_.out (by kernel_rfl)) (fun _ _ _ h => h) (Or.inl ⟨by rfl, ?_⟩) ?_ ?_
                  rotate_left
                  ·
                   intro w'
                   go_simp
                   with_reducible rfl
                  rotate_left
                  ·
                   simp only [Act.put, List.setIfInBounds_toArray, List.set_cons_zero, List.set_cons_succ, i64_w, i32_w]
                   rfl
                  refine pure_ (i := 12) (N := some 48) (v := ?_) (a' := ?_) #[true, true, true, true, true, true, true, true, true, true, true, true, true, false, false, false, false, false] rfl rfl (any_of HT_.out (by kernel_rfl)) (fun _ _ _ h => h) (Or.inl ⟨by rfl, ?_⟩) ?_ ?_
                  rotate_left
                  ·
                   intro w'
                   go_simp
                   with_reducible rfl
                  rotate_left
                  ·
                   simp only [Act.put, List.setIfInBounds_toArray, List.set_cons_zero, List.set_cons_succ, i64_w, i32_w]
                   rfl
                  refine take_ (i := 13) (N := some 49) (v := ?_) (a' := ?_) #[true, true, true, true, true, true, true, true, true, true, true, true, true, true, false, false, false, false] rfl rfl (take_ofW HT_.out HW_.out (by kernel_rfl)) (fun _ _ _ h => h) (Or.inl ⟨by rfl, ?_⟩) hHeld ?_ ?_
                  rotate_left
                  ·
                   rintro w' ⟨s0, s1, s2, s3, s4, s5, s6, s7, s8⟩
                   go_simp
                   with_reducible rfl
                  rotate_left
                  ·
                   simp only [Act.put, List.setIfInBounds_toArray, List.set_cons_zero, List.set_cons_succ, i64_w, i32_w]
                   rfl
                  refine one_ (i := 14) (N := some 50) #[true, true, true, true, true, true, true, true, true, true, true, true, true, true, true, false, false, false] rfl rfl (one_of HT_.out (by kernel_rfl)) (by decide) (fun K hK => ?_)
                  refine goes_ Try.func45 (by kernel_rfl) rfl #[.agg #[.string ((rd_T31 (rd_L5 x3_2 x26_3) 0).f0.f0), .int .i64 ((rd_T31 (rd_L5 x3_2 x26_3) 0).f0.f1), .int .i64 ((rd_T31 (rd_L5 x3_2 x26_3) 0).f0.f2)], .agg #[.string ((rd_T31 (rd_L5 x3_2 x7_3) 0).f0.f0), .int .i64 ((rd_T31 (rd_L5 x3_2 x7_3) 0).f0.f1), .int .i64 ((rd_T31 (rd_L5 x3_2 x7_3) 0).f0.f2)]] (by rfl) rfl rfl (by (try simp only [List.map_toArray, List.map_cons, List.map_nil]); first | done | rfl | (simp only [List.length_drop, List.length_take]; rfl)) ?_
                  with_reducible refine (key_Cmp.calls k3 ((rd_T31 (rd_L5 x3_2 x26_3) 0).f0.f0) ((rd_T31 (rd_L5 x3_2 x26_3) 0).f0.f1) ((rd_T31 (rd_L5 x3_2 x26_3) 0).f0.f2) ((rd_T31 (rd_L5 x3_2 x7_3) 0).f0.f0) ((rd_T31 (rd_L5 x3_2 x7_3) 0).f0.f1) ((rd_T31 (rd_L5 x3_2 x7_3) 0).f0.f2) t201 _ A21.out).mono ?_
                  rintro e w24 ⟨rfl, hb⟩
                  have HS0_ := (hb.cell (World.block_lt_of_cell? _ _ (hHeld.1))).trans (hHeld.1)
                  have HS1_ := (hb.cell (World.block_lt_of_cell? _ _ (hHeld.2.1))).trans (hHeld.2.1)
                  have HS2_ := (hb.cell (World.block_lt_of_cell? _ _ (hHeld.2.2.1))).trans (hHeld.2.2.1)
                  have HS3_ := (hb.cell (World.block_lt_of_cell? _ _ (hHeld.2.2.2.1))).trans (hHeld.2.2.2.1)
                  have HS4_ := (hb.cell (World.block_lt_of_cell? _ _ (hHeld.2.2.2.2.1))).trans (hHeld.2.2.2.2.1)
                  have HS5_ := (hb.cell (World.block_lt_of_cell? _ _ (hHeld.2.2.2.2.2.1))).trans (hHeld.2.2.2.2.2.1)
                  have HS6_ := (hb.cell (World.block_lt_of_cell? _ _ (hHeld.2.2.2.2.2.2.1))).trans (hHeld.2.2.2.2.2.2.1)
                  have HS7_ := (hb.cell (World.block_lt_of_cell? _ _ (hHeld.2.2.2.2.2.2.2.1))).trans (hHeld.2.2.2.2.2.2.2.1)
                  have HS8_ := (hb.cell (World.block_lt_of_cell? _ _ (hHeld.2.2.2.2.2.2.2.2))).trans (hHeld.2.2.2.2.2.2.2.2)
                  refine ⟨_, rfl, ?_⟩
                  have n0_ := Aside0.mk (Kd.N_below (by (with_reducible repeat (first | apply Kd.N_alloc | apply Kd.N_drewN | apply Kd.N_drew)); exact HO_3.out) hb)
                  have n1_ := Aside0.mk (Kd.R_below (by (with_reducible repeat (first | apply Kd.R_alloc | apply Kd.R_drewN | apply Kd.R_drew)); exact HO_6.out) hb)
                  have n2_ := Aside0.mk (Kd.N_below (by (with_reducible repeat (first | apply Kd.N_alloc | apply Kd.N_drewN | apply Kd.N_drew)); exact HO_24.out) hb)
                  have n3_ := Aside0.mk (Kd.V_below (by (with_reducible repeat (first | apply Kd.V_alloc | apply Kd.V_drewN | apply Kd.V_drew)); exact HL197_0.out) hb)
                  have n4_ := Aside0.mk (Kd.V_below (by (with_reducible repeat (first | apply Kd.V_alloc | apply Kd.V_drewN | apply Kd.V_drew)); exact HL199_0.out) hb)
                  have n5_ := Aside0.mk (Kd.C_below (by repeat (first | (with_reducible exact HR197_0.out) | (with_reducible refine Kd.C_alloc ?_ _) | (with_reducible refine Kd.C_drewN ?_ _) | (with_reducible refine Kd.C_drew ?_) | exact HR197_0.out)) hb)
                  have n6_ := Aside0.mk (Kd.C_below (by repeat (first | (with_reducible exact HR199_0.out) | (with_reducible refine Kd.C_alloc ?_ _) | (with_reducible refine Kd.C_drewN ?_ _) | (with_reducible refine Kd.C_drew ?_) | exact HR199_0.out)) hb)
                  have n7_ := Aside0.mk (below_step (by repeat (first | (with_reducible first | exact HB.out | apply below_alloc | apply pw_below_drewN | apply below_drew1) | exact HB.out | exact Below.refl _ _)) hb)
                  clear HO_3
                  clear HO_6
                  clear HO_24
                  clear HL197_0
                  clear HL199_0
                  clear HR197_0
                  clear HR199_0
                  clear HB
                  have HO_3 := n0_
                  have HO_6 := n1_
                  have HO_24 := n2_
                  have HL197_0 := n3_
                  have HL199_0 := n4_
                  have HR197_0 := n5_
                  have HR199_0 := n6_
                  have HB := n7_
                  clear n0_ n1_ n2_ n3_ n4_ n5_ n6_ n7_
                  (try clear hb)
                  refine hK.out _ _ ⟨HS0_, HS1_, HS2_, HS3_, HS4_, HS5_, HS6_, HS7_, HS8_⟩ (fun hHeld => ?_)
                  clear hK K
                  refine norm_ (a' := ?_) ?_ ?_
                  rotate_left
                  ·
                   show Act.put _ (some 50) _ = _
                   simp only [Act.put, List.setIfInBounds_toArray, List.set_cons_zero, List.set_cons_succ, i64_w, i32_w]
                   rfl
                  refine pure_ (i := 15) (N := some 51) (v := ?_) (a' := ?_) #[true, true, true, true, true, true, true, true, true, true, true, true, true, true, true, true, false, false] rfl rfl (any_of HT_.out (by kernel_rfl)) (fun _ _ _ h => h) (Or.inl ⟨by rfl, ?_⟩) ?_ ?_
                  rotate_left
                  ·
                   intro w'
                   go_simp
                   with_reducible rfl
                  rotate_left
                  ·
                   simp only [Act.put, List.setIfInBounds_toArray, List.set_cons_zero, List.set_cons_succ, i64_w, i32_w]
                   rfl
                  refine pure_ (i := 16) (N := some 52) (v := ?_) (a' := ?_) #[true, true, true, true, true, true, true, true, true, true, true, true, true, true, true, true, true, false] rfl rfl (any_of HT_.out (by kernel_rfl)) (fun _ _ _ h => h) (Or.inl ⟨by rfl, ?_⟩) ?_ ?_
                  rotate_left
                  ·
                   intro w'
                   go_simp
                   with_reducible rfl
                  rotate_left
                  ·
                   simp only [Act.put, List.setIfInBounds_toArray, List.set_cons_zero, List.set_cons_succ, i64_w, i32_w]
                   rfl
                  refine pure_ (i := 17) (N := some 35) (v := ?_) (a' := ?_) #[true, true, true, true, true, true, true, true, true, true, true, true, true, true, true, true, true, true] rfl rfl (any_of HT_.out (by kernel_rfl)) (fun _ _ _ h => h) (Or.inl ⟨by rfl, ?_⟩) ?_ ?_
                  rotate_left
                  ·
                   intro w'
                   go_simp
                   with_reducible rfl
                  rotate_left
                  ·
                   simp only [Act.put, List.setIfInBounds_toArray, List.set_cons_zero, List.set_cons_succ, i64_w, i32_w]
                   rfl
                  refine done_ (done_of HT_.out (by kernel_rfl)) ?_
                  try go_wp2_with (first | (with_reducible refine wp_label ?_) | (with_reducible refine wp_scope_straight ?_) | (simp only [Exit.noGoto_ret, Exit.noGoto_normal, Exit.noGoto_exit]))
                  go_roundg k3
                  case measure => have := HK1.out; have := HK2.out; have := HK3.out; omega
                  case rel => exact ⟨(x26_3), (wrap64 (x26_3 + 1)), (by first | rfl | (simp; done) | (simp [*]; done)), (by first | rfl | (simp; done) | (simp [*]; done)), H', ⟨by have := HK1.out; have := HK2.out; have := HK3.out; omega⟩, ⟨by (with_reducible repeat (first | apply Kd.N_alloc | apply Kd.N_drewN | apply Kd.N_drew)); exact HO_3.out⟩, ⟨by (with_reducible repeat (first | apply Kd.R_alloc | apply Kd.R_drewN | apply Kd.R_drew)); exact HO_6.out⟩, ⟨by (with_reducible repeat (first | apply Kd.N_alloc | apply Kd.N_drewN | apply Kd.N_drew)); exact HO_24.out⟩, ⟨by repeat (first | (with_reducible first | exact HB.out | apply below_alloc | apply pw_below_drewN | apply below_drew1) | exact HB.out | exact Below.refl _ _)⟩⟩
                 ·
                  rw [if_neg c22] at H
                  have c22b0 : decide (t201 < 0) = false := decide_eq_false c22
                  clear c22
                  have H' := Aside0.mk H
                  clear H
                  have p197 : 0 ≤ (x26_3 : Int) := of_decide_eq_true (by first | (with_reducible assumption) | assumption)
                  have q197 : x26_3 < (x3_2.length : Int) := of_decide_eq_true (by first | (with_reducible assumption) | assumption)
                  obtain ⟨ad197, A197_0, c197_0, e197, hx197_0, hl197_0, hi197_0⟩ := at_L5 (Kd.N_reads' HO_24.out).2.2 x26_3 p197 q197
                  cases e197
                  obtain ⟨ce197, hce197, hMe197, hcc197⟩ := Kd.N_get HO_24.out [] x26_3 p197 (by first | exact q197 | exact of_decide_eq_true (by first | (with_reducible assumption) | assumption) | (have e_ := (Kd.N_reads' HO_24.out).1; omega))
                  obtain ⟨ua197_0, uc197_0, rfl, ul197_0, ge197_0⟩ := Kd.FK_slice_open hMe197
                  have hv197_0 := hcc197 0 _ rfl
                  rw [Nat.add_zero, show ((Kd.slice 31 k31)).sz = 1 from rfl, Nat.mul_one] at hv197_0
                  replace hv197_0 := Option.some.inj (hv197_0.symm.trans hx197_0)
                  injection hv197_0 with hva_ hvn_ hvc_
                  rw [hva_] at ge197_0
                  rw [hvc_] at ul197_0
                  have HL197_0 := Aside0.mk (show Kd.V k31 31 _ w.heap.size _ _ (rd_L5 x3_2 x26_3) from Kd.V_mk ul197_0 ge197_0)
                  clear hva_ hvn_ hvc_ ge197_0 ul197_0
                  clear hcc197 hce197
                  have HR197_0 := Aside0.mk hi197_0
                  have HC197_0 := Aside0.mk hl197_0
                  clear hi197_0 hl197_0
                  replace p197 := eq_true p197
                  replace q197 := eq_true q197
                  try go_wp2_with (first | (with_reducible refine wp_label ?_) | (with_reducible refine wp_scope_straight ?_) | (simp only [Exit.noGoto_ret, Exit.noGoto_normal, Exit.noGoto_exit]))
                  have n0_ := Aside0.mk (Kd.N_drew HO_3.out)
                  have n1_ := Aside0.mk (Kd.R_drew HO_6.out)
                  have n2_ := Aside0.mk (Kd.N_drew HO_24.out)
                  have n3_ := Aside0.mk (Kd.V_drew HL197_0.out)
                  have n4_ := Aside0.mk (Kd.C_drew HR197_0.out)
                  have n5_ := Aside0.mk (below_drew1 HB.out)
                  clear HO_3
                  clear HO_6
                  clear HO_24
                  clear HL197_0
                  clear HR197_0
                  clear HB
                  have HO_3 := n0_
                  have HO_6 := n1_
                  have HO_24 := n2_
                  have HL197_0 := n3_
                  have HR197_0 := n4_
                  have HB := n5_
                  clear n0_ n1_ n2_ n3_ n4_ n5_
                  have p198 : 0 ≤ (0 : Int) := (by omega)
                  have q198 : 0 < ((rd_L5 x3_2 x26_3).length : Int) := of_decide_eq_true (by first | (with_reducible assumption) | assumption)
                  obtain ⟨ad198, e198, hx198_0, hx198_1, hx198_2, hx198_3⟩ := at_T31 (by repeat (first | (with_reducible exact HR197_0.out) | (with_reducible refine Kd.C_alloc ?_ _) | (with_reducible refine Kd.C_drewN ?_ _) | (with_reducible refine Kd.C_drew ?_) | exact HR197_0.out)) 0 p198 q198
                  cases e198
                  have qi198 : (0 < (rd_L5 x3_2 x26_3).length) = True := eq_true (by omega)
                  (try rw [show ((0 : Int)).toNat = 0 from rfl] at hx198_0)
                  (try rw [show 0 * 4 = 0 from rfl] at hx198_0)
                  (try rw [Addr.add_zero'] at hx198_0)
                  (try rw [show ((0 : Int)).toNat = 0 from rfl] at hx198_1)
                  (try rw [show 0 * 4 = 0 from rfl] at hx198_1)
                  (try rw [Addr.add_zero'] at hx198_1)
                  (try rw [show ((0 : Int)).toNat = 0 from rfl] at hx198_2)
                  (try rw [show 0 * 4 = 0 from rfl] at hx198_2)
                  (try rw [Addr.add_zero'] at hx198_2)
                  (try rw [show ((0 : Int)).toNat = 0 from rfl] at hx198_3)
                  (try rw [show 0 * 4 = 0 from rfl] at hx198_3)
                  (try rw [Addr.add_zero'] at hx198_3)
                  replace p198 := eq_true p198
                  replace q198 := eq_true q198
                  have p199 : 0 ≤ (x7_3 : Int) := of_decide_eq_true (by first | (with_reducible assumption) | assumption)
                  have q199 : x7_3 < (x3_2.length : Int) := of_decide_eq_true (by first | (with_reducible assumption) | assumption)
                  obtain ⟨ad199, A199_0, c199_0, e199, hx199_0, hl199_0, hi199_0⟩ := at_L5 (Kd.N_reads' HO_3.out).2.2 x7_3 p199 q199
                  obtain rfl : ad197 = ad199 := (by injection e199)
                  obtain ⟨ce199, hce199, hMe199, hcc199⟩ := Kd.N_get HO_3.out [] x7_3 p199 (by first | exact q199 | exact of_decide_eq_true (by first | (with_reducible assumption) | assumption) | (have e_ := (Kd.N_reads' HO_3.out).1; omega))
                  obtain ⟨ua199_0, uc199_0, rfl, ul199_0, ge199_0⟩ := Kd.FK_slice_open hMe199
                  have hv199_0 := hcc199 0 _ rfl
                  rw [Nat.add_zero, show ((Kd.slice 31 k31)).sz = 1 from rfl, Nat.mul_one] at hv199_0
                  replace hv199_0 := Option.some.inj (hv199_0.symm.trans hx199_0)
                  injection hv199_0 with hva_ hvn_ hvc_
                  rw [hva_] at ge199_0
                  rw [hvc_] at ul199_0
                  have HL199_0 := Aside0.mk (show Kd.V k31 31 _ w.heap.size _ _ (rd_L5 x3_2 x7_3) from Kd.V_mk ul199_0 ge199_0)
                  clear hva_ hvn_ hvc_ ge199_0 ul199_0
                  clear hcc199 hce199
                  have HR199_0 := Aside0.mk hi199_0
                  have HC199_0 := Aside0.mk hl199_0
                  clear hi199_0 hl199_0
                  replace p199 := eq_true p199
                  replace q199 := eq_true q199
                  have p200 : 0 ≤ (0 : Int) := (by omega)
                  have q200 : 0 < ((rd_L5 x3_2 x7_3).length : Int) := of_decide_eq_true (by first | (with_reducible assumption) | assumption)
                  obtain ⟨ad200, e200, hx200_0, hx200_1, hx200_2, hx200_3⟩ := at_T31 (by repeat (first | (with_reducible exact HR199_0.out) | (with_reducible refine Kd.C_alloc ?_ _) | (with_reducible refine Kd.C_drewN ?_ _) | (with_reducible refine Kd.C_drew ?_) | exact HR199_0.out)) 0 p200 q200
                  cases e200
                  have qi200 : (0 < (rd_L5 x3_2 x7_3).length) = True := eq_true (by omega)
                  (try rw [show ((0 : Int)).toNat = 0 from rfl] at hx200_0)
                  (try rw [show 0 * 4 = 0 from rfl] at hx200_0)
                  (try rw [Addr.add_zero'] at hx200_0)
                  (try rw [show ((0 : Int)).toNat = 0 from rfl] at hx200_1)
                  (try rw [show 0 * 4 = 0 from rfl] at hx200_1)
                  (try rw [Addr.add_zero'] at hx200_1)
                  (try rw [show ((0 : Int)).toNat = 0 from rfl] at hx200_2)
                  (try rw [show 0 * 4 = 0 from rfl] at hx200_2)
                  (try rw [Addr.add_zero'] at hx200_2)
                  (try rw [show ((0 : Int)).toNat = 0 from rfl] at hx200_3)
                  (try rw [show 0 * 4 = 0 from rfl] at hx200_3)
                  (try rw [Addr.add_zero'] at hx200_3)
                  replace p200 := eq_true p200
                  replace q200 := eq_true q200
                  refine start_ (n := 18) (S := fun w' => w'.cell? ad198 = some (.string ((rd_T31 (rd_L5 x3_2 x26_3) 0).f0.f0)) ∧ w'.cell? ⟨ad198.block, ad198.off + 1, none⟩ = some (.int .i64 ((rd_T31 (rd_L5 x3_2 x26_3) 0).f0.f1)) ∧ w'.cell? ⟨ad198.block, ad198.off + 2, none⟩ = some (.int .i64 ((rd_T31 (rd_L5 x3_2 x26_3) 0).f0.f2)) ∧ w'.cell? ⟨ad198.block, ad198.off + 3, none⟩ = some (.string ((rd_T31 (rd_L5 x3_2 x26_3) 0).f1)) ∧ w'.cell? (ad197.add (x7_3).toNat) = some (.slice (some ad200) (rd_L5 x3_2 x7_3).length c199_0) ∧ w'.cell? ad200 = some (.string ((rd_T31 (rd_L5 x3_2 x7_3) 0).f0.f0)) ∧ w'.cell? ⟨ad200.block, ad200.off + 1, none⟩ = some (.int .i64 ((rd_T31 (rd_L5 x3_2 x7_3) 0).f0.f1)) ∧ w'.cell? ⟨ad200.block, ad200.off + 2, none⟩ = some (.int .i64 ((rd_T31 (rd_L5 x3_2 x7_3) 0).f0.f2)) ∧ w'.cell? ⟨ad200.block, ad200.off + 3, none⟩ = some (.string ((rd_T31 (rd_L5 x3_2 x7_3) 0).f1))) (ds := []) #[false, false, false, false, false, false, false, false, false, false, false, false, false, false, false, false, false, false] (by kernel_rfl) rfl rfl ⟨hx198_0, hx198_1, hx198_2, hx198_3, hx199_0, hx200_0, hx200_1, hx200_2, hx200_3⟩ (fun hHeld => ?_); refine with_tabW merge_Merge.tab13 merge_Merge.bits13 (fun HT_ HW_ => ?_)
                  generalize wr.drew = w25 at HO_3 HO_6 HO_24 HL197_0 HR197_0 HB HL199_0 HR199_0 hx198_0 hx198_1 hx198_2 hx198_3 hx199_0 hx200_0 hx200_1 hx200_2 hx200_3 hHeld ⊢
                  refine pure_ (i := 0) (N := some 36) (v := ?_) (a' := ?_) #[true, false, false, false, false, false, false, false, false, false, false, false, false, false, false, false, false, false] rfl rfl (any_of HT_.out (by kernel_rfl)) (fun _ _ _ h => h) (Or.inl ⟨by rfl, ?_⟩) ?_ ?_
                  rotate_left
                  ·
                   intro w'
                   go_simp
                   with_reducible rfl
                  rotate_left
                  ·
                   simp only [Act.put, List.setIfInBounds_toArray, List.set_cons_zero, List.set_cons_succ, i64_w, i32_w]
                   rfl
                  refine pure_ (i := 1) (N := some 37) (v := ?_) (a' := ?_) #[true, true, false, false, false, false, false, false, false, false, false, false, false, false, false, false, false, false] rfl rfl (any_of HT_.out (by kernel_rfl)) (fun _ _ _ h => h) (Or.inl ⟨by rfl, ?_⟩) ?_ ?_
                  rotate_left
                  ·
                   intro w'
                   go_simp
                   with_reducible rfl
                  rotate_left
                  ·
                   simp only [Act.put, List.setIfInBounds_toArray, List.set_cons_zero, List.set_cons_succ, i64_w, i32_w]
                   rfl
                  refine pure_ (i := 2) (N := some 38) (v := ?_) (a' := ?_) #[true, true, true, false, false, false, false, false, false, false, false, false, false, false, false, false, false, false] rfl rfl (any_of HT_.out (by kernel_rfl)) (fun _ _ _ h => h) (Or.inl ⟨by rfl, ?_⟩) ?_ ?_
                  rotate_left
                  ·
                   intro w'
                   go_simp
                   with_reducible rfl
                  rotate_left
                  ·
                   simp only [Act.put, List.setIfInBounds_toArray, List.set_cons_zero, List.set_cons_succ, i64_w, i32_w]
                   rfl
                  refine pure_ (i := 3) (N := some 39) (v := ?_) (a' := ?_) #[true, true, true, true, false, false, false, false, false, false, false, false, false, false, false, false, false, false] rfl rfl (any_of HT_.out (by kernel_rfl)) (fun _ _ _ h => h) (Or.inl ⟨by rfl, ?_⟩) ?_ ?_
                  rotate_left
                  ·
                   intro w'
                   go_simp
                   with_reducible rfl
                  rotate_left
                  ·
                   simp only [Act.put, List.setIfInBounds_toArray, List.set_cons_zero, List.set_cons_succ, i64_w, i32_w]
                   rfl
                  refine pure_ (i := 4) (N := some 40) (v := ?_) (a' := ?_) #[true, true, true, true, true, false, false, false, false, false, false, false, false, false, false, false, false, false] rfl rfl (any_of HT_.out (by kernel_rfl)) (fun _ _ _ h => h) (Or.inl ⟨by rfl, ?_⟩) ?_ ?_
                  rotate_left
                  ·
                   intro w'
                   go_simp
                   with_reducible rfl
                  rotate_left
                  ·
                   simp only [Act.put, List.setIfInBounds_toArray, List.set_cons_zero, List.set_cons_succ, i64_w, i32_w]
                   rfl
                  refine pure_ (i := 5) (N := some 41) (v := ?_) (a' := ?_) #[true, true, true, true, true, true, false, false, false, false, false, false, false, false, false, false, false, false] rfl rfl (any_of HT_.out (by kernel_rfl)) (fun _ _ _ h => h) (Or.inl ⟨by rfl, ?_⟩) ?_ ?_
                  rotate_left
                  ·
                   intro w'
                   go_simp
                   with_reducible rfl
                  rotate_left
                  ·
                   simp only [Act.put, List.setIfInBounds_toArray, List.set_cons_zero, List.set_cons_succ, i64_w, i32_w]
                   rfl
                  refine pure_ (i := 7) (N := some 43) (v := ?_) (a' := ?_) #[true, true, true, true, true, true, false, true, false, false, false, false, false, false, false, false, false, false] rfl rfl (any_of HT_.out (by kernel_rfl)) (fun _ _ _ h => h) (Or.inl ⟨by rfl, ?_⟩) ?_ ?_
                  rotate_left
                  ·
                   intro w'
                   go_simp
                   with_reducible rfl
                  rotate_left
                  ·
                   simp only [Act.put, List.setIfInBounds_toArray, List.set_cons_zero, List.set_cons_succ, i64_w, i32_w]
                   rfl
                  refine pure_ (i := 8) (N := some 44) (v := ?_) (a' := ?_) #[true, true, true, true, true, true, false, true, true, false, false, false, false, false, false, false, false, false] rfl rfl (any_of HT_.out (by kernel_rfl)) (fun _ _ _ h => h) (Or.inl ⟨by rfl, ?_⟩) ?_ ?_
                  rotate_left
                  ·
                   intro w'
                   go_simp
                   with_reducible rfl
                  rotate_left
                  ·
                   simp only [Act.put, List.setIfInBounds_toArray, List.set_cons_zero, List.set_cons_succ, i64_w, i32_w]
                   rfl
                  refine pure_ (i := 9) (N := some 45) (v := ?_) (a' := ?_) #[true, true, true, true, true, true, false, true, true, true, false, false, false, false, false, false, false, false] rfl rfl (any_of HT_.out (by kernel_rfl)) (fun _ _ _ h => h) (Or.inl ⟨by rfl, ?_⟩) ?_ ?_
                  rotate_left
                  ·
                   intro w'
                   go_simp
                   with_reducible rfl
                  rotate_left
                  ·
                   simp only [Act.put, List.setIfInBounds_toArray, List.set_cons_zero, List.set_cons_succ, i64_w, i32_w]
                   rfl
                  refine take_ (i := 6) (N := some 42) (v := ?_) (a' := ?_) #[true, true, true, true, true, true, true, true, true, true, false, false, false, false, false, false, false, false] rfl rfl (take_ofW HT_.out HW_.out (by kernel_rfl)) (fun _ _ _ h => h) (Or.inl ⟨by rfl, ?_⟩) hHeld ?_ ?_
                  rotate_left
                  ·
                   rintro w' ⟨s0, s1, s2, s3, s4, s5, s6, s7, s8⟩
                   go_simp
                   with_reducible rfl
                  rotate_left
                  ·
                   simp only [Act.put, List.setIfInBounds_toArray, List.set_cons_zero, List.set_cons_succ, i64_w, i32_w]
                   rfl
                  refine take_ (i := 10) (N := some 46) (v := ?_) (a' := ?_) #[true, true, true, true, true, true, true, true, true, true, true, false, false, false, false, false, false, false] rfl rfl (take_ofW HT_.out HW_.out (by kernel_rfl)) (fun _ _ _ h => h) (Or.inl ⟨by rfl, ?_⟩) hHeld ?_ ?_
                  rotate_left
                  ·
                   rintro w' ⟨s0, s1, s2, s3, s4, s5, s6, s7, s8⟩
                   go_simp
                   with_reducible rfl
                  rotate_left
                  ·
                   simp only [Act.put, List.setIfInBounds_toArray, List.set_cons_zero, List.set_cons_succ, i64_w, i32_w]
                   rfl
                  refine pure_ (i := 11) (N := some 47) (v := ?_) (a' := ?_) #[true, true, true, true, true, true, true, true, true, true, true, true, false, false, false, false, false, false] rfl rfl (any_of HT_.out (by kernel_rfl)) (fun _ _ _ h => h) (Or.inl ⟨by rfl, ?_⟩) ?_ ?_
                  rotate_left
                  ·
                   intro w'
                   go_simp
                   with_reducible rfl
                  rotate_left
                  ·
                   simp only [Act.put, List.setIfInBounds_toArray, List.set_cons_zero, List.set_cons_succ, i64_w, i32_w]
                   rfl
                  refine pure_ (i := 12) (N := some 48) (v := ?_) (a' := ?_) #[true, true, true, true, true, true, true, true, true, true, true, true, true, false, false, false, false, false] rfl rfl (any_of HT_.out (by kernel_rfl)) (fun _ _ _ h => h) (Or.inl ⟨by rfl, ?_⟩) ?_ ?_
                  rotate_left
                  ·
                   intro w'
                   go_simp
                   with_reducible rfl
                  rotate_left
                  ·
                   simp only [Act.put, List.setIfInBounds_toArray, List.set_cons_zero, List.set_cons_succ, i64_w, i32_w]
                   rfl
                  refine take_ (i := 13) (N := some 49) (v := ?_) (a' := ?_) #[true, true, true, true, true, true, true, true, true, true, true, true, true, true, false, false, false, false] rfl rfl (take_ofW HT_.out HW_.out (by kernel_rfl)) (fun _ _ _ h => h) (Or.inl ⟨by rfl, ?_⟩) hHeld ?_ ?_
                  rotate_left
                  ·
                   rintro w' ⟨s0, s1, s2, s3, s4, s5, s6, s7, s8⟩
                   go_simp
                   with_reducible rfl
                  rotate_left
                  ·
                   simp only [Act.put, List.setIfInBounds_toArray, List.set_cons_zero, List.set_cons_succ, i64_w, i32_w]
                   rfl
                  refine one_ (i := 14) (N := some 50) #[true, true, true, true, true, true, true, true, true, true, true, true, true, true, true, false, false, false] rfl rfl (one_of HT_.out (by kernel_rfl)) (by decide) (fun K hK => ?_)
                  refine goes_ Try.func45 (by kernel_rfl) rfl #[.agg #[.string ((rd_T31 (rd_L5 x3_2 x26_3) 0).f0.f0), .int .i64 ((rd_T31 (rd_L5 x3_2 x26_3) 0).f0.f1), .int .i64 ((rd_T31 (rd_L5 x3_2 x26_3) 0).f0.f2)], .agg #[.string ((rd_T31 (rd_L5 x3_2 x7_3) 0).f0.f0), .int .i64 ((rd_T31 (rd_L5 x3_2 x7_3) 0).f0.f1), .int .i64 ((rd_T31 (rd_L5 x3_2 x7_3) 0).f0.f2)]] (by rfl) rfl rfl (by (try simp only [List.map_toArray, List.map_cons, List.map_nil]); first | done | rfl | (simp only [List.length_drop, List.length_take]; rfl)) ?_
                  with_reducible refine (key_Cmp.calls k3 ((rd_T31 (rd_L5 x3_2 x26_3) 0).f0.f0) ((rd_T31 (rd_L5 x3_2 x26_3) 0).f0.f1) ((rd_T31 (rd_L5 x3_2 x26_3) 0).f0.f2) ((rd_T31 (rd_L5 x3_2 x7_3) 0).f0.f0) ((rd_T31 (rd_L5 x3_2 x7_3) 0).f0.f1) ((rd_T31 (rd_L5 x3_2 x7_3) 0).f0.f2) t201 _ A21.out).mono ?_
                  rintro e w26 ⟨rfl, hb⟩
                  have HS0_ := (hb.cell (World.block_lt_of_cell? _ _ (hHeld.1))).trans (hHeld.1)
                  have HS1_ := (hb.cell (World.block_lt_of_cell? _ _ (hHeld.2.1))).trans (hHeld.2.1)
                  have HS2_ := (hb.cell (World.block_lt_of_cell? _ _ (hHeld.2.2.1))).trans (hHeld.2.2.1)
                  have HS3_ := (hb.cell (World.block_lt_of_cell? _ _ (hHeld.2.2.2.1))).trans (hHeld.2.2.2.1)
                  have HS4_ := (hb.cell (World.block_lt_of_cell? _ _ (hHeld.2.2.2.2.1))).trans (hHeld.2.2.2.2.1)
                  have HS5_ := (hb.cell (World.block_lt_of_cell? _ _ (hHeld.2.2.2.2.2.1))).trans (hHeld.2.2.2.2.2.1)
                  have HS6_ := (hb.cell (World.block_lt_of_cell? _ _ (hHeld.2.2.2.2.2.2.1))).trans (hHeld.2.2.2.2.2.2.1)
                  have HS7_ := (hb.cell (World.block_lt_of_cell? _ _ (hHeld.2.2.2.2.2.2.2.1))).trans (hHeld.2.2.2.2.2.2.2.1)
                  have HS8_ := (hb.cell (World.block_lt_of_cell? _ _ (hHeld.2.2.2.2.2.2.2.2))).trans (hHeld.2.2.2.2.2.2.2.2)
                  refine ⟨_, rfl, ?_⟩
                  have n0_ := Aside0.mk (Kd.N_below (by (with_reducible repeat (first | apply Kd.N_alloc | apply Kd.N_drewN | apply Kd.N_drew)); exact HO_3.out) hb)
                  have n1_ := Aside0.mk (Kd.R_below (by (with_reducible repeat (first | apply Kd.R_alloc | apply Kd.R_drewN | apply Kd.R_drew)); exact HO_6.out) hb)
                  have n2_ := Aside0.mk (Kd.N_below (by (with_reducible repeat (first | apply Kd.N_alloc | apply Kd.N_drewN | apply Kd.N_drew)); exact HO_24.out) hb)
                  have n3_ := Aside0.mk (Kd.V_below (by (with_reducible repeat (first | apply Kd.V_alloc | apply Kd.V_drewN | apply Kd.V_drew)); exact HL197_0.out) hb)
                  have n4_ := Aside0.mk (Kd.V_below (by (with_reducible repeat (first | apply Kd.V_alloc | apply Kd.V_drewN | apply Kd.V_drew)); exact HL199_0.out) hb)
                  have n5_ := Aside0.mk (Kd.C_below (by repeat (first | (with_reducible exact HR197_0.out) | (with_reducible refine Kd.C_alloc ?_ _) | (with_reducible refine Kd.C_drewN ?_ _) | (with_reducible refine Kd.C_drew ?_) | exact HR197_0.out)) hb)
                  have n6_ := Aside0.mk (Kd.C_below (by repeat (first | (with_reducible exact HR199_0.out) | (with_reducible refine Kd.C_alloc ?_ _) | (with_reducible refine Kd.C_drewN ?_ _) | (with_reducible refine Kd.C_drew ?_) | exact HR199_0.out)) hb)
                  have n7_ := Aside0.mk (below_step (by repeat (first | (with_reducible first | exact HB.out | apply below_alloc | apply pw_below_drewN | apply below_drew1) | exact HB.out | exact Below.refl _ _)) hb)
                  clear HO_3
                  clear HO_6
                  clear HO_24
                  clear HL197_0
                  clear HL199_0
                  clear HR197_0
                  clear HR199_0
                  clear HB
                  have HO_3 := n0_
                  have HO_6 := n1_
                  have HO_24 := n2_
                  have HL197_0 := n3_
                  have HL199_0 := n4_
                  have HR197_0 := n5_
                  have HR199_0 := n6_
                  have HB := n7_
                  clear n0_ n1_ n2_ n3_ n4_ n5_ n6_ n7_
                  (try clear hb)
                  refine hK.out _ _ ⟨HS0_, HS1_, HS2_, HS3_, HS4_, HS5_, HS6_, HS7_, HS8_⟩ (fun hHeld => ?_)
                  clear hK K
                  refine norm_ (a' := ?_) ?_ ?_
                  rotate_left
                  ·
                   show Act.put _ (some 50) _ = _
                   simp only [Act.put, List.setIfInBounds_toArray, List.set_cons_zero, List.set_cons_succ, i64_w, i32_w]
                   rfl
                  refine pure_ (i := 15) (N := some 51) (v := ?_) (a' := ?_) #[true, true, true, true, true, true, true, true, true, true, true, true, true, true, true, true, false, false] rfl rfl (any_of HT_.out (by kernel_rfl)) (fun _ _ _ h => h) (Or.inl ⟨by rfl, ?_⟩) ?_ ?_
                  rotate_left
                  ·
                   intro w'
                   go_simp
                   with_reducible rfl
                  rotate_left
                  ·
                   simp only [Act.put, List.setIfInBounds_toArray, List.set_cons_zero, List.set_cons_succ, i64_w, i32_w]
                   rfl
                  refine pure_ (i := 16) (N := some 52) (v := ?_) (a' := ?_) #[true, true, true, true, true, true, true, true, true, true, true, true, true, true, true, true, true, false] rfl rfl (any_of HT_.out (by kernel_rfl)) (fun _ _ _ h => h) (Or.inl ⟨by rfl, ?_⟩) ?_ ?_
                  rotate_left
                  ·
                   intro w'
                   go_simp
                   with_reducible rfl
                  rotate_left
                  ·
                   simp only [Act.put, List.setIfInBounds_toArray, List.set_cons_zero, List.set_cons_succ, i64_w, i32_w]
                   rfl
                  refine pure_ (i := 17) (N := some 35) (v := ?_) (a' := ?_) #[true, true, true, true, true, true, true, true, true, true, true, true, true, true, true, true, true, true] rfl rfl (any_of HT_.out (by kernel_rfl)) (fun _ _ _ h => h) (Or.inl ⟨by rfl, ?_⟩) ?_ ?_
                  rotate_left
                  ·
                   intro w'
                   go_simp
                   with_reducible rfl
                  rotate_left
                  ·
                   simp only [Act.put, List.setIfInBounds_toArray, List.set_cons_zero, List.set_cons_succ, i64_w, i32_w]
                   rfl
                  refine done_ (done_of HT_.out (by kernel_rfl)) ?_
                  try go_wp2_with (first | (with_reducible refine wp_label ?_) | (with_reducible refine wp_scope_straight ?_) | (simp only [Exit.noGoto_ret, Exit.noGoto_normal, Exit.noGoto_exit]))
                  go_roundg k3
                  case measure => have := HK1.out; have := HK2.out; have := HK3.out; omega
                  case rel => exact ⟨(x7_3), (wrap64 (x26_3 + 1)), (by first | rfl | (simp; done) | (simp [*]; done)), (by first | rfl | (simp; done) | (simp [*]; done)), H', ⟨by have := HK1.out; have := HK2.out; have := HK3.out; omega⟩, ⟨by (with_reducible repeat (first | apply Kd.N_alloc | apply Kd.N_drewN | apply Kd.N_drew)); exact HO_3.out⟩, ⟨by (with_reducible repeat (first | apply Kd.R_alloc | apply Kd.R_drewN | apply Kd.R_drew)); exact HO_6.out⟩, ⟨by (with_reducible repeat (first | apply Kd.N_alloc | apply Kd.N_drewN | apply Kd.N_drew)); exact HO_24.out⟩, ⟨by repeat (first | (with_reducible first | exact HB.out | apply below_alloc | apply pw_below_drewN | apply below_drew1) | exact HB.out | exact Below.refl _ _)⟩⟩
                ·
                 rw [if_neg c20] at H
                 exact absurd H (by simp)
               ·
                rw [if_neg c19] at H
                exact absurd H (by simp)
              ·
               rw [if_neg c18] at H
               exact absurd H (by simp)
             ·
              rw [if_neg c17] at H
              exact absurd H (by simp)
          ·
           rw [if_neg c13] at H
           exact absurd H (by simp)
         ·
          rw [if_neg c12] at H
          exact absurd H (by simp)
        ·
         rw [if_neg c11] at H
         have c11b0 : decide (x26_3 < (x3_2.length : Int)) = false := decide_eq_false c11
         clear c11
         by_cases c27 : x7_3 < 0
         ·
          rw [if_pos c27] at H
          have c27b0 : decide (x7_3 < 0) = true := decide_eq_true c27
          clear c27
          obtain rfl := Option.some.inj H
          go_wp2_with (first | (with_reducible refine wp_label ?_) | (with_reducible refine wp_scope_straight ?_) | (simp only [Exit.noGoto_ret, Exit.noGoto_normal, Exit.noGoto_exit]))
          go_ret
          exact ⟨_, by first | rfl | (simp [errW_none, errW_some] <;> rfl) | (simp [*, errW_none, errW_some] <;> rfl), by (with_reducible repeat (first | apply Kd.R_alloc | apply Kd.R_drewN | apply Kd.R_drew)); exact HO_6.out, by repeat (first | (with_reducible first | exact HB.out | apply below_alloc | apply pw_below_drewN | apply below_drew1) | exact HB.out | exact Below.refl _ _)⟩
         ·
          rw [if_neg c27] at H
          have c27b0 : decide (x7_3 < 0) = false := decide_eq_false c27
          clear c27
          by_cases c28 : 0 ≤ x7_3
          ·
           rw [if_pos c28] at H
           have c28b0 : decide (0 ≤ x7_3) = true := decide_eq_true c28
           clear c28
           by_cases c29 : x7_3 < (x3_2.length : Int)
           ·
            rw [if_pos c29] at H
            have c29b0 : decide (x7_3 < (x3_2.length : Int)) = true := decide_eq_true c29
            clear c29
            by_cases c30 : 0 < ((rd_L5 x3_2 x7_3).length : Int)
            ·
             rw [if_pos c30] at H
             have c30b0 : decide (0 < ((rd_L5 x3_2 x7_3).length : Int)) = true := decide_eq_true c30
             have c30b1 : decide (0 < (rd_L5 x3_2 x7_3).length) = true := decide_eq_true (by omega)
             clear c30
             by_cases c31 : 1 ≤ ((rd_L5 x3_2 x7_3).length : Int)
             ·
              rw [if_pos c31] at H
              have c31b0 := eq_true c31
              have c31b1 : decide (1 ≤ ((rd_L5 x3_2 x7_3).length : Int)) = true := decide_eq_true c31
              clear c31
              obtain ⟨y206, hy206⟩ : ∃ y_ : List (S31), y_ = ((rd_L5 x3_2 x7_3).drop 1) := ⟨_, rfl⟩
              replace H : ((some (x3_2.set (x7_3 : Int).toNat y206 : List (List (S31)))).bind fun y211 => (if (x6_2.length : Int) > 0 then (if 0 ≤ (wrap64 ((x6_2.length : Int) - 1)) then (if (wrap64 ((x6_2.length : Int) - 1)) < (x6_2.length : Int) then ((key_Cmp.f k3 ((rd_T31 x6_2 (wrap64 ((x6_2.length : Int) - 1))).f0.f0) ((rd_T31 x6_2 (wrap64 ((x6_2.length : Int) - 1))).f0.f1) ((rd_T31 x6_2 (wrap64 ((x6_2.length : Int) - 1))).f0.f2) ((rd_T31 (rd_L5 x3_2 x7_3) 0).f0.f0) ((rd_T31 (rd_L5 x3_2 x7_3) 0).f0.f1) ((rd_T31 (rd_L5 x3_2 x7_3) 0).f0.f2)).bind fun t213 => (if t213 = 0 then (merge_Merge.l1 k3 y211 x6_2) else (if x6_2.length < 2932031007402 then (merge_Merge.l1 k3 y211 (x6_2 ++ [(⟨(⟨(rd_T31 (rd_L5 x3_2 x7_3) 0).f0.f0, (rd_T31 (rd_L5 x3_2 x7_3) 0).f0.f1, (rd_T31 (rd_L5 x3_2 x7_3) 0).f0.f2⟩ : S29), (rd_T31 (rd_L5 x3_2 x7_3) 0).f1⟩ : S31)])) else (none)))) else (none)) else (none)) else (if x6_2.length < 2932031007402 then (merge_Merge.l1 k3 y211 (x6_2 ++ [(⟨(⟨(rd_T31 (rd_L5 x3_2 x7_3) 0).f0.f0, (rd_T31 (rd_L5 x3_2 x7_3) 0).f0.f1, (rd_T31 (rd_L5 x3_2 x7_3) 0).f0.f2⟩ : S29), (rd_T31 (rd_L5 x3_2 x7_3) 0).f1⟩ : S31)])) else (none)))) = some r := by first | (rw [hy206]; with_reducible exact H) | (have H2_ := (Option.bind_some _ _).symm.trans H; rw [hy206]; with_reducible exact H2_) | (have H2_ := (Option.bind_some _ _).symm.trans H; with_reducible exact H2_) | with_reducible exact H | (rw [hy206]; exact H) | exact H
              have Ny206 := Aside0.mk hy206
              clear hy206
              obtain ⟨y211, hy211⟩ : ∃ y_ : List (List (S31)), y_ = (x3_2.set (x7_3 : Int).toNat y206) := ⟨_, rfl⟩
              replace H : (if (x6_2.length : Int) > 0 then (if 0 ≤ (wrap64 ((x6_2.length : Int) - 1)) then (if (wrap64 ((x6_2.length : Int) - 1)) < (x6_2.length : Int) then ((key_Cmp.f k3 ((rd_T31 x6_2 (wrap64 ((x6_2.length : Int) - 1))).f0.f0) ((rd_T31 x6_2 (wrap64 ((x6_2.length : Int) - 1))).f0.f1) ((rd_T31 x6_2 (wrap64 ((x6_2.length : Int) - 1))).f0.f2) ((rd_T31 (rd_L5 x3_2 x7_3) 0).f0.f0) ((rd_T31 (rd_L5 x3_2 x7_3) 0).f0.f1) ((rd_T31 (rd_L5 x3_2 x7_3) 0).f0.f2)).bind fun t213 => (if t213 = 0 then (merge_Merge.l1 k3 y211 x6_2) else (if x6_2.length < 2932031007402 then (merge_Merge.l1 k3 y211 (x6_2 ++ [(⟨(⟨(rd_T31 (rd_L5 x3_2 x7_3) 0).f0.f0, (rd_T31 (rd_L5 x3_2 x7_3) 0).f0.f1, (rd_T31 (rd_L5 x3_2 x7_3) 0).f0.f2⟩ : S29), (rd_T31 (rd_L5 x3_2 x7_3) 0).f1⟩ : S31)])) else (none)))) else (none)) else (none)) else (if x6_2.length < 2932031007402 then (merge_Merge.l1 k3 y211 (x6_2 ++ [(⟨(⟨(rd_T31 (rd_L5 x3_2 x7_3) 0).f0.f0, (rd_T31 (rd_L5 x3_2 x7_3) 0).f0.f1, (rd_T31 (rd_L5 x3_2 x7_3) 0).f0.f2⟩ : S29), (rd_T31 (rd_L5 x3_2 x7_3) 0).f1⟩ : S31)])) else (none))) = some r := by first | (rw [hy211]; with_reducible exact H) | (have H2_ := (Option.bind_some _ _).symm.trans H; rw [hy211]; with_reducible exact H2_) | (have H2_ := (Option.bind_some _ _).symm.trans H; with_reducible exact H2_) | with_reducible exact H | (rw [hy211]; exact H) | exact H
              have Ny211 := Aside0.mk hy211
              clear hy211
              by_cases c33 : (x6_2.length : Int) > 0
              ·
               rw [if_pos c33] at H
               have c33b0 : decide (0 < (x6_2.length : Int)) = true := decide_eq_true c33
               have c33b1 : decide (0 < x6_2.length) = true := decide_eq_true (by omega)
               clear c33
               obtain ⟨ji34, hji34⟩ : ∃ j_ : Int, (wrap64 ((x6_2.length : Int) - 1)) = j_ := ⟨_, rfl⟩
               replace H : (if 0 ≤ (ji34) then (if (ji34) < (x6_2.length : Int) then ((key_Cmp.f k3 ((rd_T31 x6_2 (ji34)).f0.f0) ((rd_T31 x6_2 (ji34)).f0.f1) ((rd_T31 x6_2 (ji34)).f0.f2) ((rd_T31 (rd_L5 x3_2 x7_3) 0).f0.f0) ((rd_T31 (rd_L5 x3_2 x7_3) 0).f0.f1) ((rd_T31 (rd_L5 x3_2 x7_3) 0).f0.f2)).bind fun t213 => (if t213 = 0 then (merge_Merge.l1 k3 y211 x6_2) else (if x6_2.length < 2932031007402 then (merge_Merge.l1 k3 y211 (x6_2 ++ [(⟨(⟨(rd_T31 (rd_L5 x3_2 x7_3) 0).f0.f0, (rd_T31 (rd_L5 x3_2 x7_3) 0).f0.f1, (rd_T31 (rd_L5 x3_2 x7_3) 0).f0.f2⟩ : S29), (rd_T31 (rd_L5 x3_2 x7_3) 0).f1⟩ : S31)])) else (none)))) else (none)) else (none)) = some r := by first | (rw [hji34] at H; exact H) | (simp only [hji34] at H ⊢; exact H)
               have hji34w : (IntKind.i64.wrap ((x6_2.length : Int) - 1)) = ji34 := (i64_w _).trans hji34
               by_cases c35 : 0 ≤ (ji34)
               ·
                rw [if_pos c35] at H
                have c35b0 : decide (0 ≤ (ji34)) = true := decide_eq_true c35
                clear c35
                by_cases c36 : (ji34) < (x6_2.length : Int)
                ·
                 rw [if_pos c36] at H
                 have c36b0 : decide ((ji34) < (x6_2.length : Int)) = true := decide_eq_true c36
                 clear c36
                 replace H := Option.bind_eq_some_iff.mp H
                 obtain ⟨t213, A370, H⟩ := H
                 replace H : (if t213 = 0 then (merge_Merge.l1 k3 y211 x6_2) else (if x6_2.length < 2932031007402 then (merge_Merge.l1 k3 y211 (x6_2 ++ [(⟨(⟨(rd_T31 (rd_L5 x3_2 x7_3) 0).f0.f0, (rd_T31 (rd_L5 x3_2 x7_3) 0).f0.f1, (rd_T31 (rd_L5 x3_2 x7_3) 0).f0.f2⟩ : S29), (rd_T31 (rd_L5 x3_2 x7_3) 0).f1⟩ : S31)])) else (none))) = some r := H
                 have A37 := Aside0.mk A370
                 clear A370
                 by_cases c38 : t213 = 0
                 ·
                  rw [if_pos c38] at H
                  have c38b0 : (t213 == 0) = true := beq_iff_eq.mpr c38
                  have c38b1 : (t213 != 0) = false := bne_eq_false_iff_eq.mpr c38
                  clear c38
                  have H' := Aside0.mk H
                  clear H
                  have p202 : 0 ≤ (x7_3 : Int) := of_decide_eq_true (by first | (with_reducible assumption) | assumption)
                  have q202 : x7_3 < (x3_2.length : Int) := of_decide_eq_true (by first | (with_reducible assumption) | assumption)
                  obtain ⟨ad202, A202_0, c202_0, e202, hx202_0, hl202_0, hi202_0⟩ := at_L5 (Kd.N_reads' HO_3.out).2.2 x7_3 p202 q202
                  cases e202
                  obtain ⟨ce202, hce202, hMe202, hcc202⟩ := Kd.N_get HO_3.out [] x7_3 p202 (by first | exact q202 | exact of_decide_eq_true (by first | (with_reducible assumption) | assumption) | (have e_ := (Kd.N_reads' HO_3.out).1; omega))
                  obtain ⟨ua202_0, uc202_0, rfl, ul202_0, ge202_0⟩ := Kd.FK_slice_open hMe202
                  have hv202_0 := hcc202 0 _ rfl
                  rw [Nat.add_zero, show ((Kd.slice 31 k31)).sz = 1 from rfl, Nat.mul_one] at hv202_0
                  replace hv202_0 := Option.some.inj (hv202_0.symm.trans hx202_0)
                  injection hv202_0 with hva_ hvn_ hvc_
                  rw [hva_] at ge202_0
                  rw [hvc_] at ul202_0
                  have HL202_0 := Aside0.mk (show Kd.V k31 31 _ w.heap.size _ _ (rd_L5 x3_2 x7_3) from Kd.V_mk ul202_0 ge202_0)
                  clear hva_ hvn_ hvc_ ge202_0 ul202_0
                  clear hcc202 hce202
                  have HR202_0 := Aside0.mk hi202_0
                  have HC202_0 := Aside0.mk hl202_0
                  clear hi202_0 hl202_0
                  replace p202 := eq_true p202
                  replace q202 := eq_true q202
                  have p203 : 0 ≤ (0 : Int) := (by omega)
                  have q203 : 0 < ((rd_L5 x3_2 x7_3).length : Int) := of_decide_eq_true (by first | (with_reducible assumption) | assumption)
                  obtain ⟨ad203, e203, hx203_0, hx203_1, hx203_2, hx203_3⟩ := at_T31 (by repeat (first | (with_reducible exact HR202_0.out) | (with_reducible refine Kd.C_alloc ?_ _) | (with_reducible refine Kd.C_drewN ?_ _) | (with_reducible refine Kd.C_drew ?_) | exact HR202_0.out)) 0 p203 q203
                  cases e203
                  have qi203 : (0 < (rd_L5 x3_2 x7_3).length) = True := eq_true (by omega)
                  (try rw [show ((0 : Int)).toNat = 0 from rfl] at hx203_0)
                  (try rw [show 0 * 4 = 0 from rfl] at hx203_0)
                  (try rw [Addr.add_zero'] at hx203_0)
                  (try rw [show ((0 : Int)).toNat = 0 from rfl] at hx203_1)
                  (try rw [show 0 * 4 = 0 from rfl] at hx203_1)
                  (try rw [Addr.add_zero'] at hx203_1)
                  (try rw [show ((0 : Int)).toNat = 0 from rfl] at hx203_2)
                  (try rw [show 0 * 4 = 0 from rfl] at hx203_2)
                  (try rw [Addr.add_zero'] at hx203_2)
                  (try rw [show ((0 : Int)).toNat = 0 from rfl] at hx203_3)
                  (try rw [show 0 * 4 = 0 from rfl] at hx203_3)
                  (try rw [Addr.add_zero'] at hx203_3)
                  replace p203 := eq_true p203
                  replace q203 := eq_true q203
                  try go_wp2_with (first | (first | (with_reducible refine wp_label ?_) | (with_reducible refine wp_scope_straight ?_) | (simp only [Exit.noGoto_ret, Exit.noGoto_normal, Exit.noGoto_exit])) | ((with_reducible refine gate_dst (N := 10) rfl ?_); refine box_event ?hg (N := 10) ?hd (cs := #[.string (⟨#[]⟩ : ByteArray), .int .i64 0, .int .i64 0, .string (⟨#[]⟩ : ByteArray)]) (t := 31) ?hr ?_; (case hd => rfl); (case hg => rfl); (case hr => first | (go_simp; done) | (go_simp; rfl)); intro gb204 hg w39 hbox hb; have n0_ := Aside0.mk (Kd.N_below (Kd.N_elderB (by (with_reducible repeat (first | apply Kd.N_alloc | apply Kd.N_drewN | apply Kd.N_drew)); exact HO_3.out) gb204 (Nat.le_of_eq hg.symm)) hb); have n1_ := Aside0.mk (Kd.R_below (Kd.R_elderB (by (with_reducible repeat (first | apply Kd.R_alloc | apply Kd.R_drewN | apply Kd.R_drew)); exact HO_6.out) gb204 (Nat.le_of_eq hg.symm)) hb); have n2_ := Aside0.mk (Kd.N_below (Kd.N_elderB (by (with_reducible repeat (first | apply Kd.N_alloc | apply Kd.N_drewN | apply Kd.N_drew)); exact HO_24.out) gb204 (Nat.le_of_eq hg.symm)) hb); have n3_ := Aside0.mk (Kd.V_below (Kd.V_elderB (by (with_reducible repeat (first | apply Kd.V_alloc | apply Kd.V_drewN | apply Kd.V_drew)); exact HL202_0.out) gb204 (Nat.le_of_eq hg.symm)) hb); have n4_ := Aside0.mk (Kd.C_below (by repeat (first | (with_reducible exact HR202_0.out) | (with_reducible refine Kd.C_alloc ?_ _) | (with_reducible refine Kd.C_drewN ?_ _) | (with_reducible refine Kd.C_drew ?_) | exact HR202_0.out)) hb); have n5_ := Aside0.mk (below_step (by repeat (first | (with_reducible first | exact HB.out | apply below_alloc | apply pw_below_drewN | apply below_drew1) | exact HB.out | exact Below.refl _ _)) hb); have n6_ := Aside0.mk (hbox); have n7_ := Aside0.mk ((by rw [hg]; exact (below_size (by repeat (first | (with_reducible first | exact HB.out | apply below_alloc | apply pw_below_drewN | apply below_drew1) | exact HB.out | exact Below.refl _ _))) : w.heap.size ≤ gb204)); have n8_ := Aside0.mk ((by rw [hg]; exact (below_size (by repeat (first | (with_reducible first | exact HB.out | apply below_alloc | apply pw_below_drewN | apply below_drew1) | exact HB.out | exact Below.refl _ _))) : w.heap.size ≤ gb204)); clear HO_3; clear HO_6; clear HO_24; clear HL202_0; clear HR202_0; clear HB; have HO_3 := n0_; have HO_6 := n1_; have HO_24 := n2_; have HL202_0 := n3_; have HR202_0 := n4_; have HB := n5_; have BK204 := n6_; have GW204 := n7_; have GE204 := n8_; clear n0_ n1_ n2_ n3_ n4_ n5_ n6_ n7_ n8_; clear hb hbox hg; have hcz40_0 : w39.cell? ⟨gb204, 0, none⟩ = some (.string (⟨#[]⟩ : ByteArray)) := (blk_cell BK204.out 0).trans rfl; have hcz40_1 : w39.cell? ⟨gb204, 1, none⟩ = some (.int .i64 0) := (blk_cell BK204.out 1).trans rfl; have hcz40_2 : w39.cell? ⟨gb204, 2, none⟩ = some (.int .i64 0) := (blk_cell BK204.out 2).trans rfl; have hcz40_3 : w39.cell? ⟨gb204, 3, none⟩ = some (.string (⟨#[]⟩ : ByteArray)) := (blk_cell BK204.out 3).trans rfl; have hfz40_0 := blk_frozen BK204.out 0; have hfz40_1 := blk_frozen BK204.out 1; have hfz40_2 := blk_frozen BK204.out 2; have hfz40_3 := blk_frozen BK204.out 3) | ((with_reducible refine gate_store (t := 31) (p := 10) rfl ?_); refine store_event (t := 31) (p := 10) (v := ?vo_w41) (w1 := ((((w39.setCell ⟨gb204, 0, none⟩ (.string ((rd_T31 (rd_L5 x3_2 x7_3) 0).f0.f0))).setCell ⟨gb204, 1, none⟩ (.int .i64 ((rd_T31 (rd_L5 x3_2 x7_3) 0).f0.f1))).setCell ⟨gb204, 2, none⟩ (.int .i64 ((rd_T31 (rd_L5 x3_2 x7_3) 0).f0.f2))).setCell ⟨gb204, 3, none⟩ (.string ((rd_T31 (rd_L5 x3_2 x7_3) 0).f1)))) ?hg ?ho ?hn ?hr ?_; (case ho => rfl); (case hg => rfl); (case hn => rfl); (case hr => first | (go_simp; done) | (go_simp; rfl)); intro w41 hw; have n0_ : Aside0 (Kd.N (Kd.slice 31 k31) 24 w41 w.heap.size (fun k_ => some k_ ≠ (u6 : Value).ownBlock ∧ k_ ≠ gb204) (.slice (some ad202) x3_2.length co10) x3_2) := ⟨(by rw [hw]; exact (by (with_reducible repeat (first | apply Kd.N_alloc | apply Kd.N_drewN | apply Kd.N_drew)); exact Kd.N_mono (Kd.N_far (p := ⟨gb204, 3, none⟩) (Kd.N_far (p := ⟨gb204, 2, none⟩) (Kd.N_far (p := ⟨gb204, 1, none⟩) (Kd.N_far (p := ⟨gb204, 0, none⟩) (Kd.N_mono HO_3.out (fun k_ hk => (⟨hk, hk.2⟩ : _ ∧ k_ ≠ gb204))) (fun _ hk => hk.2) (.string ((rd_T31 (rd_L5 x3_2 x7_3) 0).f0.f0))) (fun _ hk => hk.2) (.int .i64 ((rd_T31 (rd_L5 x3_2 x7_3) 0).f0.f1))) (fun _ hk => hk.2) (.int .i64 ((rd_T31 (rd_L5 x3_2 x7_3) 0).f0.f2))) (fun _ hk => hk.2) (.string ((rd_T31 (rd_L5 x3_2 x7_3) 0).f1))) (fun _ hk => ⟨hk.1.1, hk.1.2⟩)))⟩; have n1_ : Aside0 (Kd.R k31 31 w41 w.heap.size (fun k_ => k_ ≠ gb204) u6 x6_2) := ⟨(by rw [hw]; exact (by (with_reducible repeat (first | apply Kd.R_alloc | apply Kd.R_drewN | apply Kd.R_drew)); exact Kd.R_mono (Kd.R_far (p := ⟨gb204, 3, none⟩) (Kd.R_far (p := ⟨gb204, 2, none⟩) (Kd.R_far (p := ⟨gb204, 1, none⟩) (Kd.R_far (p := ⟨gb204, 0, none⟩) (Kd.R_mono HO_6.out (fun k_ hk => (⟨hk, hk.2⟩ : _ ∧ k_ ≠ gb204))) (fun _ hk => hk.2) (.string ((rd_T31 (rd_L5 x3_2 x7_3) 0).f0.f0))) (fun _ hk => hk.2) (.int .i64 ((rd_T31 (rd_L5 x3_2 x7_3) 0).f0.f1))) (fun _ hk => hk.2) (.int .i64 ((rd_T31 (rd_L5 x3_2 x7_3) 0).f0.f2))) (fun _ hk => hk.2) (.string ((rd_T31 (rd_L5 x3_2 x7_3) 0).f1))) (fun _ hk => hk.1.2)))⟩; have n2_ : Aside0 (Kd.N (Kd.slice 31 k31) 24 w41 w.heap.size (fun k_ => some k_ ≠ (u6 : Value).ownBlock ∧ k_ ≠ gb204) (.slice (some ad202) x3_2.length co10) x3_2) := ⟨(by rw [hw]; exact (by (with_reducible repeat (first | apply Kd.N_alloc | apply Kd.N_drewN | apply Kd.N_drew)); exact Kd.N_mono (Kd.N_far (p := ⟨gb204, 3, none⟩) (Kd.N_far (p := ⟨gb204, 2, none⟩) (Kd.N_far (p := ⟨gb204, 1, none⟩) (Kd.N_far (p := ⟨gb204, 0, none⟩) (Kd.N_mono HO_24.out (fun k_ hk => (⟨hk, hk.2⟩ : _ ∧ k_ ≠ gb204))) (fun _ hk => hk.2) (.string ((rd_T31 (rd_L5 x3_2 x7_3) 0).f0.f0))) (fun _ hk => hk.2) (.int .i64 ((rd_T31 (rd_L5 x3_2 x7_3) 0).f0.f1))) (fun _ hk => hk.2) (.int .i64 ((rd_T31 (rd_L5 x3_2 x7_3) 0).f0.f2))) (fun _ hk => hk.2) (.string ((rd_T31 (rd_L5 x3_2 x7_3) 0).f1))) (fun _ hk => ⟨hk.1.1, hk.1.2⟩)))⟩; have n3_ : Aside0 (Kd.V k31 31 w41 w.heap.size (fun k_ => some k_ ≠ (.slice (some ad202) x3_2.length co10 : Value).ownBlock ∧ some k_ ≠ (u6 : Value).ownBlock ∧ k_ ≠ gb204) (.slice (some ad203) (rd_L5 x3_2 x7_3).length c202_0) (rd_L5 x3_2 x7_3)) := ⟨(by rw [hw]; exact (by (with_reducible repeat (first | apply Kd.V_alloc | apply Kd.V_drewN | apply Kd.V_drew)); exact Kd.V_mono (Kd.V_far (p := ⟨gb204, 3, none⟩) (Kd.V_far (p := ⟨gb204, 2, none⟩) (Kd.V_far (p := ⟨gb204, 1, none⟩) (Kd.V_far (p := ⟨gb204, 0, none⟩) (Kd.V_mono HL202_0.out (fun k_ hk => (⟨hk, hk.2⟩ : _ ∧ k_ ≠ gb204))) (fun _ hk => hk.2) (.string ((rd_T31 (rd_L5 x3_2 x7_3) 0).f0.f0))) (fun _ hk => hk.2) (.int .i64 ((rd_T31 (rd_L5 x3_2 x7_3) 0).f0.f1))) (fun _ hk => hk.2) (.int .i64 ((rd_T31 (rd_L5 x3_2 x7_3) 0).f0.f2))) (fun _ hk => hk.2) (.string ((rd_T31 (rd_L5 x3_2 x7_3) 0).f1))) (fun _ hk => ⟨hk.1.1.2, ⟨hk.1.1.1, hk.1.2⟩⟩)))⟩; have n4_ : Aside0 (w41.heap[gb204]? = some (.cells #[.string ((rd_T31 (rd_L5 x3_2 x7_3) 0).f0.f0), .int .i64 ((rd_T31 (rd_L5 x3_2 x7_3) 0).f0.f1), .int .i64 ((rd_T31 (rd_L5 x3_2 x7_3) 0).f0.f2), .string ((rd_T31 (rd_L5 x3_2 x7_3) 0).f1)] 31 (0, 0))) := ⟨(by rw [hw]; exact (by (with_reducible repeat (first | refine blk_drewN ?_ _ | refine blk_drew ?_ | refine blk_alloc ?_ _)); refine blk_put (cs := #[.string ((rd_T31 (rd_L5 x3_2 x7_3) 0).f0.f0), .int .i64 ((rd_T31 (rd_L5 x3_2 x7_3) 0).f0.f1), .int .i64 ((rd_T31 (rd_L5 x3_2 x7_3) 0).f0.f2), .string (⟨#[]⟩ : ByteArray)]) ?_ 3 _ rfl; (with_reducible repeat (first | refine blk_drewN ?_ _ | refine blk_drew ?_ | refine blk_alloc ?_ _)); refine blk_put (cs := #[.string ((rd_T31 (rd_L5 x3_2 x7_3) 0).f0.f0), .int .i64 ((rd_T31 (rd_L5 x3_2 x7_3) 0).f0.f1), .int .i64 0, .string (⟨#[]⟩ : ByteArray)]) ?_ 2 _ rfl; (with_reducible repeat (first | refine blk_drewN ?_ _ | refine blk_drew ?_ | refine blk_alloc ?_ _)); refine blk_put (cs := #[.string ((rd_T31 (rd_L5 x3_2 x7_3) 0).f0.f0), .int .i64 0, .int .i64 0, .string (⟨#[]⟩ : ByteArray)]) ?_ 1 _ rfl; (with_reducible repeat (first | refine blk_drewN ?_ _ | refine blk_drew ?_ | refine blk_alloc ?_ _)); refine blk_put (cs := #[.string (⟨#[]⟩ : ByteArray), .int .i64 0, .int .i64 0, .string (⟨#[]⟩ : ByteArray)]) ?_ 0 _ rfl; (with_reducible repeat (first | refine blk_drewN ?_ _ | refine blk_drew ?_ | refine blk_alloc ?_ _)); exact BK204.out))⟩; have n5_ : Aside0 (Below w.heap.size w w41) := ⟨(by rw [hw]; exact (by repeat (first | (with_reducible first | exact HB.out | apply below_alloc | apply pw_below_drewN | apply below_drew1 | refine below_set ?_ GE204.out) | exact HB.out | exact Below.refl _ _)))⟩; clear hw; clear HO_3; clear HO_6; clear HO_24; clear HL202_0; clear BK204; clear HB; have HO_3 := n0_; have HO_6 := n1_; have HO_24 := n2_; have HL202_0 := n3_; have BK204 := n4_; have HB := n5_; clear n0_ n1_ n2_ n3_ n4_ n5_; have p205 : 0 ≤ (x7_3 : Int) := of_decide_eq_true (by first | (with_reducible assumption) | assumption); have q205 : x7_3 < (x3_2.length : Int) := of_decide_eq_true (by first | (with_reducible assumption) | assumption); obtain ⟨ad205, A205_0, c205_0, e205, hx205_0, hl205_0, hi205_0⟩ := at_L5 (Kd.N_reads' HO_3.out).2.2 x7_3 p205 q205; obtain rfl : ad202 = ad205 := (by injection e205); obtain ⟨ce205, hce205, hMe205, hcc205⟩ := Kd.N_get HO_3.out [] x7_3 p205 (by first | exact q205 | exact of_decide_eq_true (by first | (with_reducible assumption) | assumption) | (have e_ := (Kd.N_reads' HO_3.out).1; omega)); obtain ⟨ua205_0, uc205_0, rfl, ul205_0, ge205_0⟩ := Kd.FK_slice_open hMe205; have hv205_0 := hcc205 0 _ rfl; rw [Nat.add_zero, show ((Kd.slice 31 k31)).sz = 1 from rfl, Nat.mul_one] at hv205_0; replace hv205_0 := Option.some.inj (hv205_0.symm.trans hx205_0); injection hv205_0 with hva_ hvn_ hvc_; rw [hva_] at ge205_0; rw [hvc_] at ul205_0; have HL205_0 := Aside0.mk (show Kd.V k31 31 _ w.heap.size _ _ (rd_L5 x3_2 x7_3) from Kd.V_mk ul205_0 ge205_0); clear hva_ hvn_ hvc_ ge205_0 ul205_0; clear hcc205 hce205; have HR205_0 := Aside0.mk hi205_0; have HC205_0 := Aside0.mk hl205_0; clear hi205_0 hl205_0; replace p205 := eq_true p205; replace q205 := eq_true q205; have q42 : (1 : Int) ≤ (((rd_L5 x3_2 x7_3).length : Int) : Int) := of_decide_eq_true (by first | (with_reducible assumption) | assumption); obtain ⟨i042, hi042, _, hsz42, _⟩ := info_parts info31; have hroom42 : (rd_L5 x3_2 x7_3).length ≤ c205_0 := HC205_0.out; have hC42 : Kd.F k31 _ _ A205_0 (rd_L5 x3_2 x7_3).length (rd_L5 x3_2 x7_3) := (Kd.V_at (base := w.heap.size) HL205_0.out).2.2; have hcut42 := cut_from (P := Try.prog) 24 31 .i64 Try.underlying24 hi042 4 hsz42 A205_0 (rd_L5 x3_2 x7_3).length c205_0 1 (by omega) q42; have hr42 := Kd.F_cut (m := (1 : Int).toNat) (c := c205_0) hC42 (by omega) hroom42; obtain ⟨A42, hA42⟩ : ∃ A1, A1 = (if c205_0 = (1 : Int).toNat then A205_0 else (A205_0 : Option Addr).map (·.add ((1 : Int).toNat * 4))) := ⟨_, rfl⟩; obtain ⟨c42, hc42⟩ : ∃ c1, c1 = c205_0 - (1 : Int).toNat := ⟨_, rfl⟩; have hy42 : y206.length = (rd_L5 x3_2 x7_3).length - (1 : Int).toNat := (by rw [Ny206.out, List.length_drop] <;> omega); rw [show (rd_L5 x3_2 x7_3).drop (1 : Int).toNat = y206 from Ny206.out.symm] at hr42; replace hr42 : Kd.F k31 _ _ A42 y206.length y206 := (by rw [hA42]; exact hr42); rw [← hy42, ← hA42, ← hc42] at hcut42; have HO210 := Aside0.mk (show Kd.V k31 31 _ w.heap.size _ (.slice A42 y206.length c42) y206 from Kd.V_mk (by rw [hy42, hc42]; exact Nat.sub_le_sub_right hroom42 _) hr42); have HC210 := Aside0.mk (show y206.length ≤ c42 from by rw [hy42, hc42]; exact Nat.sub_le_sub_right hroom42 _); clear hr42 hC42 hroom42 hi042 hsz42 hc42; have KY42 := Aside0.mk hy42; have KA42 := Aside0.mk hA42; clear hy42 hA42; replace q42 := eq_true q42; have p32 : 0 ≤ (x7_3 : Int) := of_decide_eq_true (by first | (with_reducible assumption) | assumption); have q32 : (x7_3 : Int) < ((x3_2.length : Int) : Int) := of_decide_eq_true (by first | (with_reducible assumption) | assumption); obtain ⟨go32, co32, eo32, gb32, gl32, cl32, HG32⟩ := Kd.N_form HO_3.out (by omega); (first | cases eo32 | (injection eo32 with ea_ en_ ec_; (first | subst ea_ | (injection ea_ with ea_; subst ea_)); subst ec_; clear en_)); have GB32 := Aside0.mk gb32; have GG32 := Aside0.mk HG32; clear gb32 gl32 HG32; (first | simp only [add_plain] at hx202_0 | skip); (first | simp only [add_plain] at hx205_0 | skip); obtain ⟨ce32, hcl32, hM32, hcc32, hfr32⟩ := Kd.N_elem HO_3.out [] (x7_3 : Int) p32 q32; obtain ⟨ua32_0, uc32_0, rfl, ul32_0, ge32_0⟩ := Kd.FK_slice_open hM32; have hx32_0 := hcc32 0 _ rfl; have hf32_0 := hfr32 0; (try simp only [show ((Kd.slice 31 k31)).sz = 1 from rfl, Nat.mul_one, Nat.add_zero] at hx32_0); (try simp only [show ((Kd.slice 31 k31)).sz = 1 from rfl, Nat.mul_one, Nat.add_zero] at hf32_0); clear hcl32 hcc32 hfr32 hM32; replace p32 := eq_true p32; replace q32 := eq_true q32; have HX43 := Aside0.mk (show Kd.N (Kd.slice 31 k31) 24 w41 w.heap.size (fun k_ => some k_ ≠ (u6 : Value).ownBlock ∧ k_ ≠ gb204) (.slice (some ⟨go32, 0, none⟩) x3_2.length co10) x3_2 from (by (with_reducible repeat (first | apply Kd.N_alloc | apply Kd.N_drewN | apply Kd.N_drew)); exact HO_3.out)); obtain ⟨ce43, hcl43, hM43, hcc43, hfr43⟩ := Kd.N_elem HX43.out [] (x7_3 : Int) (of_decide_eq_true (by first | (with_reducible assumption) | assumption)) (by have h_ : (x7_3 : Int) < ((x3_2.length : Int) : Int) := of_decide_eq_true (by first | (with_reducible assumption) | assumption); first | exact h_ | (have e_ := (Kd.N_reads' HO_3.out).1; omega) | simpa using h_); obtain ⟨ua43_0, uc43_0, rfl, ul43_0, ge43_0⟩ := Kd.FK_slice_open hM43; have HP43 := Kd.N_seg HX43.out (x7_3 : Int) (of_decide_eq_true (by first | (with_reducible assumption) | assumption)) (by have h_ : (x7_3 : Int) < ((x3_2.length : Int) : Int) := of_decide_eq_true (by first | (with_reducible assumption) | assumption); first | exact h_ | (have e_ := (Kd.N_reads' HO_3.out).1; omega) | simpa using h_) (seg := [.slice A42 y206.length c42]) (j := 0) hcl43 hcc43 (show 1 ≤ 1 from by decide) (x' := y206) (Kd.FK_slice_mk (Kd.V_reads' (Kd.V_mono (ok' := (fun k_ => ((fun k_ => some k_ ≠ (u6 : Value).ownBlock ∧ k_ ≠ gb204)) k_ ∧ k_ ≠ go32)) (HO210.out) (fun k_ hk => ⟨⟨hk.1.1, hk.1.2⟩, fun e_ => (hk.2) (by rw [e_]; rfl)⟩))).2.1 (Kd.V_F (Kd.V_mono (ok' := (fun k_ => ((fun k_ => some k_ ≠ (u6 : Value).ownBlock ∧ k_ ≠ gb204)) k_ ∧ k_ ≠ go32)) (HO210.out) (fun k_ hk => ⟨⟨hk.1.1, hk.1.2⟩, fun e_ => (hk.2) (by rw [e_]; rfl)⟩)))) (fun _ hk => hk); have hx43_0 := hcc43 0 _ rfl; (try simp only [show ((Kd.slice 31 k31)).sz = 1 from rfl, Nat.mul_one, Nat.add_zero] at hx43_0); have hf43_0 := hfr43 0; (try simp only [show ((Kd.slice 31 k31)).sz = 1 from rfl, Nat.mul_one, Nat.add_zero] at hf43_0); clear hcl43 hcc43 hfr43 hM43; (try simp only [show ((Kd.slice 31 k31)).sz = 1 from rfl, Nat.mul_one, Nat.add_zero] at HP43); (try simp only [show ((Kd.slice 31 k31)).sz = 1 from rfl, Nat.mul_one, Nat.add_zero] at HP43)) | ((with_reducible refine gate_store (t := 24) (p := 70) rfl ?_); refine store_event (t := 24) (p := 70) (v := ?vo_w44) (w1 := (w41.setCell ⟨go32, (x7_3 : Int).toNat, none⟩ (.slice A42 y206.length c42))) ?hg ?ho ?hn ?hr ?_; (case ho => rfl); (case hg => rfl); (case hn => rfl); (case hr => first | (go_simp; done) | (go_simp; rfl)); intro w44 hw; have hg : w41.grownBy w44 (some go32) := (by rw [hw]; exact HP43.2); have hp_ : Kd.N (Kd.slice 31 k31) 24 w44 w.heap.size (fun k_ => some k_ ≠ (u6 : Value).ownBlock ∧ k_ ≠ gb204) (.slice (some ⟨go32, 0, none⟩) x3_2.length co10) y211 := (by rw [hw, Ny211.out]; exact HP43.1); clear HP43; have n0_ := Aside0.mk (hp_); have n1_ := Aside0.mk (Kd.R_over' (v := (.slice (some ⟨go32, 0, none⟩) x3_2.length co10)) (by (with_reducible repeat (first | apply Kd.R_alloc | apply Kd.R_drewN | apply Kd.R_drew)); exact HO_6.out) (Kd.N_typed HO_3.out) (by decide) hg); have n2_ := Aside0.mk (Kd.V_afterv (v := (.slice (some ⟨go32, 0, none⟩) x3_2.length co10)) (v1 := (.slice (some ⟨go32, 0, none⟩) x3_2.length co10)) (ok := (fun k_ => some k_ ≠ (u6 : Value).ownBlock ∧ k_ ≠ gb204)) (by (with_reducible repeat (first | apply Kd.V_alloc | apply Kd.V_drewN | apply Kd.V_drew)); exact Kd.V_mono HL202_0.out (fun _ hk => ⟨⟨hk.2.1, hk.2.2⟩, hk.1⟩)) hg (.inl rfl)); have n3_ := Aside0.mk (blk_grown (g := gb204) (o := .cells #[.string ((rd_T31 (rd_L5 x3_2 x7_3) 0).f0.f0), .int .i64 ((rd_T31 (rd_L5 x3_2 x7_3) 0).f0.f1), .int .i64 ((rd_T31 (rd_L5 x3_2 x7_3) 0).f0.f2), .string ((rd_T31 (rd_L5 x3_2 x7_3) 0).f1)] 31 (0, 0)) (by (with_reducible repeat (first | refine blk_drewN ?_ _ | refine blk_drew ?_ | refine blk_alloc ?_ _)); exact BK204.out) hg (Kd.N_ne HO_3.out BK204.out (by decide))); have n4_ := Aside0.mk (Kd.V_afterv (v := (.slice (some ⟨go32, 0, none⟩) x3_2.length co10)) (v1 := (.slice (some ⟨go32, 0, none⟩) x3_2.length co10)) (ok := (fun k_ => some k_ ≠ (u6 : Value).ownBlock ∧ k_ ≠ gb204)) (by (with_reducible repeat (first | apply Kd.V_alloc | apply Kd.V_drewN | apply Kd.V_drew)); exact HL205_0.out) hg (.inl rfl)); have n5_ := Aside0.mk (Kd.V_afterv (v := (.slice (some ⟨go32, 0, none⟩) x3_2.length co10)) (v1 := (.slice (some ⟨go32, 0, none⟩) x3_2.length co10)) (ok := (fun k_ => some k_ ≠ (u6 : Value).ownBlock ∧ k_ ≠ gb204)) (by (with_reducible repeat (first | apply Kd.V_alloc | apply Kd.V_drewN | apply Kd.V_drew)); exact HO210.out) hg (.inl rfl)); have n6_ := Aside0.mk ((by rw [hw]; exact below_set (HB.out) GB32.out : Below w.heap.size w w44)); clear HO_3; clear HO_6; clear HL202_0; clear BK204; clear HL205_0; clear HO210; clear HB; have HO_3 := n0_; have HO_6 := n1_; have HL202_0 := n2_; have BK204 := n3_; have HL205_0 := n4_; have HO210 := n5_; have HB := n6_; clear n0_ n1_ n2_ n3_ n4_ n5_ n6_; clear hg hw hp_; obtain ⟨Ao45, co45, eo45⟩ := Kd.R_slice HO_6.out; subst eo45))
                  have n0_ := Aside0.mk (Kd.N_drew HO_3.out)
                  have n1_ := Aside0.mk (Kd.R_drew HO_6.out)
                  have n2_ := Aside0.mk (Kd.V_drew HL202_0.out)
                  have n3_ := Aside0.mk (Kd.V_drew HL205_0.out)
                  have n4_ := Aside0.mk (Kd.V_drew HO210.out)
                  have n5_ := Aside0.mk (blk_drew BK204.out)
                  have n6_ := Aside0.mk (below_drew1 HB.out)
                  clear HO_3
                  clear HO_6
                  clear HL202_0
                  clear HL205_0
                  clear HO210
                  clear BK204
                  clear HB
                  have HO_3 := n0_
                  have HO_6 := n1_
                  have HL202_0 := n2_
                  have HL205_0 := n3_
                  have HO210 := n4_
                  have BK204 := n5_
                  have HB := n6_
                  clear n0_ n1_ n2_ n3_ n4_ n5_ n6_
                  have p212 : 0 ≤ ((ji34) : Int) := of_decide_eq_true (by first | (with_reducible assumption) | assumption)
                  have q212 : (ji34) < (x6_2.length : Int) := of_decide_eq_true (by first | (with_reducible assumption) | assumption)
                  obtain ⟨ad212, e212, hx212_0, hx212_1, hx212_2, hx212_3⟩ := at_T31 (Kd.R_reads' HO_6.out).2.2 (ji34) p212 q212
                  cases e212
                  replace p212 := eq_true p212
                  replace q212 := eq_true q212
                  refine start_ (n := 14) (S := fun w' => w'.cell? ⟨gb204, 0, none⟩ = some (.string ((rd_T31 (rd_L5 x3_2 x7_3) 0).f0.f0)) ∧ w'.cell? ⟨gb204, 1, none⟩ = some (.int .i64 ((rd_T31 (rd_L5 x3_2 x7_3) 0).f0.f1)) ∧ w'.cell? ⟨gb204, 2, none⟩ = some (.int .i64 ((rd_T31 (rd_L5 x3_2 x7_3) 0).f0.f2)) ∧ w'.cell? ⟨gb204, 3, none⟩ = some (.string ((rd_T31 (rd_L5 x3_2 x7_3) 0).f1)) ∧ w'.cell? (ad212.add (((ji34)).toNat * 4)) = some (.string ((rd_T31 x6_2 (ji34)).f0.f0)) ∧ w'.cell? ⟨(ad212.add (((ji34)).toNat * 4)).block, (ad212.add (((ji34)).toNat * 4)).off + 1, none⟩ = some (.int .i64 ((rd_T31 x6_2 (ji34)).f0.f1)) ∧ w'.cell? ⟨(ad212.add (((ji34)).toNat * 4)).block, (ad212.add (((ji34)).toNat * 4)).off + 2, none⟩ = some (.int .i64 ((rd_T31 x6_2 (ji34)).f0.f2)) ∧ w'.cell? ⟨(ad212.add (((ji34)).toNat * 4)).block, (ad212.add (((ji34)).toNat * 4)).off + 3, none⟩ = some (.string ((rd_T31 x6_2 (ji34)).f1))) (ds := []) #[false, false, false, false, false, false, false, false, false, false, false, false, false, false] (by kernel_rfl) rfl rfl ⟨(blk_cell BK204.out 0).trans rfl, (blk_cell BK204.out 1).trans rfl, (blk_cell BK204.out 2).trans rfl, (blk_cell BK204.out 3).trans rfl, hx212_0, hx212_1, hx212_2, hx212_3⟩ (fun hHeld => ?_); refine with_tabW merge_Merge.tab20 merge_Merge.bits20 (fun HT_ HW_ => ?_)
                  generalize w44.drew = w46 at HO_3 HO_6 HL202_0 HL205_0 HO210 BK204 HB hx212_0 hx212_1 hx212_2 hx212_3 hHeld ⊢
                  refine pure_ (i := 0) (N := some 73) (v := ?_) (a' := ?_) #[true, false, false, false, false, false, false, false, false, false, false, false, false, false] rfl rfl (any_of HT_.out (by kernel_rfl)) (fun _ _ _ h => h) (Or.inl ⟨by rfl, ?_⟩) ?_ ?_
                  rotate_left
                  ·
                   intro w'
                   go_simp
                   with_reducible rfl
                  rotate_left
                  ·
                   simp only [Act.put, List.setIfInBounds_toArray, List.set_cons_zero, List.set_cons_succ, i64_w, i32_w]
                   rfl
                  refine pure_ (i := 1) (N := some 74) (v := ?_) (a' := ?_) #[true, true, false, false, false, false, false, false, false, false, false, false, false, false] rfl rfl (any_of HT_.out (by kernel_rfl)) (fun _ _ _ h => h) (Or.inl ⟨by rfl, ?_⟩) ?_ ?_
                  rotate_left
                  ·
                   intro w'
                   go_simp
                   with_reducible rfl
                  rotate_left
                  ·
                   simp only [Act.put, List.setIfInBounds_toArray, List.set_cons_zero, List.set_cons_succ, i64_w, i32_w]
                   rfl
                  refine pure_ (i := 2) (N := some 75) (v := ?_) (a' := ?_) #[true, true, true, false, false, false, false, false, false, false, false, false, false, false] rfl rfl (any_of HT_.out (by kernel_rfl)) (fun _ _ _ h => h) (Or.inl ⟨by rfl, ?_⟩) ?_ ?_
                  rotate_left
                  ·
                   intro w'
                   go_simp
                   with_reducible rfl
                  rotate_left
                  ·
                   simp only [Act.put, List.setIfInBounds_toArray, List.set_cons_zero, List.set_cons_succ, i64_w, i32_w]
                   rfl
                  refine pure_ (i := 3) (N := some 76) (v := ?_) (a' := ?_) #[true, true, true, true, false, false, false, false, false, false, false, false, false, false] rfl rfl (any_of HT_.out (by kernel_rfl)) (fun _ _ _ h => h) (Or.inl ⟨by rfl, ?_⟩) ?_ ?_
                  rotate_left
                  ·
                   intro w'
                   go_simp
                   with_reducible rfl
                  rotate_left
                  ·
                   simp only [Act.put, List.setIfInBounds_toArray, List.set_cons_zero, List.set_cons_succ, i64_w, i32_w]
                   rfl
                  refine pure_ (i := 4) (N := some 77) (v := ?_) (a' := ?_) #[true, true, true, true, true, false, false, false, false, false, false, false, false, false] rfl rfl (any_of HT_.out (by kernel_rfl)) (fun _ _ _ h => h) (Or.inl ⟨by rfl, ?_⟩) ?_ ?_
                  rotate_left
                  ·
                   intro w'
                   go_simp
                   with_reducible rfl
                  rotate_left
                  ·
                   simp only [Act.put, List.setIfInBounds_toArray, List.set_cons_zero, List.set_cons_succ, i64_w, i32_w]
                   rfl
                  refine pure_ (i := 5) (N := some 78) (v := ?_) (a' := ?_) #[true, true, true, true, true, true, false, false, false, false, false, false, false, false] rfl rfl (any_of HT_.out (by kernel_rfl)) (fun _ _ _ h => h) (Or.inl ⟨by rfl, ?_⟩) ?_ ?_
                  rotate_left
                  ·
                   intro w'
                   go_simp
                   with_reducible rfl
                  rotate_left
                  ·
                   simp only [Act.put, List.setIfInBounds_toArray, List.set_cons_zero, List.set_cons_succ, i64_w, i32_w]
                   rfl
                  refine pure_ (i := 6) (N := some 79) (v := ?_) (a' := ?_) #[true, true, true, true, true, true, true, false, false, false, false, false, false, false] rfl rfl (any_of HT_.out (by kernel_rfl)) (fun _ _ _ h => h) (Or.inl ⟨by rfl, ?_⟩) ?_ ?_
                  rotate_left
                  ·
                   intro w'
                   go_simp
                   with_reducible rfl
                  rotate_left
                  ·
                   simp only [Act.put, List.setIfInBounds_toArray, List.set_cons_zero, List.set_cons_succ, i64_w, i32_w]
                   rfl
                  refine pure_ (i := 7) (N := some 80) (v := ?_) (a' := ?_) #[true, true, true, true, true, true, true, true, false, false, false, false, false, false] rfl rfl (any_of HT_.out (by kernel_rfl)) (fun _ _ _ h => h) (Or.inl ⟨by rfl, ?_⟩) ?_ ?_
                  rotate_left
                  ·
                   intro w'
                   go_simp
                   with_reducible rfl
                  rotate_left
                  ·
                   simp only [Act.put, List.setIfInBounds_toArray, List.set_cons_zero, List.set_cons_succ, i64_w, i32_w]
                   rfl
                  refine pure_ (i := 9) (N := some 82) (v := ?_) (a' := ?_) #[true, true, true, true, true, true, true, true, false, true, false, false, false, false] rfl rfl (any_of HT_.out (by kernel_rfl)) (fun _ _ _ h => h) (Or.inl ⟨by rfl, ?_⟩) ?_ ?_
                  rotate_left
                  ·
                   intro w'
                   go_simp
                   with_reducible rfl
                  rotate_left
                  ·
                   simp only [Act.put, List.setIfInBounds_toArray, List.set_cons_zero, List.set_cons_succ, i64_w, i32_w]
                   rfl
                  refine take_ (i := 8) (N := some 81) (v := ?_) (a' := ?_) #[true, true, true, true, true, true, true, true, true, true, false, false, false, false] rfl rfl (take_ofW HT_.out HW_.out (by kernel_rfl)) (fun _ _ _ h => h) (Or.inl ⟨by rfl, ?_⟩) hHeld ?_ ?_
                  rotate_left
                  ·
                   rintro w' ⟨s0, s1, s2, s3, s4, s5, s6, s7⟩
                   go_simp
                   with_reducible rfl
                  rotate_left
                  ·
                   simp only [Act.put, List.setIfInBounds_toArray, List.set_cons_zero, List.set_cons_succ, i64_w, i32_w]
                   rfl
                  refine take_ (i := 10) (N := some 83) (v := ?_) (a' := ?_) #[true, true, true, true, true, true, true, true, true, true, true, false, false, false] rfl rfl (take_ofW HT_.out HW_.out (by kernel_rfl)) (fun _ _ _ h => h) (Or.inl ⟨by rfl, ?_⟩) hHeld ?_ ?_
                  rotate_left
                  ·
                   rintro w' ⟨s0, s1, s2, s3, s4, s5, s6, s7⟩
                   go_simp
                   with_reducible rfl
                  rotate_left
                  ·
                   simp only [Act.put, List.setIfInBounds_toArray, List.set_cons_zero, List.set_cons_succ, i64_w, i32_w]
                   rfl
                  refine one_ (i := 11) (N := some 84) #[true, true, true, true, true, true, true, true, true, true, true, true, false, false] rfl rfl (one_of HT_.out (by kernel_rfl)) (by decide) (fun K hK => ?_)
                  refine goes_ Try.func45 (by kernel_rfl) rfl #[.agg #[.string ((rd_T31 x6_2 (ji34)).f0.f0), .int .i64 ((rd_T31 x6_2 (ji34)).f0.f1), .int .i64 ((rd_T31 x6_2 (ji34)).f0.f2)], .agg #[.string ((rd_T31 (rd_L5 x3_2 x7_3) 0).f0.f0), .int .i64 ((rd_T31 (rd_L5 x3_2 x7_3) 0).f0.f1), .int .i64 ((rd_T31 (rd_L5 x3_2 x7_3) 0).f0.f2)]] (by rfl) rfl rfl (by (try simp only [List.map_toArray, List.map_cons, List.map_nil]); first | done | (simp only [hji34]; rfl) | rfl | (simp only [List.length_drop, List.length_take]; rfl)) ?_
                  with_reducible refine (key_Cmp.calls k3 ((rd_T31 x6_2 (ji34)).f0.f0) ((rd_T31 x6_2 (ji34)).f0.f1) ((rd_T31 x6_2 (ji34)).f0.f2) ((rd_T31 (rd_L5 x3_2 x7_3) 0).f0.f0) ((rd_T31 (rd_L5 x3_2 x7_3) 0).f0.f1) ((rd_T31 (rd_L5 x3_2 x7_3) 0).f0.f2) t213 _ A37.out).mono ?_
                  rintro e w47 ⟨rfl, hb⟩
                  have HS4_ := (hb.cell (World.block_lt_of_cell? _ _ (hHeld.2.2.2.2.1))).trans (hHeld.2.2.2.2.1)
                  have HS5_ := (hb.cell (World.block_lt_of_cell? _ _ (hHeld.2.2.2.2.2.1))).trans (hHeld.2.2.2.2.2.1)
                  have HS6_ := (hb.cell (World.block_lt_of_cell? _ _ (hHeld.2.2.2.2.2.2.1))).trans (hHeld.2.2.2.2.2.2.1)
                  have HS7_ := (hb.cell (World.block_lt_of_cell? _ _ (hHeld.2.2.2.2.2.2.2))).trans (hHeld.2.2.2.2.2.2.2)
                  refine ⟨_, rfl, ?_⟩
                  have n0_ := Aside0.mk (Kd.N_below (by (with_reducible repeat (first | apply Kd.N_alloc | apply Kd.N_drewN | apply Kd.N_drew)); exact HO_3.out) hb)
                  have n1_ := Aside0.mk (Kd.R_below (by (with_reducible repeat (first | apply Kd.R_alloc | apply Kd.R_drewN | apply Kd.R_drew)); exact HO_6.out) hb)
                  have n2_ := Aside0.mk (Kd.V_below (by (with_reducible repeat (first | apply Kd.V_alloc | apply Kd.V_drewN | apply Kd.V_drew)); exact HL202_0.out) hb)
                  have n3_ := Aside0.mk (Kd.V_below (by (with_reducible repeat (first | apply Kd.V_alloc | apply Kd.V_drewN | apply Kd.V_drew)); exact HL205_0.out) hb)
                  have n4_ := Aside0.mk (Kd.V_below (by (with_reducible repeat (first | apply Kd.V_alloc | apply Kd.V_drewN | apply Kd.V_drew)); exact HO210.out) hb)
                  have n5_ := Aside0.mk (blk_below (g := gb204) (o := .cells #[.string ((rd_T31 (rd_L5 x3_2 x7_3) 0).f0.f0), .int .i64 ((rd_T31 (rd_L5 x3_2 x7_3) 0).f0.f1), .int .i64 ((rd_T31 (rd_L5 x3_2 x7_3) 0).f0.f2), .string ((rd_T31 (rd_L5 x3_2 x7_3) 0).f1)] 31 (0, 0)) (by (with_reducible repeat (first | refine blk_drewN ?_ _ | refine blk_drew ?_ | refine blk_alloc ?_ _)); exact BK204.out) hb)
                  have n6_ := Aside0.mk (below_step (by repeat (first | (with_reducible first | exact HB.out | apply below_alloc | apply pw_below_drewN | apply below_drew1 | refine below_set ?_ GE204.out) | exact HB.out | exact Below.refl _ _)) hb)
                  clear HO_3
                  clear HO_6
                  clear HL202_0
                  clear HL205_0
                  clear HO210
                  clear BK204
                  clear HB
                  have HO_3 := n0_
                  have HO_6 := n1_
                  have HL202_0 := n2_
                  have HL205_0 := n3_
                  have HO210 := n4_
                  have BK204 := n5_
                  have HB := n6_
                  clear n0_ n1_ n2_ n3_ n4_ n5_ n6_
                  (try clear hb)
                  refine hK.out _ _ ⟨(blk_cell BK204.out 0).trans rfl, (blk_cell BK204.out 1).trans rfl, (blk_cell BK204.out 2).trans rfl, (blk_cell BK204.out 3).trans rfl, HS4_, HS5_, HS6_, HS7_⟩ (fun hHeld => ?_)
                  clear hK K
                  refine norm_ (a' := ?_) ?_ ?_
                  rotate_left
                  ·
                   show Act.put _ (some 84) _ = _
                   simp only [Act.put, List.setIfInBounds_toArray, List.set_cons_zero, List.set_cons_succ, i64_w, i32_w]
                   rfl
                  refine pure_ (i := 12) (N := some 85) (v := ?_) (a' := ?_) #[true, true, true, true, true, true, true, true, true, true, true, true, true, false] rfl rfl (any_of HT_.out (by kernel_rfl)) (fun _ _ _ h => h) (Or.inl ⟨by rfl, ?_⟩) ?_ ?_
                  rotate_left
                  ·
                   intro w'
                   go_simp
                   with_reducible rfl
                  rotate_left
                  ·
                   simp only [Act.put, List.setIfInBounds_toArray, List.set_cons_zero, List.set_cons_succ, i64_w, i32_w]
                   rfl
                  refine pure_ (i := 13) (N := some 86) (v := ?_) (a' := ?_) #[true, true, true, true, true, true, true, true, true, true, true, true, true, true] rfl rfl (any_of HT_.out (by kernel_rfl)) (fun _ _ _ h => h) (Or.inl ⟨by rfl, ?_⟩) ?_ ?_
                  rotate_left
                  ·
                   intro w'
                   go_simp
                   with_reducible rfl
                  rotate_left
                  ·
                   simp only [Act.put, List.setIfInBounds_toArray, List.set_cons_zero, List.set_cons_succ, i64_w, i32_w]
                   rfl
                  refine done_ (done_of HT_.out (by kernel_rfl)) ?_
                  try go_wp2_with (first | (with_reducible refine wp_label ?_) | (with_reducible refine wp_scope_straight ?_) | (simp only [Exit.noGoto_ret, Exit.noGoto_normal, Exit.noGoto_exit]))
                  go_roundg k3
                  case measure => have := HK1.out; have := HK2.out; have := HK3.out; omega
                  case rel => exact ⟨(y211), (x6_2), (by first | exact H' | (simp only [hji34]; exact H')), ⟨by have := HK1.out; have := HK2.out; have := HK3.out; omega⟩, ⟨by (with_reducible repeat (first | apply Kd.N_alloc | apply Kd.N_drewN | apply Kd.N_drew)); exact Kd.N_mono HO_3.out (fun _ hk => hk.1)⟩, ⟨by (with_reducible repeat (first | apply Kd.R_alloc | apply Kd.R_drewN | apply Kd.R_drew)); exact Kd.R_mono HO_6.out (fun _ hk => trivial)⟩, ⟨by repeat (first | (with_reducible first | exact HB.out | apply below_alloc | apply pw_below_drewN | apply below_drew1 | refine below_set ?_ GE204.out) | exact HB.out | exact Below.refl _ _)⟩⟩
                 ·
                  rw [if_neg c38] at H
                  have c38b0 : (t213 == 0) = false := beq_eq_false_iff_ne.mpr c38
                  have c38b1 : (t213 != 0) = true := bne_iff_ne.mpr c38
                  by_cases c48 : x6_2.length < 2932031007402
                  ·
                   rw [if_pos c48] at H
                   have LMc48 := Aside0.mk c48
                   clear c48
                   obtain ⟨y214, hy214⟩ : ∃ y_ : List (S31), y_ = (x6_2 ++ [(⟨(⟨(rd_T31 (rd_L5 x3_2 x7_3) 0).f0.f0, (rd_T31 (rd_L5 x3_2 x7_3) 0).f0.f1, (rd_T31 (rd_L5 x3_2 x7_3) 0).f0.f2⟩ : S29), (rd_T31 (rd_L5 x3_2 x7_3) 0).f1⟩ : S31)]) := ⟨_, rfl⟩
                   replace H : (merge_Merge.l1 k3 y211 y214) = some r := by first | (rw [hy214]; with_reducible exact H) | (have H2_ := (Option.bind_some _ _).symm.trans H; rw [hy214]; with_reducible exact H2_) | (have H2_ := (Option.bind_some _ _).symm.trans H; with_reducible exact H2_) | with_reducible exact H | (rw [hy214]; exact H) | exact H
                   have Ny214 := Aside0.mk hy214
                   clear hy214
                   have H' := Aside0.mk H
                   clear H
                   have p202 : 0 ≤ (x7_3 : Int) := of_decide_eq_true (by first | (with_reducible assumption) | assumption)
                   have q202 : x7_3 < (x3_2.length : Int) := of_decide_eq_true (by first | (with_reducible assumption) | assumption)
                   obtain ⟨ad202, A202_0, c202_0, e202, hx202_0, hl202_0, hi202_0⟩ := at_L5 (Kd.N_reads' HO_3.out).2.2 x7_3 p202 q202
                   cases e202
                   obtain ⟨ce202, hce202, hMe202, hcc202⟩ := Kd.N_get HO_3.out [] x7_3 p202 (by first | exact q202 | exact of_decide_eq_true (by first | (with_reducible assumption) | assumption) | (have e_ := (Kd.N_reads' HO_3.out).1; omega))
                   obtain ⟨ua202_0, uc202_0, rfl, ul202_0, ge202_0⟩ := Kd.FK_slice_open hMe202
                   have hv202_0 := hcc202 0 _ rfl
                   rw [Nat.add_zero, show ((Kd.slice 31 k31)).sz = 1 from rfl, Nat.mul_one] at hv202_0
                   replace hv202_0 := Option.some.inj (hv202_0.symm.trans hx202_0)
                   injection hv202_0 with hva_ hvn_ hvc_
                   rw [hva_] at ge202_0
                   rw [hvc_] at ul202_0
                   have HL202_0 := Aside0.mk (show Kd.V k31 31 _ w.heap.size _ _ (rd_L5 x3_2 x7_3) from Kd.V_mk ul202_0 ge202_0)
                   clear hva_ hvn_ hvc_ ge202_0 ul202_0
                   clear hcc202 hce202
                   have HR202_0 := Aside0.mk hi202_0
                   have HC202_0 := Aside0.mk hl202_0
                   clear hi202_0 hl202_0
                   replace p202 := eq_true p202
                   replace q202 := eq_true q202
                   have p203 : 0 ≤ (0 : Int) := (by omega)
                   have q203 : 0 < ((rd_L5 x3_2 x7_3).length : Int) := of_decide_eq_true (by first | (with_reducible assumption) | assumption)
                   obtain ⟨ad203, e203, hx203_0, hx203_1, hx203_2, hx203_3⟩ := at_T31 (by repeat (first | (with_reducible exact HR202_0.out) | (with_reducible refine Kd.C_alloc ?_ _) | (with_reducible refine Kd.C_drewN ?_ _) | (with_reducible refine Kd.C_drew ?_) | exact HR202_0.out)) 0 p203 q203
                   cases e203
                   have qi203 : (0 < (rd_L5 x3_2 x7_3).length) = True := eq_true (by omega)
                   (try rw [show ((0 : Int)).toNat = 0 from rfl] at hx203_0)
                   (try rw [show 0 * 4 = 0 from rfl] at hx203_0)
                   (try rw [Addr.add_zero'] at hx203_0)
                   (try rw [show ((0 : Int)).toNat = 0 from rfl] at hx203_1)
                   (try rw [show 0 * 4 = 0 from rfl] at hx203_1)
                   (try rw [Addr.add_zero'] at hx203_1)
                   (try rw [show ((0 : Int)).toNat = 0 from rfl] at hx203_2)
                   (try rw [show 0 * 4 = 0 from rfl] at hx203_2)
                   (try rw [Addr.add_zero'] at hx203_2)
                   (try rw [show ((0 : Int)).toNat = 0 from rfl] at hx203_3)
                   (try rw [show 0 * 4 = 0 from rfl] at hx203_3)
                   (try rw [Addr.add_zero'] at hx203_3)
                   replace p203 := eq_true p203
                   replace q203 := eq_true q203
                   try go_wp2_with (first | (first | (with_reducible refine wp_label ?_) | (with_reducible refine wp_scope_straight ?_) | (simp only [Exit.noGoto_ret, Exit.noGoto_normal, Exit.noGoto_exit])) | ((with_reducible refine gate_dst (N := 10) rfl ?_); refine box_event ?hg (N := 10) ?hd (cs := #[.string (⟨#[]⟩ : ByteArray), .int .i64 0, .int .i64 0, .string (⟨#[]⟩ : ByteArray)]) (t := 31) ?hr ?_; (case hd => rfl); (case hg => rfl); (case hr => first | (go_simp; done) | (go_simp; rfl)); intro gb204 hg w49 hbox hb; have n0_ := Aside0.mk (Kd.N_below (Kd.N_elderB (by (with_reducible repeat (first | apply Kd.N_alloc | apply Kd.N_drewN | apply Kd.N_drew)); exact HO_3.out) gb204 (Nat.le_of_eq hg.symm)) hb); have n1_ := Aside0.mk (Kd.R_below (Kd.R_elderB (by (with_reducible repeat (first | apply Kd.R_alloc | apply Kd.R_drewN | apply Kd.R_drew)); exact HO_6.out) gb204 (Nat.le_of_eq hg.symm)) hb); have n2_ := Aside0.mk (Kd.N_below (Kd.N_elderB (by (with_reducible repeat (first | apply Kd.N_alloc | apply Kd.N_drewN | apply Kd.N_drew)); exact HO_24.out) gb204 (Nat.le_of_eq hg.symm)) hb); have n3_ := Aside0.mk (Kd.V_below (Kd.V_elderB (by (with_reducible repeat (first | apply Kd.V_alloc | apply Kd.V_drewN | apply Kd.V_drew)); exact HL202_0.out) gb204 (Nat.le_of_eq hg.symm)) hb); have n4_ := Aside0.mk (Kd.C_below (by repeat (first | (with_reducible exact HR202_0.out) | (with_reducible refine Kd.C_alloc ?_ _) | (with_reducible refine Kd.C_drewN ?_ _) | (with_reducible refine Kd.C_drew ?_) | exact HR202_0.out)) hb); have n5_ := Aside0.mk (below_step (by repeat (first | (with_reducible first | exact HB.out | apply below_alloc | apply pw_below_drewN | apply below_drew1) | exact HB.out | exact Below.refl _ _)) hb); have n6_ := Aside0.mk (hbox); have n7_ := Aside0.mk ((by rw [hg]; exact (below_size (by repeat (first | (with_reducible first | exact HB.out | apply below_alloc | apply pw_below_drewN | apply below_drew1) | exact HB.out | exact Below.refl _ _))) : w.heap.size ≤ gb204)); have n8_ := Aside0.mk ((by rw [hg]; exact (below_size (by repeat (first | (with_reducible first | exact HB.out | apply below_alloc | apply pw_below_drewN | apply below_drew1) | exact HB.out | exact Below.refl _ _))) : w.heap.size ≤ gb204)); clear HO_3; clear HO_6; clear HO_24; clear HL202_0; clear HR202_0; clear HB; have HO_3 := n0_; have HO_6 := n1_; have HO_24 := n2_; have HL202_0 := n3_; have HR202_0 := n4_; have HB := n5_; have BK204 := n6_; have GW204 := n7_; have GE204 := n8_; clear n0_ n1_ n2_ n3_ n4_ n5_ n6_ n7_ n8_; clear hb hbox hg; have hcz50_0 : w49.cell? ⟨gb204, 0, none⟩ = some (.string (⟨#[]⟩ : ByteArray)) := (blk_cell BK204.out 0).trans rfl; have hcz50_1 : w49.cell? ⟨gb204, 1, none⟩ = some (.int .i64 0) := (blk_cell BK204.out 1).trans rfl; have hcz50_2 : w49.cell? ⟨gb204, 2, none⟩ = some (.int .i64 0) := (blk_cell BK204.out 2).trans rfl; have hcz50_3 : w49.cell? ⟨gb204, 3, none⟩ = some (.string (⟨#[]⟩ : ByteArray)) := (blk_cell BK204.out 3).trans rfl; have hfz50_0 := blk_frozen BK204.out 0; have hfz50_1 := blk_frozen BK204.out 1; have hfz50_2 := blk_frozen BK204.out 2; have hfz50_3 := blk_frozen BK204.out 3) | ((with_reducible refine gate_store (t := 31) (p := 10) rfl ?_); refine store_event (t := 31) (p := 10) (v := ?vo_w51) (w1 := ((((w49.setCell ⟨gb204, 0, none⟩ (.string ((rd_T31 (rd_L5 x3_2 x7_3) 0).f0.f0))).setCell ⟨gb204, 1, none⟩ (.int .i64 ((rd_T31 (rd_L5 x3_2 x7_3) 0).f0.f1))).setCell ⟨gb204, 2, none⟩ (.int .i64 ((rd_T31 (rd_L5 x3_2 x7_3) 0).f0.f2))).setCell ⟨gb204, 3, none⟩ (.string ((rd_T31 (rd_L5 x3_2 x7_3) 0).f1)))) ?hg ?ho ?hn ?hr ?_; (case ho => rfl); (case hg => rfl); (case hn => rfl); (case hr => first | (go_simp; done) | (go_simp; rfl)); intro w51 hw; have n0_ : Aside0 (Kd.N (Kd.slice 31 k31) 24 w51 w.heap.size (fun k_ => some k_ ≠ (u6 : Value).ownBlock ∧ k_ ≠ gb204) (.slice (some ad202) x3_2.length co10) x3_2) := ⟨(by rw [hw]; exact (by (with_reducible repeat (first | apply Kd.N_alloc | apply Kd.N_drewN | apply Kd.N_drew)); exact Kd.N_mono (Kd.N_far (p := ⟨gb204, 3, none⟩) (Kd.N_far (p := ⟨gb204, 2, none⟩) (Kd.N_far (p := ⟨gb204, 1, none⟩) (Kd.N_far (p := ⟨gb204, 0, none⟩) (Kd.N_mono HO_3.out (fun k_ hk => (⟨hk, hk.2⟩ : _ ∧ k_ ≠ gb204))) (fun _ hk => hk.2) (.string ((rd_T31 (rd_L5 x3_2 x7_3) 0).f0.f0))) (fun _ hk => hk.2) (.int .i64 ((rd_T31 (rd_L5 x3_2 x7_3) 0).f0.f1))) (fun _ hk => hk.2) (.int .i64 ((rd_T31 (rd_L5 x3_2 x7_3) 0).f0.f2))) (fun _ hk => hk.2) (.string ((rd_T31 (rd_L5 x3_2 x7_3) 0).f1))) (fun _ hk => ⟨hk.1.1, hk.1.2⟩)))⟩; have n1_ : Aside0 (Kd.R k31 31 w51 w.heap.size (fun k_ => k_ ≠ gb204) u6 x6_2) := ⟨(by rw [hw]; exact (by (with_reducible repeat (first | apply Kd.R_alloc | apply Kd.R_drewN | apply Kd.R_drew)); exact Kd.R_mono (Kd.R_far (p := ⟨gb204, 3, none⟩) (Kd.R_far (p := ⟨gb204, 2, none⟩) (Kd.R_far (p := ⟨gb204, 1, none⟩) (Kd.R_far (p := ⟨gb204, 0, none⟩) (Kd.R_mono HO_6.out (fun k_ hk => (⟨hk, hk.2⟩ : _ ∧ k_ ≠ gb204))) (fun _ hk => hk.2) (.string ((rd_T31 (rd_L5 x3_2 x7_3) 0).f0.f0))) (fun _ hk => hk.2) (.int .i64 ((rd_T31 (rd_L5 x3_2 x7_3) 0).f0.f1))) (fun _ hk => hk.2) (.int .i64 ((rd_T31 (rd_L5 x3_2 x7_3) 0).f0.f2))) (fun _ hk => hk.2) (.string ((rd_T31 (rd_L5 x3_2 x7_3) 0).f1))) (fun _ hk => hk.1.2)))⟩; have n2_ : Aside0 (Kd.N (Kd.slice 31 k31) 24 w51 w.heap.size (fun k_ => some k_ ≠ (u6 : Value).ownBlock ∧ k_ ≠ gb204) (.slice (some ad202) x3_2.length co10) x3_2) := ⟨(by rw [hw]; exact (by (with_reducible repeat (first | apply Kd.N_alloc | apply Kd.N_drewN | apply Kd.N_drew)); exact Kd.N_mono (Kd.N_far (p := ⟨gb204, 3, none⟩) (Kd.N_far (p := ⟨gb204, 2, none⟩) (Kd.N_far (p := ⟨gb204, 1, none⟩) (Kd.N_far (p := ⟨gb204, 0, none⟩) (Kd.N_mono HO_24.out (fun k_ hk => (⟨hk, hk.2⟩ : _ ∧ k_ ≠ gb204))) (fun _ hk => hk.2) (.string ((rd_T31 (rd_L5 x3_2 x7_3) 0).f0.f0))) (fun _ hk => hk.2) (.int .i64 ((rd_T31 (rd_L5 x3_2 x7_3) 0).f0.f1))) (fun _ hk => hk.2) (.int .i64 ((rd_T31 (rd_L5 x3_2 x7_3) 0).f0.f2))) (fun _ hk => hk.2) (.string ((rd_T31 (rd_L5 x3_2 x7_3) 0).f1))) (fun _ hk => ⟨hk.1.1, hk.1.2⟩)))⟩; have n3_ : Aside0 (Kd.V k31 31 w51 w.heap.size (fun k_ => some k_ ≠ (.slice (some ad202) x3_2.length co10 : Value).ownBlock ∧ some k_ ≠ (u6 : Value).ownBlock ∧ k_ ≠ gb204) (.slice (some ad203) (rd_L5 x3_2 x7_3).length c202_0) (rd_L5 x3_2 x7_3)) := ⟨(by rw [hw]; exact (by (with_reducible repeat (first | apply Kd.V_alloc | apply Kd.V_drewN | apply Kd.V_drew)); exact Kd.V_mono (Kd.V_far (p := ⟨gb204, 3, none⟩) (Kd.V_far (p := ⟨gb204, 2, none⟩) (Kd.V_far (p := ⟨gb204, 1, none⟩) (Kd.V_far (p := ⟨gb204, 0, none⟩) (Kd.V_mono HL202_0.out (fun k_ hk => (⟨hk, hk.2⟩ : _ ∧ k_ ≠ gb204))) (fun _ hk => hk.2) (.string ((rd_T31 (rd_L5 x3_2 x7_3) 0).f0.f0))) (fun _ hk => hk.2) (.int .i64 ((rd_T31 (rd_L5 x3_2 x7_3) 0).f0.f1))) (fun _ hk => hk.2) (.int .i64 ((rd_T31 (rd_L5 x3_2 x7_3) 0).f0.f2))) (fun _ hk => hk.2) (.string ((rd_T31 (rd_L5 x3_2 x7_3) 0).f1))) (fun _ hk => ⟨hk.1.1.2, ⟨hk.1.1.1, hk.1.2⟩⟩)))⟩; have n4_ : Aside0 (w51.heap[gb204]? = some (.cells #[.string ((rd_T31 (rd_L5 x3_2 x7_3) 0).f0.f0), .int .i64 ((rd_T31 (rd_L5 x3_2 x7_3) 0).f0.f1), .int .i64 ((rd_T31 (rd_L5 x3_2 x7_3) 0).f0.f2), .string ((rd_T31 (rd_L5 x3_2 x7_3) 0).f1)] 31 (0, 0))) := ⟨(by rw [hw]; exact (by (with_reducible repeat (first | refine blk_drewN ?_ _ | refine blk_drew ?_ | refine blk_alloc ?_ _)); refine blk_put (cs := #[.string ((rd_T31 (rd_L5 x3_2 x7_3) 0).f0.f0), .int .i64 ((rd_T31 (rd_L5 x3_2 x7_3) 0).f0.f1), .int .i64 ((rd_T31 (rd_L5 x3_2 x7_3) 0).f0.f2), .string (⟨#[]⟩ : ByteArray)]) ?_ 3 _ rfl; (with_reducible repeat (first | refine blk_drewN ?_ _ | refine blk_drew ?_ | refine blk_alloc ?_ _)); refine blk_put (cs := #[.string ((rd_T31 (rd_L5 x3_2 x7_3) 0).f0.f0), .int .i64 ((rd_T31 (rd_L5 x3_2 x7_3) 0).f0.f1), .int .i64 0, .string (⟨#[]⟩ : ByteArray)]) ?_ 2 _ rfl; (with_reducible repeat (first | refine blk_drewN ?_ _ | refine blk_drew ?_ | refine blk_alloc ?_ _)); refine blk_put (cs := #[.string ((rd_T31 (rd_L5 x3_2 x7_3) 0).f0.f0), .int .i64 0, .int .i64 0, .string (⟨#[]⟩ : ByteArray)]) ?_ 1 _ rfl; (with_reducible repeat (first | refine blk_drewN ?_ _ | refine blk_drew ?_ | refine blk_alloc ?_ _)); refine blk_put (cs := #[.string (⟨#[]⟩ : ByteArray), .int .i64 0, .int .i64 0, .string (⟨#[]⟩ : ByteArray)]) ?_ 0 _ rfl; (with_reducible repeat (first | refine blk_drewN ?_ _ | refine blk_drew ?_ | refine blk_alloc ?_ _)); exact BK204.out))⟩; have n5_ : Aside0 (Below w.heap.size w w51) := ⟨(by rw [hw]; exact (by repeat (first | (with_reducible first | exact HB.out | apply below_alloc | apply pw_below_drewN | apply below_drew1 | refine below_set ?_ GE204.out) | exact HB.out | exact Below.refl _ _)))⟩; clear hw; clear HO_3; clear HO_6; clear HO_24; clear HL202_0; clear BK204; clear HB; have HO_3 := n0_; have HO_6 := n1_; have HO_24 := n2_; have HL202_0 := n3_; have BK204 := n4_; have HB := n5_; clear n0_ n1_ n2_ n3_ n4_ n5_; have p205 : 0 ≤ (x7_3 : Int) := of_decide_eq_true (by first | (with_reducible assumption) | assumption); have q205 : x7_3 < (x3_2.length : Int) := of_decide_eq_true (by first | (with_reducible assumption) | assumption); obtain ⟨ad205, A205_0, c205_0, e205, hx205_0, hl205_0, hi205_0⟩ := at_L5 (Kd.N_reads' HO_3.out).2.2 x7_3 p205 q205; obtain rfl : ad202 = ad205 := (by injection e205); obtain ⟨ce205, hce205, hMe205, hcc205⟩ := Kd.N_get HO_3.out [] x7_3 p205 (by first | exact q205 | exact of_decide_eq_true (by first | (with_reducible assumption) | assumption) | (have e_ := (Kd.N_reads' HO_3.out).1; omega)); obtain ⟨ua205_0, uc205_0, rfl, ul205_0, ge205_0⟩ := Kd.FK_slice_open hMe205; have hv205_0 := hcc205 0 _ rfl; rw [Nat.add_zero, show ((Kd.slice 31 k31)).sz = 1 from rfl, Nat.mul_one] at hv205_0; replace hv205_0 := Option.some.inj (hv205_0.symm.trans hx205_0); injection hv205_0 with hva_ hvn_ hvc_; rw [hva_] at ge205_0; rw [hvc_] at ul205_0; have HL205_0 := Aside0.mk (show Kd.V k31 31 _ w.heap.size _ _ (rd_L5 x3_2 x7_3) from Kd.V_mk ul205_0 ge205_0); clear hva_ hvn_ hvc_ ge205_0 ul205_0; clear hcc205 hce205; have HR205_0 := Aside0.mk hi205_0; have HC205_0 := Aside0.mk hl205_0; clear hi205_0 hl205_0; replace p205 := eq_true p205; replace q205 := eq_true q205; have q52 : (1 : Int) ≤ (((rd_L5 x3_2 x7_3).length : Int) : Int) := of_decide_eq_true (by first | (with_reducible assumption) | assumption); obtain ⟨i052, hi052, _, hsz52, _⟩ := info_parts info31; have hroom52 : (rd_L5 x3_2 x7_3).length ≤ c205_0 := HC205_0.out; have hC52 : Kd.F k31 _ _ A205_0 (rd_L5 x3_2 x7_3).length (rd_L5 x3_2 x7_3) := (Kd.V_at (base := w.heap.size) HL205_0.out).2.2; have hcut52 := cut_from (P := Try.prog) 24 31 .i64 Try.underlying24 hi052 4 hsz52 A205_0 (rd_L5 x3_2 x7_3).length c205_0 1 (by omega) q52; have hr52 := Kd.F_cut (m := (1 : Int).toNat) (c := c205_0) hC52 (by omega) hroom52; obtain ⟨A52, hA52⟩ : ∃ A1, A1 = (if c205_0 = (1 : Int).toNat then A205_0 else (A205_0 : Option Addr).map (·.add ((1 : Int).toNat * 4))) := ⟨_, rfl⟩; obtain ⟨c52, hc52⟩ : ∃ c1, c1 = c205_0 - (1 : Int).toNat := ⟨_, rfl⟩; have hy52 : y206.length = (rd_L5 x3_2 x7_3).length - (1 : Int).toNat := (by rw [Ny206.out, List.length_drop] <;> omega); rw [show (rd_L5 x3_2 x7_3).drop (1 : Int).toNat = y206 from Ny206.out.symm] at hr52; replace hr52 : Kd.F k31 _ _ A52 y206.length y206 := (by rw [hA52]; exact hr52); rw [← hy52, ← hA52, ← hc52] at hcut52; have HO210 := Aside0.mk (show Kd.V k31 31 _ w.heap.size _ (.slice A52 y206.length c52) y206 from Kd.V_mk (by rw [hy52, hc52]; exact Nat.sub_le_sub_right hroom52 _) hr52); have HC210 := Aside0.mk (show y206.length ≤ c52 from by rw [hy52, hc52]; exact Nat.sub_le_sub_right hroom52 _); clear hr52 hC52 hroom52 hi052 hsz52 hc52; have KY52 := Aside0.mk hy52; have KA52 := Aside0.mk hA52; clear hy52 hA52; replace q52 := eq_true q52; have p32 : 0 ≤ (x7_3 : Int) := of_decide_eq_true (by first | (with_reducible assumption) | assumption); have q32 : (x7_3 : Int) < ((x3_2.length : Int) : Int) := of_decide_eq_true (by first | (with_reducible assumption) | assumption); obtain ⟨go32, co32, eo32, gb32, gl32, cl32, HG32⟩ := Kd.N_form HO_3.out (by omega); (first | cases eo32 | (injection eo32 with ea_ en_ ec_; (first | subst ea_ | (injection ea_ with ea_; subst ea_)); subst ec_; clear en_)); have GB32 := Aside0.mk gb32; have GG32 := Aside0.mk HG32; clear gb32 gl32 HG32; (first | simp only [add_plain] at hx202_0 | skip); (first | simp only [add_plain] at hx205_0 | skip); obtain ⟨ce32, hcl32, hM32, hcc32, hfr32⟩ := Kd.N_elem HO_3.out [] (x7_3 : Int) p32 q32; obtain ⟨ua32_0, uc32_0, rfl, ul32_0, ge32_0⟩ := Kd.FK_slice_open hM32; have hx32_0 := hcc32 0 _ rfl; have hf32_0 := hfr32 0; (try simp only [show ((Kd.slice 31 k31)).sz = 1 from rfl, Nat.mul_one, Nat.add_zero] at hx32_0); (try simp only [show ((Kd.slice 31 k31)).sz = 1 from rfl, Nat.mul_one, Nat.add_zero] at hf32_0); clear hcl32 hcc32 hfr32 hM32; replace p32 := eq_true p32; replace q32 := eq_true q32; have HX53 := Aside0.mk (show Kd.N (Kd.slice 31 k31) 24 w51 w.heap.size (fun k_ => some k_ ≠ (u6 : Value).ownBlock ∧ k_ ≠ gb204) (.slice (some ⟨go32, 0, none⟩) x3_2.length co10) x3_2 from (by (with_reducible repeat (first | apply Kd.N_alloc | apply Kd.N_drewN | apply Kd.N_drew)); exact HO_3.out)); obtain ⟨ce53, hcl53, hM53, hcc53, hfr53⟩ := Kd.N_elem HX53.out [] (x7_3 : Int) (of_decide_eq_true (by first | (with_reducible assumption) | assumption)) (by have h_ : (x7_3 : Int) < ((x3_2.length : Int) : Int) := of_decide_eq_true (by first | (with_reducible assumption) | assumption); first | exact h_ | (have e_ := (Kd.N_reads' HO_3.out).1; omega) | simpa using h_); obtain ⟨ua53_0, uc53_0, rfl, ul53_0, ge53_0⟩ := Kd.FK_slice_open hM53; have HP53 := Kd.N_seg HX53.out (x7_3 : Int) (of_decide_eq_true (by first | (with_reducible assumption) | assumption)) (by have h_ : (x7_3 : Int) < ((x3_2.length : Int) : Int) := of_decide_eq_true (by first | (with_reducible assumption) | assumption); first | exact h_ | (have e_ := (Kd.N_reads' HO_3.out).1; omega) | simpa using h_) (seg := [.slice A52 y206.length c52]) (j := 0) hcl53 hcc53 (show 1 ≤ 1 from by decide) (x' := y206) (Kd.FK_slice_mk (Kd.V_reads' (Kd.V_mono (ok' := (fun k_ => ((fun k_ => some k_ ≠ (u6 : Value).ownBlock ∧ k_ ≠ gb204)) k_ ∧ k_ ≠ go32)) (HO210.out) (fun k_ hk => ⟨⟨hk.1.1, hk.1.2⟩, fun e_ => (hk.2) (by rw [e_]; rfl)⟩))).2.1 (Kd.V_F (Kd.V_mono (ok' := (fun k_ => ((fun k_ => some k_ ≠ (u6 : Value).ownBlock ∧ k_ ≠ gb204)) k_ ∧ k_ ≠ go32)) (HO210.out) (fun k_ hk => ⟨⟨hk.1.1, hk.1.2⟩, fun e_ => (hk.2) (by rw [e_]; rfl)⟩)))) (fun _ hk => hk); have hx53_0 := hcc53 0 _ rfl; (try simp only [show ((Kd.slice 31 k31)).sz = 1 from rfl, Nat.mul_one, Nat.add_zero] at hx53_0); have hf53_0 := hfr53 0; (try simp only [show ((Kd.slice 31 k31)).sz = 1 from rfl, Nat.mul_one, Nat.add_zero] at hf53_0); clear hcl53 hcc53 hfr53 hM53; (try simp only [show ((Kd.slice 31 k31)).sz = 1 from rfl, Nat.mul_one, Nat.add_zero] at HP53); (try simp only [show ((Kd.slice 31 k31)).sz = 1 from rfl, Nat.mul_one, Nat.add_zero] at HP53)) | ((with_reducible refine gate_store (t := 24) (p := 70) rfl ?_); refine store_event (t := 24) (p := 70) (v := ?vo_w54) (w1 := (w51.setCell ⟨go32, (x7_3 : Int).toNat, none⟩ (.slice A52 y206.length c52))) ?hg ?ho ?hn ?hr ?_; (case ho => rfl); (case hg => rfl); (case hn => rfl); (case hr => first | (go_simp; done) | (go_simp; rfl)); intro w54 hw; have hg : w51.grownBy w54 (some go32) := (by rw [hw]; exact HP53.2); have hp_ : Kd.N (Kd.slice 31 k31) 24 w54 w.heap.size (fun k_ => some k_ ≠ (u6 : Value).ownBlock ∧ k_ ≠ gb204) (.slice (some ⟨go32, 0, none⟩) x3_2.length co10) y211 := (by rw [hw, Ny211.out]; exact HP53.1); clear HP53; have n0_ := Aside0.mk (hp_); have n1_ := Aside0.mk (Kd.R_over' (v := (.slice (some ⟨go32, 0, none⟩) x3_2.length co10)) (by (with_reducible repeat (first | apply Kd.R_alloc | apply Kd.R_drewN | apply Kd.R_drew)); exact HO_6.out) (Kd.N_typed HO_3.out) (by decide) hg); have n2_ := Aside0.mk (Kd.V_afterv (v := (.slice (some ⟨go32, 0, none⟩) x3_2.length co10)) (v1 := (.slice (some ⟨go32, 0, none⟩) x3_2.length co10)) (ok := (fun k_ => some k_ ≠ (u6 : Value).ownBlock ∧ k_ ≠ gb204)) (by (with_reducible repeat (first | apply Kd.V_alloc | apply Kd.V_drewN | apply Kd.V_drew)); exact Kd.V_mono HL202_0.out (fun _ hk => ⟨⟨hk.2.1, hk.2.2⟩, hk.1⟩)) hg (.inl rfl)); have n3_ := Aside0.mk (blk_grown (g := gb204) (o := .cells #[.string ((rd_T31 (rd_L5 x3_2 x7_3) 0).f0.f0), .int .i64 ((rd_T31 (rd_L5 x3_2 x7_3) 0).f0.f1), .int .i64 ((rd_T31 (rd_L5 x3_2 x7_3) 0).f0.f2), .string ((rd_T31 (rd_L5 x3_2 x7_3) 0).f1)] 31 (0, 0)) (by (with_reducible repeat (first | refine blk_drewN ?_ _ | refine blk_drew ?_ | refine blk_alloc ?_ _)); exact BK204.out) hg (Kd.N_ne HO_3.out BK204.out (by decide))); have n4_ := Aside0.mk (Kd.V_afterv (v := (.slice (some ⟨go32, 0, none⟩) x3_2.length co10)) (v1 := (.slice (some ⟨go32, 0, none⟩) x3_2.length co10)) (ok := (fun k_ => some k_ ≠ (u6 : Value).ownBlock ∧ k_ ≠ gb204)) (by (with_reducible repeat (first | apply Kd.V_alloc | apply Kd.V_drewN | apply Kd.V_drew)); exact HL205_0.out) hg (.inl rfl)); have n5_ := Aside0.mk (Kd.V_afterv (v := (.slice (some ⟨go32, 0, none⟩) x3_2.length co10)) (v1 := (.slice (some ⟨go32, 0, none⟩) x3_2.length co10)) (ok := (fun k_ => some k_ ≠ (u6 : Value).ownBlock ∧ k_ ≠ gb204)) (by (with_reducible repeat (first | apply Kd.V_alloc | apply Kd.V_drewN | apply Kd.V_drew)); exact HO210.out) hg (.inl rfl)); have n6_ := Aside0.mk ((by rw [hw]; exact below_set (HB.out) GB32.out : Below w.heap.size w w54)); clear HO_3; clear HO_6; clear HL202_0; clear BK204; clear HL205_0; clear HO210; clear HB; have HO_3 := n0_; have HO_6 := n1_; have HL202_0 := n2_; have BK204 := n3_; have HL205_0 := n4_; have HO210 := n5_; have HB := n6_; clear n0_ n1_ n2_ n3_ n4_ n5_ n6_; clear hg hw hp_; obtain ⟨Ao55, co55, eo55⟩ := Kd.R_slice HO_6.out; subst eo55))
                   have n0_ := Aside0.mk (Kd.N_drew HO_3.out)
                   have n1_ := Aside0.mk (Kd.R_drew HO_6.out)
                   have n2_ := Aside0.mk (Kd.V_drew HL202_0.out)
                   have n3_ := Aside0.mk (Kd.V_drew HL205_0.out)
                   have n4_ := Aside0.mk (Kd.V_drew HO210.out)
                   have n5_ := Aside0.mk (blk_drew BK204.out)
                   have n6_ := Aside0.mk (below_drew1 HB.out)
                   clear HO_3
                   clear HO_6
                   clear HL202_0
                   clear HL205_0
                   clear HO210
                   clear BK204
                   clear HB
                   have HO_3 := n0_
                   have HO_6 := n1_
                   have HL202_0 := n2_
                   have HL205_0 := n3_
                   have HO210 := n4_
                   have BK204 := n5_
                   have HB := n6_
                   clear n0_ n1_ n2_ n3_ n4_ n5_ n6_
                   have p212 : 0 ≤ ((ji34) : Int) := of_decide_eq_true (by first | (with_reducible assumption) | assumption)
                   have q212 : (ji34) < (x6_2.length : Int) := of_decide_eq_true (by first | (with_reducible assumption) | assumption)
                   obtain ⟨ad212, e212, hx212_0, hx212_1, hx212_2, hx212_3⟩ := at_T31 (Kd.R_reads' HO_6.out).2.2 (ji34) p212 q212
                   cases e212
                   replace p212 := eq_true p212
                   replace q212 := eq_true q212
                   refine start_ (n := 14) (S := fun w' => w'.cell? ⟨gb204, 0, none⟩ = some (.string ((rd_T31 (rd_L5 x3_2 x7_3) 0).f0.f0)) ∧ w'.cell? ⟨gb204, 1, none⟩ = some (.int .i64 ((rd_T31 (rd_L5 x3_2 x7_3) 0).f0.f1)) ∧ w'.cell? ⟨gb204, 2, none⟩ = some (.int .i64 ((rd_T31 (rd_L5 x3_2 x7_3) 0).f0.f2)) ∧ w'.cell? ⟨gb204, 3, none⟩ = some (.string ((rd_T31 (rd_L5 x3_2 x7_3) 0).f1)) ∧ w'.cell? (ad212.add (((ji34)).toNat * 4)) = some (.string ((rd_T31 x6_2 (ji34)).f0.f0)) ∧ w'.cell? ⟨(ad212.add (((ji34)).toNat * 4)).block, (ad212.add (((ji34)).toNat * 4)).off + 1, none⟩ = some (.int .i64 ((rd_T31 x6_2 (ji34)).f0.f1)) ∧ w'.cell? ⟨(ad212.add (((ji34)).toNat * 4)).block, (ad212.add (((ji34)).toNat * 4)).off + 2, none⟩ = some (.int .i64 ((rd_T31 x6_2 (ji34)).f0.f2)) ∧ w'.cell? ⟨(ad212.add (((ji34)).toNat * 4)).block, (ad212.add (((ji34)).toNat * 4)).off + 3, none⟩ = some (.string ((rd_T31 x6_2 (ji34)).f1))) (ds := []) #[false, false, false, false, false, false, false, false, false, false, false, false, false, false] (by kernel_rfl) rfl rfl ⟨(blk_cell BK204.out 0).trans rfl, (blk_cell BK204.out 1).trans rfl, (blk_cell BK204.out 2).trans rfl, (blk_cell BK204.out 3).trans rfl, hx212_0, hx212_1, hx212_2, hx212_3⟩ (fun hHeld => ?_); refine with_tabW merge_Merge.tab20 merge_Merge.bits20 (fun HT_ HW_ => ?_)
                   generalize w54.drew = w56 at HO_3 HO_6 HL202_0 HL205_0 HO210 BK204 HB hx212_0 hx212_1 hx212_2 hx212_3 hHeld ⊢
                   refine pure_ (i := 0) (N := some 73) (v := ?_) (a' := ?_) #[true, false, false, false, false, false, false, false, false, false, false, false, false, false] rfl rfl (any_of HT_.out (by kernel_rfl)) (fun _ _ _ h => h) (Or.inl ⟨by rfl, ?_⟩) ?_ ?_
                   rotate_left
                   ·
                    intro w'
                    go_simp
                    with_reducible rfl
                   rotate_left
                   ·
                    simp only [Act.put, List.setIfInBounds_toArray, List.set_cons_zero, List.set_cons_succ, i64_w, i32_w]
                    rfl
                   refine pure_ (i := 1) (N := some 74) (v := ?_) (a' := ?_) #[true, true, false, false, false, false, false, false, false, false, false, false, false, false] rfl rfl (any_of HT_.out (by kernel_rfl)) (fun _ _ _ h => h) (Or.inl ⟨by rfl, ?_⟩) ?_ ?_
                   rotate_left
                   ·
                    intro w'
                    go_simp
                    with_reducible rfl
                   rotate_left
                   ·
                    simp only [Act.put, List.setIfInBounds_toArray, List.set_cons_zero, List.set_cons_succ, i64_w, i32_w]
                    rfl
                   refine pure_ (i := 2) (N := some 75) (v := ?_) (a' := ?_) #[true, true, true, false, false, false, false, false, false, false, false, false, false, false] rfl rfl (any_of HT_.out (by kernel_rfl)) (fun _ _ _ h => h) (Or.inl ⟨by rfl, ?_⟩) ?_ ?_
                   rotate_left
                   ·
                    intro w'
                    go_simp
                    with_reducible rfl
                   rotate_left
                   ·
                    simp only [Act.put, List.setIfInBounds_toArray, List.set_cons_zero, List.set_cons_succ, i64_w, i32_w]
                    rfl
                   refine pure_ (i := 3) (N := some 76) (v := ?_) (a' := ?_) #[true, true, true, true, false, false, false, false, false, false, false, false, false, false] rfl rfl (any_of HT_.out (by kernel_rfl)) (fun _ _ _ h => h) (Or.inl ⟨by rfl, ?_⟩) ?_ ?_
                   rotate_left
                   ·
                    intro w'
                    go_simp
                    with_reducible rfl
                   rotate_left
                   ·
                    simp only [Act.put, List.setIfInBounds_toArray, List.set_cons_zero, List.set_cons_succ, i64_w, i32_w]
                    rfl
                   refine pure_ (i := 4) (N := some 77) (v := ?_) (a' := ?_) #[true, true, true, true, true, false, false, false, false, false, false, false, false, false] rfl rfl (any_of HT_.out (by kernel_rfl)) (fun _ _ _ h => h) (Or.inl ⟨by rfl, ?_⟩) ?_ ?_
                   rotate_left
                   ·
                    intro w'
                    go_simp
                    with_reducible rfl
                   rotate_left
                   ·
                    simp only [Act.put, List.setIfInBounds_toArray, List.set_cons_zero, List.set_cons_succ, i64_w, i32_w]
                    rfl
                   refine pure_ (i := 5) (N := some 78) (v := ?_) (a' := ?_) #[true, true, true, true, true, true, false, false, false, false, false, false, false, false] rfl rfl (any_of HT_.out (by kernel_rfl)) (fun _ _ _ h => h) (Or.inl ⟨by rfl, ?_⟩) ?_ ?_
                   rotate_left
                   ·
                    intro w'
                    go_simp
                    with_reducible rfl
                   rotate_left
                   ·
                    simp only [Act.put, List.setIfInBounds_toArray, List.set_cons_zero, List.set_cons_succ, i64_w, i32_w]
                    rfl
                   refine pure_ (i := 6) (N := some 79) (v := ?_) (a' := ?_) #[true, true, true, true, true, true, true, false, false, false, false, false, false, false] rfl rfl (any_of HT_.out (by kernel_rfl)) (fun _ _ _ h => h) (Or.inl ⟨by rfl, ?_⟩) ?_ ?_
                   rotate_left
                   ·
                    intro w'
                    go_simp
                    with_reducible rfl
                   rotate_left
                   ·
                    simp only [Act.put, List.setIfInBounds_toArray, List.set_cons_zero, List.set_cons_succ, i64_w, i32_w]
                    rfl
                   refine pure_ (i := 7) (N := some 80) (v := ?_) (a' := ?_) #[true, true, true, true, true, true, true, true, false, false, false, false, false, false] rfl rfl (any_of HT_.out (by kernel_rfl)) (fun _ _ _ h => h) (Or.inl ⟨by rfl, ?_⟩) ?_ ?_
                   rotate_left
                   ·
                    intro w'
                    go_simp
                    with_reducible rfl
                   rotate_left
                   ·
                    simp only [Act.put, List.setIfInBounds_toArray, List.set_cons_zero, List.set_cons_succ, i64_w, i32_w]
                    rfl
                   refine pure_ (i := 9) (N := some 82) (v := ?_) (a' := ?_) #[true, true, true, true, true, true, true, true, false, true, false, false, false, false] rfl rfl (any_of HT_.out (by kernel_rfl)) (fun _ _ _ h => h) (Or.inl ⟨by rfl, ?_⟩) ?_ ?_
                   rotate_left
                   ·
                    intro w'
                    go_simp
                    with_reducible rfl
                   rotate_left
                   ·
                    simp only [Act.put, List.setIfInBounds_toArray, List.set_cons_zero, List.set_cons_succ, i64_w, i32_w]
                    rfl
                   refine take_ (i := 8) (N := some 81) (v := ?_) (a' := ?_) #[true, true, true, true, true, true, true, true, true, true, false, false, false, false] rfl rfl (take_ofW HT_.out HW_.out (by kernel_rfl)) (fun _ _ _ h => h) (Or.inl ⟨by rfl, ?_⟩) hHeld ?_ ?_
                   rotate_left
                   ·
                    rintro w' ⟨s0, s1, s2, s3, s4, s5, s6, s7⟩
                    go_simp
                    with_reducible rfl
                   rotate_left
                   ·
                    simp only [Act.put, List.setIfInBounds_toArray, List.set_cons_zero, List.set_cons_succ, i64_w, i32_w]
                    rfl
                   refine take_ (i := 10) (N := some 83) (v := ?_) (a' := ?_) #[true, true, true, true, true, true, true, true, true, true, true, false, false, false] rfl rfl (take_ofW HT_.out HW_.out (by kernel_rfl)) (fun _ _ _ h => h) (Or.inl ⟨by rfl, ?_⟩) hHeld ?_ ?_
                   rotate_left
                   ·
                    rintro w' ⟨s0, s1, s2, s3, s4, s5, s6, s7⟩
                    go_simp
                    with_reducible rfl
                   rotate_left
                   ·
                    simp only [Act.put, List.setIfInBounds_toArray, List.set_cons_zero, List.set_cons_succ, i64_w, i32_w]
                    rfl
                   refine one_ (i := 11) (N := some 84) #[true, true, true, true, true, true, true, true, true, true, true, true, false, false] rfl rfl (one_of HT_.out (by kernel_rfl)) (by decide) (fun K hK => ?_)
                   refine goes_ Try.func45 (by kernel_rfl) rfl #[.agg #[.string ((rd_T31 x6_2 (ji34)).f0.f0), .int .i64 ((rd_T31 x6_2 (ji34)).f0.f1), .int .i64 ((rd_T31 x6_2 (ji34)).f0.f2)], .agg #[.string ((rd_T31 (rd_L5 x3_2 x7_3) 0).f0.f0), .int .i64 ((rd_T31 (rd_L5 x3_2 x7_3) 0).f0.f1), .int .i64 ((rd_T31 (rd_L5 x3_2 x7_3) 0).f0.f2)]] (by rfl) rfl rfl (by (try simp only [List.map_toArray, List.map_cons, List.map_nil]); first | done | (simp only [hji34]; rfl) | rfl | (simp only [List.length_drop, List.length_take]; rfl)) ?_
                   with_reducible refine (key_Cmp.calls k3 ((rd_T31 x6_2 (ji34)).f0.f0) ((rd_T31 x6_2 (ji34)).f0.f1) ((rd_T31 x6_2 (ji34)).f0.f2) ((rd_T31 (rd_L5 x3_2 x7_3) 0).f0.f0) ((rd_T31 (rd_L5 x3_2 x7_3) 0).f0.f1) ((rd_T31 (rd_L5 x3_2 x7_3) 0).f0.f2) t213 _ A37.out).mono ?_
                   rintro e w57 ⟨rfl, hb⟩
                   have HS4_ := (hb.cell (World.block_lt_of_cell? _ _ (hHeld.2.2.2.2.1))).trans (hHeld.2.2.2.2.1)
                   have HS5_ := (hb.cell (World.block_lt_of_cell? _ _ (hHeld.2.2.2.2.2.1))).trans (hHeld.2.2.2.2.2.1)
                   have HS6_ := (hb.cell (World.block_lt_of_cell? _ _ (hHeld.2.2.2.2.2.2.1))).trans (hHeld.2.2.2.2.2.2.1)
                   have HS7_ := (hb.cell (World.block_lt_of_cell? _ _ (hHeld.2.2.2.2.2.2.2))).trans (hHeld.2.2.2.2.2.2.2)
                   refine ⟨_, rfl, ?_⟩
                   have n0_ := Aside0.mk (Kd.N_below (by (with_reducible repeat (first | apply Kd.N_alloc | apply Kd.N_drewN | apply Kd.N_drew)); exact HO_3.out) hb)
                   have n1_ := Aside0.mk (Kd.R_below (by (with_reducible repeat (first | apply Kd.R_alloc | apply Kd.R_drewN | apply Kd.R_drew)); exact HO_6.out) hb)
                   have n2_ := Aside0.mk (Kd.V_below (by (with_reducible repeat (first | apply Kd.V_alloc | apply Kd.V_drewN | apply Kd.V_drew)); exact HL202_0.out) hb)
                   have n3_ := Aside0.mk (Kd.V_below (by (with_reducible repeat (first | apply Kd.V_alloc | apply Kd.V_drewN | apply Kd.V_drew)); exact HL205_0.out) hb)
                   have n4_ := Aside0.mk (Kd.V_below (by (with_reducible repeat (first | apply Kd.V_alloc | apply Kd.V_drewN | apply Kd.V_drew)); exact HO210.out) hb)
                   have n5_ := Aside0.mk (blk_below (g := gb204) (o := .cells #[.string ((rd_T31 (rd_L5 x3_2 x7_3) 0).f0.f0), .int .i64 ((rd_T31 (rd_L5 x3_2 x7_3) 0).f0.f1), .int .i64 ((rd_T31 (rd_L5 x3_2 x7_3) 0).f0.f2), .string ((rd_T31 (rd_L5 x3_2 x7_3) 0).f1)] 31 (0, 0)) (by (with_reducible repeat (first | refine blk_drewN ?_ _ | refine blk_drew ?_ | refine blk_alloc ?_ _)); exact BK204.out) hb)
                   have n6_ := Aside0.mk (below_step (by repeat (first | (with_reducible first | exact HB.out | apply below_alloc | apply pw_below_drewN | apply below_drew1 | refine below_set ?_ GE204.out) | exact HB.out | exact Below.refl _ _)) hb)
                   clear HO_3
                   clear HO_6
                   clear HL202_0
                   clear HL205_0
                   clear HO210
                   clear BK204
                   clear HB
                   have HO_3 := n0_
                   have HO_6 := n1_
                   have HL202_0 := n2_
                   have HL205_0 := n3_
                   have HO210 := n4_
                   have BK204 := n5_
                   have HB := n6_
                   clear n0_ n1_ n2_ n3_ n4_ n5_ n6_
                   (try clear hb)
                   refine hK.out _ _ ⟨(blk_cell BK204.out 0).trans rfl, (blk_cell BK204.out 1).trans rfl, (blk_cell BK204.out 2).trans rfl, (blk_cell BK204.out 3).trans rfl, HS4_, HS5_, HS6_, HS7_⟩ (fun hHeld => ?_)
                   clear hK K
                   refine norm_ (a' := ?_) ?_ ?_
                   rotate_left
                   ·
                    show Act.put _ (some 84) _ = _
                    simp only [Act.put, List.setIfInBounds_toArray, List.set_cons_zero, List.set_cons_succ, i64_w, i32_w]
                    rfl
                   refine pure_ (i := 12) (N := some 85) (v := ?_) (a' := ?_) #[true, true, true, true, true, true, true, true, true, true, true, true, true, false] rfl rfl (any_of HT_.out (by kernel_rfl)) (fun _ _ _ h => h) (Or.inl ⟨by rfl, ?_⟩) ?_ ?_
                   rotate_left
                   ·
                    intro w'
                    go_simp
                    with_reducible rfl
                   rotate_left
                   ·
                    simp only [Act.put, List.setIfInBounds_toArray, List.set_cons_zero, List.set_cons_succ, i64_w, i32_w]
                    rfl
                   refine pure_ (i := 13) (N := some 86) (v := ?_) (a' := ?_) #[true, true, true, true, true, true, true, true, true, true, true, true, true, true] rfl rfl (any_of HT_.out (by kernel_rfl)) (fun _ _ _ h => h) (Or.inl ⟨by rfl, ?_⟩) ?_ ?_
                   rotate_left
                   ·
                    intro w'
                    go_simp
                    with_reducible rfl
                   rotate_left
                   ·
                    simp only [Act.put, List.setIfInBounds_toArray, List.set_cons_zero, List.set_cons_succ, i64_w, i32_w]
                    rfl
                   refine done_ (done_of HT_.out (by kernel_rfl)) ?_
                   have hcz58_0 : w57.cell? ⟨gb204, 0, none⟩ = some (.string ((rd_T31 (rd_L5 x3_2 x7_3) 0).f0.f0)) := (blk_cell BK204.out 0).trans rfl
                   have hcz58_1 : w57.cell? ⟨gb204, 1, none⟩ = some (.int .i64 ((rd_T31 (rd_L5 x3_2 x7_3) 0).f0.f1)) := (blk_cell BK204.out 1).trans rfl
                   have hcz58_2 : w57.cell? ⟨gb204, 2, none⟩ = some (.int .i64 ((rd_T31 (rd_L5 x3_2 x7_3) 0).f0.f2)) := (blk_cell BK204.out 2).trans rfl
                   have hcz58_3 : w57.cell? ⟨gb204, 3, none⟩ = some (.string ((rd_T31 (rd_L5 x3_2 x7_3) 0).f1)) := (blk_cell BK204.out 3).trans rfl
                   have hfz58_0 := blk_frozen BK204.out 0
                   have hfz58_1 := blk_frozen BK204.out 1
                   have hfz58_2 := blk_frozen BK204.out 2
                   have hfz58_3 := blk_frozen BK204.out 3
                   try go_wp2_with (first | (first | (with_reducible refine wp_label ?_) | (with_reducible refine wp_scope_straight ?_) | (simp only [Exit.noGoto_ret, Exit.noGoto_normal, Exit.noGoto_exit])) | ((with_reducible refine gate_builtin (b := .append) (xs := #[.tmp 87, .tmp 89]) rfl ?_); at_builtin; refine Kd.R_append k31 (w0 := w) w.heap.size rfl (.tmp 87) (.tmp 89) 24 31 (.agg #[(.string ⟨#[]⟩), (.int .i64 0), (.int .i64 0), (.string ⟨#[]⟩)]) 48 rfl Try.underlying24 info31 rfl (by decide) (by omega) (.slice (some ad212) x6_2.length co55) x6_2 (⟨(⟨(rd_T31 (rd_L5 x3_2 x7_3) 0).f0.f0, (rd_T31 (rd_L5 x3_2 x7_3) 0).f0.f1, (rd_T31 (rd_L5 x3_2 x7_3) 0).f0.f2⟩ : S29), (rd_T31 (rd_L5 x3_2 x7_3) 0).f1⟩ : S31) [.string ((rd_T31 (rd_L5 x3_2 x7_3) 0).f0.f0), .int .i64 ((rd_T31 (rd_L5 x3_2 x7_3) 0).f0.f1), .int .i64 ((rd_T31 (rd_L5 x3_2 x7_3) 0).f0.f2), .string ((rd_T31 (rd_L5 x3_2 x7_3) 0).f1)] (fun k_ => k_ ≠ gb204) (fun _ => False) rfl rfl ?aP (fun _ hk => hk.elim) ?aF ?aO ?aB ?aS ?aL ?_; (case aP => exact k31_mkM _ _ _ (⟨(⟨(rd_T31 (rd_L5 x3_2 x7_3) 0).f0.f0, (rd_T31 (rd_L5 x3_2 x7_3) 0).f0.f1, (rd_T31 (rd_L5 x3_2 x7_3) 0).f0.f2⟩ : S29), (rd_T31 (rd_L5 x3_2 x7_3) 0).f1⟩ : S31)); (case aB => exact (by repeat (first | (with_reducible first | exact HB.out | apply below_alloc | apply pw_below_drewN | apply below_drew1 | refine below_set ?_ GE204.out) | exact HB.out | exact Below.refl _ _))); (case aF => exact (fun k_ hk => Kd.freshB (g := gb204) (o := .cells #[.string ((rd_T31 (rd_L5 x3_2 x7_3) 0).f0.f0), .int .i64 ((rd_T31 (rd_L5 x3_2 x7_3) 0).f0.f1), .int .i64 ((rd_T31 (rd_L5 x3_2 x7_3) 0).f0.f2), .string ((rd_T31 (rd_L5 x3_2 x7_3) 0).f1)] 31 (0, 0)) (by (with_reducible repeat (first | refine blk_drewN ?_ _ | refine blk_drew ?_ | refine blk_alloc ?_ _)); exact BK204.out) k_ hk)); (case aO => exact (by (with_reducible repeat (first | apply Kd.R_alloc | apply Kd.R_drewN | apply Kd.R_drew)); exact HO_6.out)); (case aS => exact (below_size (by repeat (first | (with_reducible first | exact HB.out | apply below_alloc | apply pw_below_drewN | apply below_drew1 | refine below_set ?_ GE204.out) | exact HB.out | exact Below.refl _ _)))); (case aL => have := LMc48.out; omega); intro v215 w59 ho hb hg hat; rw [← Ny214.out] at ho; have n0_ := Aside0.mk (Kd.N_afterv (ok := (fun k_ => k_ ≠ gb204)) (by (with_reducible repeat (first | apply Kd.N_alloc | apply Kd.N_drewN | apply Kd.N_drew)); exact Kd.N_mono HO_3.out (fun _ hk => ⟨hk.2, hk.1⟩)) hg hat); have n1_ := Aside0.mk (Kd.V_afterv (ok := (fun k_ => some k_ ≠ (.slice (some ⟨go32, 0, none⟩) x3_2.length co10 : Value).ownBlock ∧ k_ ≠ gb204)) (by (with_reducible repeat (first | apply Kd.V_alloc | apply Kd.V_drewN | apply Kd.V_drew)); exact Kd.V_mono HL202_0.out (fun _ hk => ⟨⟨hk.2, hk.1.2⟩, hk.1.1⟩)) hg hat); have n2_ := Aside0.mk (blk_grown (g := gb204) (o := .cells #[.string ((rd_T31 (rd_L5 x3_2 x7_3) 0).f0.f0), .int .i64 ((rd_T31 (rd_L5 x3_2 x7_3) 0).f0.f1), .int .i64 ((rd_T31 (rd_L5 x3_2 x7_3) 0).f0.f2), .string ((rd_T31 (rd_L5 x3_2 x7_3) 0).f1)] 31 (0, 0)) (by (with_reducible repeat (first | refine blk_drewN ?_ _ | refine blk_drew ?_ | refine blk_alloc ?_ _)); exact BK204.out) hg (Kd.R_away HO_6.out (fun _ hk => hk))); have n3_ := Aside0.mk (Kd.V_afterv (ok := (fun k_ => some k_ ≠ (.slice (some ⟨go32, 0, none⟩) x3_2.length co10 : Value).ownBlock ∧ k_ ≠ gb204)) (by (with_reducible repeat (first | apply Kd.V_alloc | apply Kd.V_drewN | apply Kd.V_drew)); exact Kd.V_mono HL205_0.out (fun _ hk => ⟨⟨hk.2, hk.1.2⟩, hk.1.1⟩)) hg hat); have n4_ := Aside0.mk (Kd.V_afterv (ok := (fun k_ => some k_ ≠ (.slice (some ⟨go32, 0, none⟩) x3_2.length co10 : Value).ownBlock ∧ k_ ≠ gb204)) (by (with_reducible repeat (first | apply Kd.V_alloc | apply Kd.V_drewN | apply Kd.V_drew)); exact Kd.V_mono HO210.out (fun _ hk => ⟨⟨hk.2, hk.1.2⟩, hk.1.1⟩)) hg hat); have n5_ := Aside0.mk (hb); have n6_ := Aside0.mk (ho); clear HO_3; clear HL202_0; clear BK204; clear HL205_0; clear HO210; clear HB; clear HO_6; have HO_3 := n0_; have HL202_0 := n1_; have BK204 := n2_; have HL205_0 := n3_; have HO210 := n4_; have HB := n5_; have HO216 := n6_; clear n0_ n1_ n2_ n3_ n4_ n5_ n6_; clear ho hb hg hat))
                   go_roundg k3
                   case measure => have := HK1.out; have := HK2.out; have := HK3.out; omega
                   case rel => exact ⟨(y211), (y214), (by first | exact H' | (simp only [hji34]; exact H')), ⟨by have := HK1.out; have := HK2.out; have := HK3.out; omega⟩, ⟨by (with_reducible repeat (first | apply Kd.N_alloc | apply Kd.N_drewN | apply Kd.N_drew)); exact Kd.N_mono HO_3.out (fun _ hk => hk.2)⟩, ⟨by (with_reducible repeat (first | apply Kd.R_alloc | apply Kd.R_drewN | apply Kd.R_drew)); exact Kd.R_mono HO216.out (fun _ hk => trivial)⟩, ⟨by repeat (first | (with_reducible first | exact HB.out | apply below_alloc | apply pw_below_drewN | apply below_drew1 | refine below_set ?_ GE204.out) | exact HB.out | exact Below.refl _ _)⟩⟩
                  ·
                   rw [if_neg c48] at H
                   exact absurd H (by simp)
                ·
                 rw [if_neg c36] at H
                 exact absurd H (by simp)
               ·
                rw [if_neg c35] at H
                exact absurd H (by simp)
              ·
               rw [if_neg c33] at H
               have c33b0 : decide (0 < (x6_2.length : Int)) = false := decide_eq_false c33
               have c33b1 : decide (0 < x6_2.length) = false := decide_eq_false (by omega)
               clear c33
               by_cases c60 : x6_2.length < 2932031007402
               ·
                rw [if_pos c60] at H
                have LMc60 := Aside0.mk c60
                clear c60
                obtain ⟨y217, hy217⟩ : ∃ y_ : List (S31), y_ = (x6_2 ++ [(⟨(⟨(rd_T31 (rd_L5 x3_2 x7_3) 0).f0.f0, (rd_T31 (rd_L5 x3_2 x7_3) 0).f0.f1, (rd_T31 (rd_L5 x3_2 x7_3) 0).f0.f2⟩ : S29), (rd_T31 (rd_L5 x3_2 x7_3) 0).f1⟩ : S31)]) := ⟨_, rfl⟩
                replace H : (merge_Merge.l1 k3 y211 y217) = some r := by first | (rw [hy217]; with_reducible exact H) | (have H2_ := (Option.bind_some _ _).symm.trans H; rw [hy217]; with_reducible exact H2_) | (have H2_ := (Option.bind_some _ _).symm.trans H; with_reducible exact H2_) | with_reducible exact H | (rw [hy217]; exact H) | exact H
                have Ny217 := Aside0.mk hy217
                clear hy217
                have H' := Aside0.mk H
                clear H
                have p202 : 0 ≤ (x7_3 : Int) := of_decide_eq_true (by first | (with_reducible assumption) | assumption)
                have q202 : x7_3 < (x3_2.length : Int) := of_decide_eq_true (by first | (with_reducible assumption) | assumption)
                obtain ⟨ad202, A202_0, c202_0, e202, hx202_0, hl202_0, hi202_0⟩ := at_L5 (Kd.N_reads' HO_3.out).2.2 x7_3 p202 q202
                cases e202
                obtain ⟨ce202, hce202, hMe202, hcc202⟩ := Kd.N_get HO_3.out [] x7_3 p202 (by first | exact q202 | exact of_decide_eq_true (by first | (with_reducible assumption) | assumption) | (have e_ := (Kd.N_reads' HO_3.out).1; omega))
                obtain ⟨ua202_0, uc202_0, rfl, ul202_0, ge202_0⟩ := Kd.FK_slice_open hMe202
                have hv202_0 := hcc202 0 _ rfl
                rw [Nat.add_zero, show ((Kd.slice 31 k31)).sz = 1 from rfl, Nat.mul_one] at hv202_0
                replace hv202_0 := Option.some.inj (hv202_0.symm.trans hx202_0)
                injection hv202_0 with hva_ hvn_ hvc_
                rw [hva_] at ge202_0
                rw [hvc_] at ul202_0
                have HL202_0 := Aside0.mk (show Kd.V k31 31 _ w.heap.size _ _ (rd_L5 x3_2 x7_3) from Kd.V_mk ul202_0 ge202_0)
                clear hva_ hvn_ hvc_ ge202_0 ul202_0
                clear hcc202 hce202
                have HR202_0 := Aside0.mk hi202_0
                have HC202_0 := Aside0.mk hl202_0
                clear hi202_0 hl202_0
                replace p202 := eq_true p202
                replace q202 := eq_true q202
                have p203 : 0 ≤ (0 : Int) := (by omega)
                have q203 : 0 < ((rd_L5 x3_2 x7_3).length : Int) := of_decide_eq_true (by first | (with_reducible assumption) | assumption)
                obtain ⟨ad203, e203, hx203_0, hx203_1, hx203_2, hx203_3⟩ := at_T31 (by repeat (first | (with_reducible exact HR202_0.out) | (with_reducible refine Kd.C_alloc ?_ _) | (with_reducible refine Kd.C_drewN ?_ _) | (with_reducible refine Kd.C_drew ?_) | exact HR202_0.out)) 0 p203 q203
                cases e203
                have qi203 : (0 < (rd_L5 x3_2 x7_3).length) = True := eq_true (by omega)
                (try rw [show ((0 : Int)).toNat = 0 from rfl] at hx203_0)
                (try rw [show 0 * 4 = 0 from rfl] at hx203_0)
                (try rw [Addr.add_zero'] at hx203_0)
                (try rw [show ((0 : Int)).toNat = 0 from rfl] at hx203_1)
                (try rw [show 0 * 4 = 0 from rfl] at hx203_1)
                (try rw [Addr.add_zero'] at hx203_1)
                (try rw [show ((0 : Int)).toNat = 0 from rfl] at hx203_2)
                (try rw [show 0 * 4 = 0 from rfl] at hx203_2)
                (try rw [Addr.add_zero'] at hx203_2)
                (try rw [show ((0 : Int)).toNat = 0 from rfl] at hx203_3)
                (try rw [show 0 * 4 = 0 from rfl] at hx203_3)
                (try rw [Addr.add_zero'] at hx203_3)
                replace p203 := eq_true p203
                replace q203 := eq_true q203
                try go_wp2_with (first | (first | (with_reducible refine wp_label ?_) | (with_reducible refine wp_scope_straight ?_) | (simp only [Exit.noGoto_ret, Exit.noGoto_normal, Exit.noGoto_exit])) | ((with_reducible refine gate_dst (N := 10) rfl ?_); refine box_event ?hg (N := 10) ?hd (cs := #[.string (⟨#[]⟩ : ByteArray), .int .i64 0, .int .i64 0, .string (⟨#[]⟩ : ByteArray)]) (t := 31) ?hr ?_; (case hd => rfl); (case hg => rfl); (case hr => first | (go_simp; done) | (go_simp; rfl)); intro gb204 hg w61 hbox hb; have n0_ := Aside0.mk (Kd.N_below (Kd.N_elderB (by (with_reducible repeat (first | apply Kd.N_alloc | apply Kd.N_drewN | apply Kd.N_drew)); exact HO_3.out) gb204 (Nat.le_of_eq hg.symm)) hb); have n1_ := Aside0.mk (Kd.R_below (Kd.R_elderB (by (with_reducible repeat (first | apply Kd.R_alloc | apply Kd.R_drewN | apply Kd.R_drew)); exact HO_6.out) gb204 (Nat.le_of_eq hg.symm)) hb); have n2_ := Aside0.mk (Kd.N_below (Kd.N_elderB (by (with_reducible repeat (first | apply Kd.N_alloc | apply Kd.N_drewN | apply Kd.N_drew)); exact HO_24.out) gb204 (Nat.le_of_eq hg.symm)) hb); have n3_ := Aside0.mk (Kd.V_below (Kd.V_elderB (by (with_reducible repeat (first | apply Kd.V_alloc | apply Kd.V_drewN | apply Kd.V_drew)); exact HL202_0.out) gb204 (Nat.le_of_eq hg.symm)) hb); have n4_ := Aside0.mk (Kd.C_below (by repeat (first | (with_reducible exact HR202_0.out) | (with_reducible refine Kd.C_alloc ?_ _) | (with_reducible refine Kd.C_drewN ?_ _) | (with_reducible refine Kd.C_drew ?_) | exact HR202_0.out)) hb); have n5_ := Aside0.mk (below_step (by repeat (first | (with_reducible first | exact HB.out | apply below_alloc | apply pw_below_drewN | apply below_drew1) | exact HB.out | exact Below.refl _ _)) hb); have n6_ := Aside0.mk (hbox); have n7_ := Aside0.mk ((by rw [hg]; exact (below_size (by repeat (first | (with_reducible first | exact HB.out | apply below_alloc | apply pw_below_drewN | apply below_drew1) | exact HB.out | exact Below.refl _ _))) : w.heap.size ≤ gb204)); have n8_ := Aside0.mk ((by rw [hg]; exact (below_size (by repeat (first | (with_reducible first | exact HB.out | apply below_alloc | apply pw_below_drewN | apply below_drew1) | exact HB.out | exact Below.refl _ _))) : w.heap.size ≤ gb204)); clear HO_3; clear HO_6; clear HO_24; clear HL202_0; clear HR202_0; clear HB; have HO_3 := n0_; have HO_6 := n1_; have HO_24 := n2_; have HL202_0 := n3_; have HR202_0 := n4_; have HB := n5_; have BK204 := n6_; have GW204 := n7_; have GE204 := n8_; clear n0_ n1_ n2_ n3_ n4_ n5_ n6_ n7_ n8_; clear hb hbox hg; have hcz62_0 : w61.cell? ⟨gb204, 0, none⟩ = some (.string (⟨#[]⟩ : ByteArray)) := (blk_cell BK204.out 0).trans rfl; have hcz62_1 : w61.cell? ⟨gb204, 1, none⟩ = some (.int .i64 0) := (blk_cell BK204.out 1).trans rfl; have hcz62_2 : w61.cell? ⟨gb204, 2, none⟩ = some (.int .i64 0) := (blk_cell BK204.out 2).trans rfl; have hcz62_3 : w61.cell? ⟨gb204, 3, none⟩ = some (.string (⟨#[]⟩ : ByteArray)) := (blk_cell BK204.out 3).trans rfl; have hfz62_0 := blk_frozen BK204.out 0; have hfz62_1 := blk_frozen BK204.out 1; have hfz62_2 := blk_frozen BK204.out 2; have hfz62_3 := blk_frozen BK204.out 3) | ((with_reducible refine gate_store (t := 31) (p := 10) rfl ?_); refine store_event (t := 31) (p := 10) (v := ?vo_w63) (w1 := ((((w61.setCell ⟨gb204, 0, none⟩ (.string ((rd_T31 (rd_L5 x3_2 x7_3) 0).f0.f0))).setCell ⟨gb204, 1, none⟩ (.int .i64 ((rd_T31 (rd_L5 x3_2 x7_3) 0).f0.f1))).setCell ⟨gb204, 2, none⟩ (.int .i64 ((rd_T31 (rd_L5 x3_2 x7_3) 0).f0.f2))).setCell ⟨gb204, 3, none⟩ (.string ((rd_T31 (rd_L5 x3_2 x7_3) 0).f1)))) ?hg ?ho ?hn ?hr ?_; (case ho => rfl); (case hg => rfl); (case hn => rfl); (case hr => first | (go_simp; done) | (go_simp; rfl)); intro w63 hw; have n0_ : Aside0 (Kd.N (Kd.slice 31 k31) 24 w63 w.heap.size (fun k_ => some k_ ≠ (u6 : Value).ownBlock ∧ k_ ≠ gb204) (.slice (some ad202) x3_2.length co10) x3_2) := ⟨(by rw [hw]; exact (by (with_reducible repeat (first | apply Kd.N_alloc | apply Kd.N_drewN | apply Kd.N_drew)); exact Kd.N_mono (Kd.N_far (p := ⟨gb204, 3, none⟩) (Kd.N_far (p := ⟨gb204, 2, none⟩) (Kd.N_far (p := ⟨gb204, 1, none⟩) (Kd.N_far (p := ⟨gb204, 0, none⟩) (Kd.N_mono HO_3.out (fun k_ hk => (⟨hk, hk.2⟩ : _ ∧ k_ ≠ gb204))) (fun _ hk => hk.2) (.string ((rd_T31 (rd_L5 x3_2 x7_3) 0).f0.f0))) (fun _ hk => hk.2) (.int .i64 ((rd_T31 (rd_L5 x3_2 x7_3) 0).f0.f1))) (fun _ hk => hk.2) (.int .i64 ((rd_T31 (rd_L5 x3_2 x7_3) 0).f0.f2))) (fun _ hk => hk.2) (.string ((rd_T31 (rd_L5 x3_2 x7_3) 0).f1))) (fun _ hk => ⟨hk.1.1, hk.1.2⟩)))⟩; have n1_ : Aside0 (Kd.R k31 31 w63 w.heap.size (fun k_ => k_ ≠ gb204) u6 x6_2) := ⟨(by rw [hw]; exact (by (with_reducible repeat (first | apply Kd.R_alloc | apply Kd.R_drewN | apply Kd.R_drew)); exact Kd.R_mono (Kd.R_far (p := ⟨gb204, 3, none⟩) (Kd.R_far (p := ⟨gb204, 2, none⟩) (Kd.R_far (p := ⟨gb204, 1, none⟩) (Kd.R_far (p := ⟨gb204, 0, none⟩) (Kd.R_mono HO_6.out (fun k_ hk => (⟨hk, hk.2⟩ : _ ∧ k_ ≠ gb204))) (fun _ hk => hk.2) (.string ((rd_T31 (rd_L5 x3_2 x7_3) 0).f0.f0))) (fun _ hk => hk.2) (.int .i64 ((rd_T31 (rd_L5 x3_2 x7_3) 0).f0.f1))) (fun _ hk => hk.2) (.int .i64 ((rd_T31 (rd_L5 x3_2 x7_3) 0).f0.f2))) (fun _ hk => hk.2) (.string ((rd_T31 (rd_L5 x3_2 x7_3) 0).f1))) (fun _ hk => hk.1.2)))⟩; have n2_ : Aside0 (Kd.N (Kd.slice 31 k31) 24 w63 w.heap.size (fun k_ => some k_ ≠ (u6 : Value).ownBlock ∧ k_ ≠ gb204) (.slice (some ad202) x3_2.length co10) x3_2) := ⟨(by rw [hw]; exact (by (with_reducible repeat (first | apply Kd.N_alloc | apply Kd.N_drewN | apply Kd.N_drew)); exact Kd.N_mono (Kd.N_far (p := ⟨gb204, 3, none⟩) (Kd.N_far (p := ⟨gb204, 2, none⟩) (Kd.N_far (p := ⟨gb204, 1, none⟩) (Kd.N_far (p := ⟨gb204, 0, none⟩) (Kd.N_mono HO_24.out (fun k_ hk => (⟨hk, hk.2⟩ : _ ∧ k_ ≠ gb204))) (fun _ hk => hk.2) (.string ((rd_T31 (rd_L5 x3_2 x7_3) 0).f0.f0))) (fun _ hk => hk.2) (.int .i64 ((rd_T31 (rd_L5 x3_2 x7_3) 0).f0.f1))) (fun _ hk => hk.2) (.int .i64 ((rd_T31 (rd_L5 x3_2 x7_3) 0).f0.f2))) (fun _ hk => hk.2) (.string ((rd_T31 (rd_L5 x3_2 x7_3) 0).f1))) (fun _ hk => ⟨hk.1.1, hk.1.2⟩)))⟩; have n3_ : Aside0 (Kd.V k31 31 w63 w.heap.size (fun k_ => some k_ ≠ (.slice (some ad202) x3_2.length co10 : Value).ownBlock ∧ some k_ ≠ (u6 : Value).ownBlock ∧ k_ ≠ gb204) (.slice (some ad203) (rd_L5 x3_2 x7_3).length c202_0) (rd_L5 x3_2 x7_3)) := ⟨(by rw [hw]; exact (by (with_reducible repeat (first | apply Kd.V_alloc | apply Kd.V_drewN | apply Kd.V_drew)); exact Kd.V_mono (Kd.V_far (p := ⟨gb204, 3, none⟩) (Kd.V_far (p := ⟨gb204, 2, none⟩) (Kd.V_far (p := ⟨gb204, 1, none⟩) (Kd.V_far (p := ⟨gb204, 0, none⟩) (Kd.V_mono HL202_0.out (fun k_ hk => (⟨hk, hk.2⟩ : _ ∧ k_ ≠ gb204))) (fun _ hk => hk.2) (.string ((rd_T31 (rd_L5 x3_2 x7_3) 0).f0.f0))) (fun _ hk => hk.2) (.int .i64 ((rd_T31 (rd_L5 x3_2 x7_3) 0).f0.f1))) (fun _ hk => hk.2) (.int .i64 ((rd_T31 (rd_L5 x3_2 x7_3) 0).f0.f2))) (fun _ hk => hk.2) (.string ((rd_T31 (rd_L5 x3_2 x7_3) 0).f1))) (fun _ hk => ⟨hk.1.1.2, ⟨hk.1.1.1, hk.1.2⟩⟩)))⟩; have n4_ : Aside0 (w63.heap[gb204]? = some (.cells #[.string ((rd_T31 (rd_L5 x3_2 x7_3) 0).f0.f0), .int .i64 ((rd_T31 (rd_L5 x3_2 x7_3) 0).f0.f1), .int .i64 ((rd_T31 (rd_L5 x3_2 x7_3) 0).f0.f2), .string ((rd_T31 (rd_L5 x3_2 x7_3) 0).f1)] 31 (0, 0))) := ⟨(by rw [hw]; exact (by (with_reducible repeat (first | refine blk_drewN ?_ _ | refine blk_drew ?_ | refine blk_alloc ?_ _)); refine blk_put (cs := #[.string ((rd_T31 (rd_L5 x3_2 x7_3) 0).f0.f0), .int .i64 ((rd_T31 (rd_L5 x3_2 x7_3) 0).f0.f1), .int .i64 ((rd_T31 (rd_L5 x3_2 x7_3) 0).f0.f2), .string (⟨#[]⟩ : ByteArray)]) ?_ 3 _ rfl; (with_reducible repeat (first | refine blk_drewN ?_ _ | refine blk_drew ?_ | refine blk_alloc ?_ _)); refine blk_put (cs := #[.string ((rd_T31 (rd_L5 x3_2 x7_3) 0).f0.f0), .int .i64 ((rd_T31 (rd_L5 x3_2 x7_3) 0).f0.f1), .int .i64 0, .string (⟨#[]⟩ : ByteArray)]) ?_ 2 _ rfl; (with_reducible repeat (first | refine blk_drewN ?_ _ | refine blk_drew ?_ | refine blk_alloc ?_ _)); refine blk_put (cs := #[.string ((rd_T31 (rd_L5 x3_2 x7_3) 0).f0.f0), .int .i64 0, .int .i64 0, .string (⟨#[]⟩ : ByteArray)]) ?_ 1 _ rfl; (with_reducible repeat (first | refine blk_drewN ?_ _ | refine blk_drew ?_ | refine blk_alloc ?_ _)); refine blk_put (cs := #[.string (⟨#[]⟩ : ByteArray), .int .i64 0, .int .i64 0, .string (⟨#[]⟩ : ByteArray)]) ?_ 0 _ rfl; (with_reducible repeat (first | refine blk_drewN ?_ _ | refine blk_drew ?_ | refine blk_alloc ?_ _)); exact BK204.out))⟩; have n5_ : Aside0 (Below w.heap.size w w63) := ⟨(by rw [hw]; exact (by repeat (first | (with_reducible first | exact HB.out | apply below_alloc | apply pw_below_drewN | apply below_drew1 | refine below_set ?_ GE204.out) | exact HB.out | exact Below.refl _ _)))⟩; clear hw; clear HO_3; clear HO_6; clear HO_24; clear HL202_0; clear BK204; clear HB; have HO_3 := n0_; have HO_6 := n1_; have HO_24 := n2_; have HL202_0 := n3_; have BK204 := n4_; have HB := n5_; clear n0_ n1_ n2_ n3_ n4_ n5_; have p205 : 0 ≤ (x7_3 : Int) := of_decide_eq_true (by first | (with_reducible assumption) | assumption); have q205 : x7_3 < (x3_2.length : Int) := of_decide_eq_true (by first | (with_reducible assumption) | assumption); obtain ⟨ad205, A205_0, c205_0, e205, hx205_0, hl205_0, hi205_0⟩ := at_L5 (Kd.N_reads' HO_3.out).2.2 x7_3 p205 q205; obtain rfl : ad202 = ad205 := (by injection e205); obtain ⟨ce205, hce205, hMe205, hcc205⟩ := Kd.N_get HO_3.out [] x7_3 p205 (by first | exact q205 | exact of_decide_eq_true (by first | (with_reducible assumption) | assumption) | (have e_ := (Kd.N_reads' HO_3.out).1; omega)); obtain ⟨ua205_0, uc205_0, rfl, ul205_0, ge205_0⟩ := Kd.FK_slice_open hMe205; have hv205_0 := hcc205 0 _ rfl; rw [Nat.add_zero, show ((Kd.slice 31 k31)).sz = 1 from rfl, Nat.mul_one] at hv205_0; replace hv205_0 := Option.some.inj (hv205_0.symm.trans hx205_0); injection hv205_0 with hva_ hvn_ hvc_; rw [hva_] at ge205_0; rw [hvc_] at ul205_0; have HL205_0 := Aside0.mk (show Kd.V k31 31 _ w.heap.size _ _ (rd_L5 x3_2 x7_3) from Kd.V_mk ul205_0 ge205_0); clear hva_ hvn_ hvc_ ge205_0 ul205_0; clear hcc205 hce205; have HR205_0 := Aside0.mk hi205_0; have HC205_0 := Aside0.mk hl205_0; clear hi205_0 hl205_0; replace p205 := eq_true p205; replace q205 := eq_true q205; have q64 : (1 : Int) ≤ (((rd_L5 x3_2 x7_3).length : Int) : Int) := of_decide_eq_true (by first | (with_reducible assumption) | assumption); obtain ⟨i064, hi064, _, hsz64, _⟩ := info_parts info31; have hroom64 : (rd_L5 x3_2 x7_3).length ≤ c205_0 := HC205_0.out; have hC64 : Kd.F k31 _ _ A205_0 (rd_L5 x3_2 x7_3).length (rd_L5 x3_2 x7_3) := (Kd.V_at (base := w.heap.size) HL205_0.out).2.2; have hcut64 := cut_from (P := Try.prog) 24 31 .i64 Try.underlying24 hi064 4 hsz64 A205_0 (rd_L5 x3_2 x7_3).length c205_0 1 (by omega) q64; have hr64 := Kd.F_cut (m := (1 : Int).toNat) (c := c205_0) hC64 (by omega) hroom64; obtain ⟨A64, hA64⟩ : ∃ A1, A1 = (if c205_0 = (1 : Int).toNat then A205_0 else (A205_0 : Option Addr).map (·.add ((1 : Int).toNat * 4))) := ⟨_, rfl⟩; obtain ⟨c64, hc64⟩ : ∃ c1, c1 = c205_0 - (1 : Int).toNat := ⟨_, rfl⟩; have hy64 : y206.length = (rd_L5 x3_2 x7_3).length - (1 : Int).toNat := (by rw [Ny206.out, List.length_drop] <;> omega); rw [show (rd_L5 x3_2 x7_3).drop (1 : Int).toNat = y206 from Ny206.out.symm] at hr64; replace hr64 : Kd.F k31 _ _ A64 y206.length y206 := (by rw [hA64]; exact hr64); rw [← hy64, ← hA64, ← hc64] at hcut64; have HO210 := Aside0.mk (show Kd.V k31 31 _ w.heap.size _ (.slice A64 y206.length c64) y206 from Kd.V_mk (by rw [hy64, hc64]; exact Nat.sub_le_sub_right hroom64 _) hr64); have HC210 := Aside0.mk (show y206.length ≤ c64 from by rw [hy64, hc64]; exact Nat.sub_le_sub_right hroom64 _); clear hr64 hC64 hroom64 hi064 hsz64 hc64; have KY64 := Aside0.mk hy64; have KA64 := Aside0.mk hA64; clear hy64 hA64; replace q64 := eq_true q64; have p32 : 0 ≤ (x7_3 : Int) := of_decide_eq_true (by first | (with_reducible assumption) | assumption); have q32 : (x7_3 : Int) < ((x3_2.length : Int) : Int) := of_decide_eq_true (by first | (with_reducible assumption) | assumption); obtain ⟨go32, co32, eo32, gb32, gl32, cl32, HG32⟩ := Kd.N_form HO_3.out (by omega); (first | cases eo32 | (injection eo32 with ea_ en_ ec_; (first | subst ea_ | (injection ea_ with ea_; subst ea_)); subst ec_; clear en_)); have GB32 := Aside0.mk gb32; have GG32 := Aside0.mk HG32; clear gb32 gl32 HG32; (first | simp only [add_plain] at hx202_0 | skip); (first | simp only [add_plain] at hx205_0 | skip); obtain ⟨ce32, hcl32, hM32, hcc32, hfr32⟩ := Kd.N_elem HO_3.out [] (x7_3 : Int) p32 q32; obtain ⟨ua32_0, uc32_0, rfl, ul32_0, ge32_0⟩ := Kd.FK_slice_open hM32; have hx32_0 := hcc32 0 _ rfl; have hf32_0 := hfr32 0; (try simp only [show ((Kd.slice 31 k31)).sz = 1 from rfl, Nat.mul_one, Nat.add_zero] at hx32_0); (try simp only [show ((Kd.slice 31 k31)).sz = 1 from rfl, Nat.mul_one, Nat.add_zero] at hf32_0); clear hcl32 hcc32 hfr32 hM32; replace p32 := eq_true p32; replace q32 := eq_true q32; have HX65 := Aside0.mk (show Kd.N (Kd.slice 31 k31) 24 w63 w.heap.size (fun k_ => some k_ ≠ (u6 : Value).ownBlock ∧ k_ ≠ gb204) (.slice (some ⟨go32, 0, none⟩) x3_2.length co10) x3_2 from (by (with_reducible repeat (first | apply Kd.N_alloc | apply Kd.N_drewN | apply Kd.N_drew)); exact HO_3.out)); obtain ⟨ce65, hcl65, hM65, hcc65, hfr65⟩ := Kd.N_elem HX65.out [] (x7_3 : Int) (of_decide_eq_true (by first | (with_reducible assumption) | assumption)) (by have h_ : (x7_3 : Int) < ((x3_2.length : Int) : Int) := of_decide_eq_true (by first | (with_reducible assumption) | assumption); first | exact h_ | (have e_ := (Kd.N_reads' HO_3.out).1; omega) | simpa using h_); obtain ⟨ua65_0, uc65_0, rfl, ul65_0, ge65_0⟩ := Kd.FK_slice_open hM65; have HP65 := Kd.N_seg HX65.out (x7_3 : Int) (of_decide_eq_true (by first | (with_reducible assumption) | assumption)) (by have h_ : (x7_3 : Int) < ((x3_2.length : Int) : Int) := of_decide_eq_true (by first | (with_reducible assumption) | assumption); first | exact h_ | (have e_ := (Kd.N_reads' HO_3.out).1; omega) | simpa using h_) (seg := [.slice A64 y206.length c64]) (j := 0) hcl65 hcc65 (show 1 ≤ 1 from by decide) (x' := y206) (Kd.FK_slice_mk (Kd.V_reads' (Kd.V_mono (ok' := (fun k_ => ((fun k_ => some k_ ≠ (u6 : Value).ownBlock ∧ k_ ≠ gb204)) k_ ∧ k_ ≠ go32)) (HO210.out) (fun k_ hk => ⟨⟨hk.1.1, hk.1.2⟩, fun e_ => (hk.2) (by rw [e_]; rfl)⟩))).2.1 (Kd.V_F (Kd.V_mono (ok' := (fun k_ => ((fun k_ => some k_ ≠ (u6 : Value).ownBlock ∧ k_ ≠ gb204)) k_ ∧ k_ ≠ go32)) (HO210.out) (fun k_ hk => ⟨⟨hk.1.1, hk.1.2⟩, fun e_ => (hk.2) (by rw [e_]; rfl)⟩)))) (fun _ hk => hk); have hx65_0 := hcc65 0 _ rfl; (try simp only [show ((Kd.slice 31 k31)).sz = 1 from rfl, Nat.mul_one, Nat.add_zero] at hx65_0); have hf65_0 := hfr65 0; (try simp only [show ((Kd.slice 31 k31)).sz = 1 from rfl, Nat.mul_one, Nat.add_zero] at hf65_0); clear hcl65 hcc65 hfr65 hM65; (try simp only [show ((Kd.slice 31 k31)).sz = 1 from rfl, Nat.mul_one, Nat.add_zero] at HP65); (try simp only [show ((Kd.slice 31 k31)).sz = 1 from rfl, Nat.mul_one, Nat.add_zero] at HP65)) | ((with_reducible refine gate_store (t := 24) (p := 70) rfl ?_); refine store_event (t := 24) (p := 70) (v := ?vo_w66) (w1 := (w63.setCell ⟨go32, (x7_3 : Int).toNat, none⟩ (.slice A64 y206.length c64))) ?hg ?ho ?hn ?hr ?_; (case ho => rfl); (case hg => rfl); (case hn => rfl); (case hr => first | (go_simp; done) | (go_simp; rfl)); intro w66 hw; have hg : w63.grownBy w66 (some go32) := (by rw [hw]; exact HP65.2); have hp_ : Kd.N (Kd.slice 31 k31) 24 w66 w.heap.size (fun k_ => some k_ ≠ (u6 : Value).ownBlock ∧ k_ ≠ gb204) (.slice (some ⟨go32, 0, none⟩) x3_2.length co10) y211 := (by rw [hw, Ny211.out]; exact HP65.1); clear HP65; have n0_ := Aside0.mk (hp_); have n1_ := Aside0.mk (Kd.R_over' (v := (.slice (some ⟨go32, 0, none⟩) x3_2.length co10)) (by (with_reducible repeat (first | apply Kd.R_alloc | apply Kd.R_drewN | apply Kd.R_drew)); exact HO_6.out) (Kd.N_typed HO_3.out) (by decide) hg); have n2_ := Aside0.mk (Kd.V_afterv (v := (.slice (some ⟨go32, 0, none⟩) x3_2.length co10)) (v1 := (.slice (some ⟨go32, 0, none⟩) x3_2.length co10)) (ok := (fun k_ => some k_ ≠ (u6 : Value).ownBlock ∧ k_ ≠ gb204)) (by (with_reducible repeat (first | apply Kd.V_alloc | apply Kd.V_drewN | apply Kd.V_drew)); exact Kd.V_mono HL202_0.out (fun _ hk => ⟨⟨hk.2.1, hk.2.2⟩, hk.1⟩)) hg (.inl rfl)); have n3_ := Aside0.mk (blk_grown (g := gb204) (o := .cells #[.string ((rd_T31 (rd_L5 x3_2 x7_3) 0).f0.f0), .int .i64 ((rd_T31 (rd_L5 x3_2 x7_3) 0).f0.f1), .int .i64 ((rd_T31 (rd_L5 x3_2 x7_3) 0).f0.f2), .string ((rd_T31 (rd_L5 x3_2 x7_3) 0).f1)] 31 (0, 0)) (by (with_reducible repeat (first | refine blk_drewN ?_ _ | refine blk_drew ?_ | refine blk_alloc ?_ _)); exact BK204.out) hg (Kd.N_ne HO_3.out BK204.out (by decide))); have n4_ := Aside0.mk (Kd.V_afterv (v := (.slice (some ⟨go32, 0, none⟩) x3_2.length co10)) (v1 := (.slice (some ⟨go32, 0, none⟩) x3_2.length co10)) (ok := (fun k_ => some k_ ≠ (u6 : Value).ownBlock ∧ k_ ≠ gb204)) (by (with_reducible repeat (first | apply Kd.V_alloc | apply Kd.V_drewN | apply Kd.V_drew)); exact HL205_0.out) hg (.inl rfl)); have n5_ := Aside0.mk (Kd.V_afterv (v := (.slice (some ⟨go32, 0, none⟩) x3_2.length co10)) (v1 := (.slice (some ⟨go32, 0, none⟩) x3_2.length co10)) (ok := (fun k_ => some k_ ≠ (u6 : Value).ownBlock ∧ k_ ≠ gb204)) (by (with_reducible repeat (first | apply Kd.V_alloc | apply Kd.V_drewN | apply Kd.V_drew)); exact HO210.out) hg (.inl rfl)); have n6_ := Aside0.mk ((by rw [hw]; exact below_set (HB.out) GB32.out : Below w.heap.size w w66)); clear HO_3; clear HO_6; clear HL202_0; clear BK204; clear HL205_0; clear HO210; clear HB; have HO_3 := n0_; have HO_6 := n1_; have HL202_0 := n2_; have BK204 := n3_; have HL205_0 := n4_; have HO210 := n5_; have HB := n6_; clear n0_ n1_ n2_ n3_ n4_ n5_ n6_; clear hg hw hp_; obtain ⟨Ao67, co67, eo67⟩ := Kd.R_slice HO_6.out; subst eo67))
                have n0_ := Aside0.mk (Kd.N_drew HO_3.out)
                have n1_ := Aside0.mk (Kd.R_drew HO_6.out)
                have n2_ := Aside0.mk (Kd.V_drew HL202_0.out)
                have n3_ := Aside0.mk (Kd.V_drew HL205_0.out)
                have n4_ := Aside0.mk (Kd.V_drew HO210.out)
                have n5_ := Aside0.mk (blk_drew BK204.out)
                have n6_ := Aside0.mk (below_drew1 HB.out)
                clear HO_3
                clear HO_6
                clear HL202_0
                clear HL205_0
                clear HO210
                clear BK204
                clear HB
                have HO_3 := n0_
                have HO_6 := n1_
                have HL202_0 := n2_
                have HL205_0 := n3_
                have HO210 := n4_
                have BK204 := n5_
                have HB := n6_
                clear n0_ n1_ n2_ n3_ n4_ n5_ n6_
                refine start_ (n := 14) (S := fun w' => True) (ds := []) #[false, false, false, false, false, false, false, false, false, false, false, false, false, false] (by kernel_rfl) rfl rfl trivial (fun hHeld => ?_); refine with_tabW merge_Merge.tab20 merge_Merge.bits20 (fun HT_ HW_ => ?_)
                generalize w66.drew = w68 at HO_3 HO_6 HL202_0 HL205_0 HO210 BK204 HB hHeld ⊢
                refine pure_ (i := 0) (N := some 73) (v := ?_) (a' := ?_) #[true, false, false, false, false, false, false, false, false, false, false, false, false, false] rfl rfl (any_of HT_.out (by kernel_rfl)) (fun _ _ _ h => h) (Or.inl ⟨by rfl, ?_⟩) ?_ ?_
                rotate_left
                ·
                 intro w'
                 go_simp
                 with_reducible rfl
                rotate_left
                ·
                 simp only [Act.put, List.setIfInBounds_toArray, List.set_cons_zero, List.set_cons_succ, i64_w, i32_w]
                 rfl
                refine pure_ (i := 1) (N := some 74) (v := ?_) (a' := ?_) #[true, true, false, false, false, false, false, false, false, false, false, false, false, false] rfl rfl (any_of HT_.out (by kernel_rfl)) (fun _ _ _ h => h) (Or.inl ⟨by rfl, ?_⟩) ?_ ?_
                rotate_left
                ·
                 intro w'
                 go_simp
                 with_reducible rfl
                rotate_left
                ·
                 simp only [Act.put, List.setIfInBounds_toArray, List.set_cons_zero, List.set_cons_succ, i64_w, i32_w]
                 rfl
                refine pure_ (i := 2) (N := some 75) (v := ?_) (a' := ?_) #[true, true, true, false, false, false, false, false, false, false, false, false, false, false] rfl rfl (any_of HT_.out (by kernel_rfl)) (fun _ _ _ h => h) (Or.inl ⟨by rfl, ?_⟩) ?_ ?_
                rotate_left
                ·
                 intro w'
                 go_simp
                 with_reducible rfl
                rotate_left
                ·
                 simp only [Act.put, List.setIfInBounds_toArray, List.set_cons_zero, List.set_cons_succ, i64_w, i32_w]
                 rfl
                refine pure_ (i := 3) (N := some 76) (v := undef) (a' := ?_) #[true, true, true, true, false, false, false, false, false, false, false, false, false, false] rfl rfl (any_of HT_.out (by kernel_rfl)) (fun _ _ _ h => h) (Or.inr ⟨by rfl, rfl⟩) ?_ ?_
                rotate_left
                ·
                 simp only [Act.put, List.setIfInBounds_toArray, List.set_cons_zero, List.set_cons_succ, i64_w, i32_w]
                 rfl
                refine pure_ (i := 4) (N := some 77) (v := undef) (a' := ?_) #[true, true, true, true, true, false, false, false, false, false, false, false, false, false] rfl rfl (any_of HT_.out (by kernel_rfl)) (fun _ _ _ h => h) (Or.inr ⟨by rfl, rfl⟩) ?_ ?_
                rotate_left
                ·
                 simp only [Act.put, List.setIfInBounds_toArray, List.set_cons_zero, List.set_cons_succ, i64_w, i32_w]
                 rfl
                refine pure_ (i := 5) (N := some 78) (v := undef) (a' := ?_) #[true, true, true, true, true, true, false, false, false, false, false, false, false, false] rfl rfl (any_of HT_.out (by kernel_rfl)) (fun _ _ _ h => h) (Or.inr ⟨by rfl, rfl⟩) ?_ ?_
                rotate_left
                ·
                 simp only [Act.put, List.setIfInBounds_toArray, List.set_cons_zero, List.set_cons_succ, i64_w, i32_w]
                 rfl
                refine pure_ (i := 6) (N := some 79) (v := undef) (a' := ?_) #[true, true, true, true, true, true, true, false, false, false, false, false, false, false] rfl rfl (any_of HT_.out (by kernel_rfl)) (fun _ _ _ h => h) (Or.inr ⟨by rfl, rfl⟩) ?_ ?_
                rotate_left
                ·
                 simp only [Act.put, List.setIfInBounds_toArray, List.set_cons_zero, List.set_cons_succ, i64_w, i32_w]
                 rfl
                refine pure_ (i := 7) (N := some 80) (v := undef) (a' := ?_) #[true, true, true, true, true, true, true, true, false, false, false, false, false, false] rfl rfl (any_of HT_.out (by kernel_rfl)) (fun _ _ _ h => h) (Or.inr ⟨by rfl, rfl⟩) ?_ ?_
                rotate_left
                ·
                 simp only [Act.put, List.setIfInBounds_toArray, List.set_cons_zero, List.set_cons_succ, i64_w, i32_w]
                 rfl
                refine pure_ (i := 8) (N := some 81) (v := undef) (a' := ?_) #[true, true, true, true, true, true, true, true, true, false, false, false, false, false] rfl rfl (any_of HT_.out (by kernel_rfl)) (fun _ _ _ h => h) (Or.inr ⟨by rfl, rfl⟩) ?_ ?_
                rotate_left
                ·
                 simp only [Act.put, List.setIfInBounds_toArray, List.set_cons_zero, List.set_cons_succ, i64_w, i32_w]
                 rfl
                refine pure_ (i := 9) (N := some 82) (v := undef) (a' := ?_) #[true, true, true, true, true, true, true, true, true, true, false, false, false, false] rfl rfl (any_of HT_.out (by kernel_rfl)) (fun _ _ _ h => h) (Or.inr ⟨by rfl, rfl⟩) ?_ ?_
                rotate_left
                ·
                 simp only [Act.put, List.setIfInBounds_toArray, List.set_cons_zero, List.set_cons_succ, i64_w, i32_w]
                 rfl
                refine pure_ (i := 10) (N := some 83) (v := undef) (a' := ?_) #[true, true, true, true, true, true, true, true, true, true, true, false, false, false] rfl rfl (any_of HT_.out (by kernel_rfl)) (fun _ _ _ h => h) (Or.inr ⟨by rfl, rfl⟩) ?_ ?_
                rotate_left
                ·
                 simp only [Act.put, List.setIfInBounds_toArray, List.set_cons_zero, List.set_cons_succ, i64_w, i32_w]
                 rfl
                refine pure_ (i := 11) (N := some 84) (v := undef) (a' := ?_) #[true, true, true, true, true, true, true, true, true, true, true, true, false, false] rfl rfl (any_of HT_.out (by kernel_rfl)) (fun _ _ _ h => h) (Or.inr ⟨by rfl, rfl⟩) ?_ ?_
                rotate_left
                ·
                 simp only [Act.put, List.setIfInBounds_toArray, List.set_cons_zero, List.set_cons_succ, i64_w, i32_w]
                 rfl
                refine pure_ (i := 12) (N := some 85) (v := undef) (a' := ?_) #[true, true, true, true, true, true, true, true, true, true, true, true, true, false] rfl rfl (any_of HT_.out (by kernel_rfl)) (fun _ _ _ h => h) (Or.inr ⟨by rfl, rfl⟩) ?_ ?_
                rotate_left
                ·
                 simp only [Act.put, List.setIfInBounds_toArray, List.set_cons_zero, List.set_cons_succ, i64_w, i32_w]
                 rfl
                refine pure_ (i := 13) (N := some 86) (v := ?_) (a' := ?_) #[true, true, true, true, true, true, true, true, true, true, true, true, true, true] rfl rfl (any_of HT_.out (by kernel_rfl)) (fun _ _ _ h => h) (Or.inl ⟨by rfl, ?_⟩) ?_ ?_
                rotate_left
                ·
                 intro w'
                 go_simp
                 with_reducible rfl
                rotate_left
                ·
                 simp only [Act.put, List.setIfInBounds_toArray, List.set_cons_zero, List.set_cons_succ, i64_w, i32_w]
                 rfl
                refine done_ (done_of HT_.out (by kernel_rfl)) ?_
                have hcz69_0 : w68.cell? ⟨gb204, 0, none⟩ = some (.string ((rd_T31 (rd_L5 x3_2 x7_3) 0).f0.f0)) := (blk_cell BK204.out 0).trans rfl
                have hcz69_1 : w68.cell? ⟨gb204, 1, none⟩ = some (.int .i64 ((rd_T31 (rd_L5 x3_2 x7_3) 0).f0.f1)) := (blk_cell BK204.out 1).trans rfl
                have hcz69_2 : w68.cell? ⟨gb204, 2, none⟩ = some (.int .i64 ((rd_T31 (rd_L5 x3_2 x7_3) 0).f0.f2)) := (blk_cell BK204.out 2).trans rfl
                have hcz69_3 : w68.cell? ⟨gb204, 3, none⟩ = some (.string ((rd_T31 (rd_L5 x3_2 x7_3) 0).f1)) := (blk_cell BK204.out 3).trans rfl
                have hfz69_0 := blk_frozen BK204.out 0
                have hfz69_1 := blk_frozen BK204.out 1
                have hfz69_2 := blk_frozen BK204.out 2
                have hfz69_3 := blk_frozen BK204.out 3
                try go_wp2_with (first | (first | (with_reducible refine wp_label ?_) | (with_reducible refine wp_scope_straight ?_) | (simp only [Exit.noGoto_ret, Exit.noGoto_normal, Exit.noGoto_exit])) | ((with_reducible refine gate_builtin (b := .append) (xs := #[.tmp 87, .tmp 89]) rfl ?_); at_builtin; refine Kd.R_append k31 (w0 := w) w.heap.size rfl (.tmp 87) (.tmp 89) 24 31 (.agg #[(.string ⟨#[]⟩), (.int .i64 0), (.int .i64 0), (.string ⟨#[]⟩)]) 48 rfl Try.underlying24 info31 rfl (by decide) (by omega) (.slice Ao67 x6_2.length co67) x6_2 (⟨(⟨(rd_T31 (rd_L5 x3_2 x7_3) 0).f0.f0, (rd_T31 (rd_L5 x3_2 x7_3) 0).f0.f1, (rd_T31 (rd_L5 x3_2 x7_3) 0).f0.f2⟩ : S29), (rd_T31 (rd_L5 x3_2 x7_3) 0).f1⟩ : S31) [.string ((rd_T31 (rd_L5 x3_2 x7_3) 0).f0.f0), .int .i64 ((rd_T31 (rd_L5 x3_2 x7_3) 0).f0.f1), .int .i64 ((rd_T31 (rd_L5 x3_2 x7_3) 0).f0.f2), .string ((rd_T31 (rd_L5 x3_2 x7_3) 0).f1)] (fun k_ => k_ ≠ gb204) (fun _ => False) rfl rfl ?aP (fun _ hk => hk.elim) ?aF ?aO ?aB ?aS ?aL ?_; (case aP => exact k31_mkM _ _ _ (⟨(⟨(rd_T31 (rd_L5 x3_2 x7_3) 0).f0.f0, (rd_T31 (rd_L5 x3_2 x7_3) 0).f0.f1, (rd_T31 (rd_L5 x3_2 x7_3) 0).f0.f2⟩ : S29), (rd_T31 (rd_L5 x3_2 x7_3) 0).f1⟩ : S31)); (case aB => exact (by repeat (first | (with_reducible first | exact HB.out | apply below_alloc | apply pw_below_drewN | apply below_drew1 | refine below_set ?_ GE204.out) | exact HB.out | exact Below.refl _ _))); (case aF => exact (fun k_ hk => Kd.freshB (g := gb204) (o := .cells #[.string ((rd_T31 (rd_L5 x3_2 x7_3) 0).f0.f0), .int .i64 ((rd_T31 (rd_L5 x3_2 x7_3) 0).f0.f1), .int .i64 ((rd_T31 (rd_L5 x3_2 x7_3) 0).f0.f2), .string ((rd_T31 (rd_L5 x3_2 x7_3) 0).f1)] 31 (0, 0)) (by (with_reducible repeat (first | refine blk_drewN ?_ _ | refine blk_drew ?_ | refine blk_alloc ?_ _)); exact BK204.out) k_ hk)); (case aO => exact (by (with_reducible repeat (first | apply Kd.R_alloc | apply Kd.R_drewN | apply Kd.R_drew)); exact HO_6.out)); (case aS => exact (below_size (by repeat (first | (with_reducible first | exact HB.out | apply below_alloc | apply pw_below_drewN | apply below_drew1 | refine below_set ?_ GE204.out) | exact HB.out | exact Below.refl _ _)))); (case aL => have := LMc60.out; omega); intro v218 w70 ho hb hg hat; rw [← Ny217.out] at ho; have n0_ := Aside0.mk (Kd.N_afterv (ok := (fun k_ => k_ ≠ gb204)) (by (with_reducible repeat (first | apply Kd.N_alloc | apply Kd.N_drewN | apply Kd.N_drew)); exact Kd.N_mono HO_3.out (fun _ hk => ⟨hk.2, hk.1⟩)) hg hat); have n1_ := Aside0.mk (Kd.V_afterv (ok := (fun k_ => some k_ ≠ (.slice (some ⟨go32, 0, none⟩) x3_2.length co10 : Value).ownBlock ∧ k_ ≠ gb204)) (by (with_reducible repeat (first | apply Kd.V_alloc | apply Kd.V_drewN | apply Kd.V_drew)); exact Kd.V_mono HL202_0.out (fun _ hk => ⟨⟨hk.2, hk.1.2⟩, hk.1.1⟩)) hg hat); have n2_ := Aside0.mk (blk_grown (g := gb204) (o := .cells #[.string ((rd_T31 (rd_L5 x3_2 x7_3) 0).f0.f0), .int .i64 ((rd_T31 (rd_L5 x3_2 x7_3) 0).f0.f1), .int .i64 ((rd_T31 (rd_L5 x3_2 x7_3) 0).f0.f2), .string ((rd_T31 (rd_L5 x3_2 x7_3) 0).f1)] 31 (0, 0)) (by (with_reducible repeat (first | refine blk_drewN ?_ _ | refine blk_drew ?_ | refine blk_alloc ?_ _)); exact BK204.out) hg (Kd.R_away HO_6.out (fun _ hk => hk))); have n3_ := Aside0.mk (Kd.V_afterv (ok := (fun k_ => some k_ ≠ (.slice (some ⟨go32, 0, none⟩) x3_2.length co10 : Value).ownBlock ∧ k_ ≠ gb204)) (by (with_reducible repeat (first | apply Kd.V_alloc | apply Kd.V_drewN | apply Kd.V_drew)); exact Kd.V_mono HL205_0.out (fun _ hk => ⟨⟨hk.2, hk.1.2⟩, hk.1.1⟩)) hg hat); have n4_ := Aside0.mk (Kd.V_afterv (ok := (fun k_ => some k_ ≠ (.slice (some ⟨go32, 0, none⟩) x3_2.length co10 : Value).ownBlock ∧ k_ ≠ gb204)) (by (with_reducible repeat (first | apply Kd.V_alloc | apply Kd.V_drewN | apply Kd.V_drew)); exact Kd.V_mono HO210.out (fun _ hk => ⟨⟨hk.2, hk.1.2⟩, hk.1.1⟩)) hg hat); have n5_ := Aside0.mk (hb); have n6_ := Aside0.mk (ho); clear HO_3; clear HL202_0; clear BK204; clear HL205_0; clear HO210; clear HB; clear HO_6; have HO_3 := n0_; have HL202_0 := n1_; have BK204 := n2_; have HL205_0 := n3_; have HO210 := n4_; have HB := n5_; have HO219 := n6_; clear n0_ n1_ n2_ n3_ n4_ n5_ n6_; clear ho hb hg hat))
                go_roundg k3
                case measure => have := HK1.out; have := HK2.out; have := HK3.out; omega
                case rel => exact ⟨(y211), (y217), H', ⟨by have := HK1.out; have := HK2.out; have := HK3.out; omega⟩, ⟨by (with_reducible repeat (first | apply Kd.N_alloc | apply Kd.N_drewN | apply Kd.N_drew)); exact Kd.N_mono HO_3.out (fun _ hk => hk.2)⟩, ⟨by (with_reducible repeat (first | apply Kd.R_alloc | apply Kd.R_drewN | apply Kd.R_drew)); exact Kd.R_mono HO219.out (fun _ hk => trivial)⟩, ⟨by repeat (first | (with_reducible first | exact HB.out | apply below_alloc | apply pw_below_drewN | apply below_drew1 | refine below_set ?_ GE204.out) | exact HB.out | exact Below.refl _ _)⟩⟩
               ·
                rw [if_neg c60] at H
                exact absurd H (by simp)
             ·
              rw [if_neg c31] at H
              exact absurd H (by simp)
            ·
             rw [if_neg c30] at H
             exact absurd H (by simp)
           ·
            rw [if_neg c29] at H
            exact absurd H (by simp)
          ·
           rw [if_neg c28] at H
           exact absurd H (by simp)

end Go.Proofs.Ytoomipmndapgnaa.PMergeParts
