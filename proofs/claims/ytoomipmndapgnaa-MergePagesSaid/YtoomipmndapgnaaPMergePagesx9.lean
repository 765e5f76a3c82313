/- The functions that a law reaches, as Lean functions, each with the contract that its Go code comes to just these answers. Written by a program of this claim's author (wip/mkprint.py). No conditions. -/
import Derived.Test.YtoomipmndapgnaaPMergePagesx0
import Derived.Test.YtoomipmndapgnaaPMergePagesx8
namespace Go.Proofs.Ytoomipmndapgnaa.PMergePages
open Go.RowKit Go.Proofs.YtoomipmndapgnaaW.PrintWords Go.Proofs.YtoomipmndapgnaaW.PrintLast Go.Proofs.YtoomipmndapgnaaW.PrintMore
attribute [local go_sem] max2_int min2_int max_two min_two max_three min_three max_four min_four   -- for this text's walks alone
set_option linter.unusedVariables false
set_option linter.unusedSimpArgs false

/-! ### iceboxref10_View: function 28 -/
mutual
def iceboxref10_View.l0 : Nat → List (S31) → Int → ByteArray → ByteArray → Bool → Int → List (S47) → Bool → Int → Option ((List (S47)))
 | 0, _, _, _, _, _, _, _, _, _ => none
 | k + 1, x0, x1, x2, x3, x4, x5, x13, x14, x15 => if x15 < (x0.length : Int) then (if 0 ≤ x15 then (if x15 = 0 then (iceboxref10_View.j1 k x0 x1 x2 x3 x4 x5 x13 x14 x15 true ((rd_T31 x0 x15).f0.f0) ((rd_T31 x0 x15).f0.f1) ((rd_T31 x0 x15).f0.f2)) else (if 0 ≤ (wrap64 (x15 - 1)) then (if (wrap64 (x15 - 1)) < (x0.length : Int) then (iceboxref10_View.j1 k x0 x1 x2 x3 x4 x5 x13 x14 x15 (((rd_T31 x0 (wrap64 (x15 - 1))).f0.f0).toList != ((rd_T31 x0 x15).f0.f0).toList) ((rd_T31 x0 x15).f0.f0) ((rd_T31 x0 x15).f0.f1) ((rd_T31 x0 x15).f0.f2)) else (none)) else (none))) else (none)) else ((iceboxref10_Some.f k x13 x4 x5).bind fun t270 => (some t270))
def iceboxref10_View.j1 : Nat → List (S31) → Int → ByteArray → ByteArray → Bool → Int → List (S47) → Bool → Int → Bool → ByteArray → Int → Int → Option ((List (S47)))
 | 0, _, _, _, _, _, _, _, _, _, _, _, _, _ => none
 | k + 1, x0, x1, x2, x3, x4, x5, x13, x14, x15, x41, x275000, x275001, x275002 => if x41 = true then (iceboxref10_View.j2 k x0 x1 x2 x3 x4 x5 x13 false x15 x275000 x275001 x275002) else (iceboxref10_View.j2 k x0 x1 x2 x3 x4 x5 x13 x14 x15 x275000 x275001 x275002)
def iceboxref10_View.j2 : Nat → List (S31) → Int → ByteArray → ByteArray → Bool → Int → List (S47) → Bool → Int → ByteArray → Int → Int → Option ((List (S47)))
 | 0, _, _, _, _, _, _, _, _, _, _, _, _ => none
 | k + 1, x0, x1, x2, x3, x4, x5, x13, x14, x15, x275000, x275001, x275002 => if x14 = true then (iceboxref10_View.j3 k x0 x1 x2 x3 x4 x5 x13 x14 x15 true x275000 x275001 x275002) else (if x275001 > x1 then (iceboxref10_View.j3 k x0 x1 x2 x3 x4 x5 x13 x14 x15 true x275000 x275001 x275002) else (if (Op.bytesLess x275000.toList x2.toList) = true then (iceboxref10_View.j3 k x0 x1 x2 x3 x4 x5 x13 x14 x15 true x275000 x275001 x275002) else (if x3.toList = ([] : List UInt8) then (iceboxref10_View.j3 k x0 x1 x2 x3 x4 x5 x13 x14 x15 false x275000 x275001 x275002) else (iceboxref10_View.j3 k x0 x1 x2 x3 x4 x5 x13 x14 x15 (!(Op.bytesLess x275000.toList x3.toList)) x275000 x275001 x275002))))
def iceboxref10_View.j3 : Nat → List (S31) → Int → ByteArray → ByteArray → Bool → Int → List (S47) → Bool → Int → Bool → ByteArray → Int → Int → Option ((List (S47)))
 | 0, _, _, _, _, _, _, _, _, _, _, _, _, _ => none
 | k + 1, x0, x1, x2, x3, x4, x5, x13, x14, x15, x64, x275000, x275001, x275002 => if x64 = true then (iceboxref10_View.l0 k x0 x1 x2 x3 x4 x5 x13 x14 (wrap64 (x15 + 1))) else (if x275002 = 1 then (if 0 ≤ x15 then (if x15 < (x0.length : Int) then (if x13.length < 4398046511104 then (iceboxref10_View.l0 k x0 x1 x2 x3 x4 x5 (x13 ++ [(⟨x275000, (rd_T31 x0 x15).f1⟩ : S47)]) true (wrap64 (x15 + 1))) else (none)) else (none)) else (none)) else (iceboxref10_View.l0 k x0 x1 x2 x3 x4 x5 x13 true (wrap64 (x15 + 1))))
end
def iceboxref10_View.f (k : Nat) (l0 : List (S31)) (a1 : Int) (a2 : ByteArray) (a3 : ByteArray) (a4 : Bool) (a5 : Int) : Option ((List (S47))) := iceboxref10_View.l0 k l0 a1 a2 a3 a4 a5 ([] : List (S47)) false 0
theorem iceboxref10_View.mono_l : ∀ k, (∀ y0 y1 y2 y3 y4 y5 y6 y7 y8, LeO (iceboxref10_View.l0 k y0 y1 y2 y3 y4 y5 y6 y7 y8) (iceboxref10_View.l0 (k + 1) y0 y1 y2 y3 y4 y5 y6 y7 y8)) ∧ (∀ y0 y1 y2 y3 y4 y5 y6 y7 y8 y9 y10 y11 y12, LeO (iceboxref10_View.j1 k y0 y1 y2 y3 y4 y5 y6 y7 y8 y9 y10 y11 y12) (iceboxref10_View.j1 (k + 1) y0 y1 y2 y3 y4 y5 y6 y7 y8 y9 y10 y11 y12)) ∧ (∀ y0 y1 y2 y3 y4 y5 y6 y7 y8 y9 y10 y11, LeO (iceboxref10_View.j2 k y0 y1 y2 y3 y4 y5 y6 y7 y8 y9 y10 y11) (iceboxref10_View.j2 (k + 1) y0 y1 y2 y3 y4 y5 y6 y7 y8 y9 y10 y11)) ∧ (∀ y0 y1 y2 y3 y4 y5 y6 y7 y8 y9 y10 y11 y12, LeO (iceboxref10_View.j3 k y0 y1 y2 y3 y4 y5 y6 y7 y8 y9 y10 y11 y12) (iceboxref10_View.j3 (k + 1) y0 y1 y2 y3 y4 y5 y6 y7 y8 y9 y10 y11 y12))
 | 0 => ⟨fun _ _ _ _ _ _ _ _ _ r h => by simp [iceboxref10_View.l0] at h, fun _ _ _ _ _ _ _ _ _ _ _ _ _ r h => by simp [iceboxref10_View.j1] at h, fun _ _ _ _ _ _ _ _ _ _ _ _ r h => by simp [iceboxref10_View.j2] at h, fun _ _ _ _ _ _ _ _ _ _ _ _ _ r h => by simp [iceboxref10_View.j3] at h⟩
 | k + 1 => by
  obtain ⟨ih0, ih1, ih2, ih3⟩ := iceboxref10_View.mono_l k
  refine ⟨?_, ?_, ?_, ?_⟩
  ·
   intro y0 y1 y2 y3 y4 y5 y6 y7 y8
   unfold iceboxref10_View.l0
   repeat' first
   | (with_reducible exact ih0 _ _ _ _ _ _ _ _ _)
   | (with_reducible exact ih1 _ _ _ _ _ _ _ _ _ _ _ _ _)
   | (with_reducible exact ih2 _ _ _ _ _ _ _ _ _ _ _ _)
   | (with_reducible exact ih3 _ _ _ _ _ _ _ _ _ _ _ _ _)
   | (with_reducible exact iceboxref10_Some.mono _ _ _ _)
   | (with_reducible exact LeO.refl _)
   | (with_reducible exact LeO.none _)
   | (with_reducible refine LeO.ite ?_ ?_)
   | (with_reducible refine LeO.bind ?_ (fun _ => ?_))
   | exact ih0 _ _ _ _ _ _ _ _ _
   | exact ih1 _ _ _ _ _ _ _ _ _ _ _ _ _
   | exact ih2 _ _ _ _ _ _ _ _ _ _ _ _
   | exact ih3 _ _ _ _ _ _ _ _ _ _ _ _ _
   | exact iceboxref10_Some.mono _ _ _ _
   | exact LeO.none _
   | refine LeO.ite ?_ ?_
   | refine LeO.bind ?_ (fun _ => ?_)
  ·
   intro y0 y1 y2 y3 y4 y5 y6 y7 y8 y9 y10 y11 y12
   unfold iceboxref10_View.j1
   repeat' first
   | (with_reducible exact ih0 _ _ _ _ _ _ _ _ _)
   | (with_reducible exact ih1 _ _ _ _ _ _ _ _ _ _ _ _ _)
   | (with_reducible exact ih2 _ _ _ _ _ _ _ _ _ _ _ _)
   | (with_reducible exact ih3 _ _ _ _ _ _ _ _ _ _ _ _ _)
   | (with_reducible exact iceboxref10_Some.mono _ _ _ _)
   | (with_reducible exact LeO.refl _)
   | (with_reducible exact LeO.none _)
   | (with_reducible refine LeO.ite ?_ ?_)
   | (with_reducible refine LeO.bind ?_ (fun _ => ?_))
   | exact ih0 _ _ _ _ _ _ _ _ _
   | exact ih1 _ _ _ _ _ _ _ _ _ _ _ _ _
   | exact ih2 _ _ _ _ _ _ _ _ _ _ _ _
   | exact ih3 _ _ _ _ _ _ _ _ _ _ _ _ _
   | exact iceboxref10_Some.mono _ _ _ _
   | exact LeO.none _
   | refine LeO.ite ?_ ?_
   | refine LeO.bind ?_ (fun _ => ?_)
  ·
   intro y0 y1 y2 y3 y4 y5 y6 y7 y8 y9 y10 y11
   unfold iceboxref10_View.j2
   repeat' first
   | (with_reducible exact ih0 _ _ _ _ _ _ _ _ _)
   | (with_reducible exact ih1 _ _ _ _ _ _ _ _ _ _ _ _ _)
   | (with_reducible exact ih2 _ _ _ _ _ _ _ _ _ _ _ _)
   | (with_reducible exact ih3 _ _ _ _ _ _ _ _ _ _ _ _ _)
   | (with_reducible exact iceboxref10_Some.mono _ _ _ _)
   | (with_reducible exact LeO.refl _)
   | (with_reducible exact LeO.none _)
   | (with_reducible refine LeO.ite ?_ ?_)
   | (with_reducible refine LeO.bind ?_ (fun _ => ?_))
   | exact ih0 _ _ _ _ _ _ _ _ _
   | exact ih1 _ _ _ _ _ _ _ _ _ _ _ _ _
   | exact ih2 _ _ _ _ _ _ _ _ _ _ _ _
   | exact ih3 _ _ _ _ _ _ _ _ _ _ _ _ _
   | exact iceboxref10_Some.mono _ _ _ _
   | exact LeO.none _
   | refine LeO.ite ?_ ?_
   | refine LeO.bind ?_ (fun _ => ?_)
  ·
   intro y0 y1 y2 y3 y4 y5 y6 y7 y8 y9 y10 y11 y12
   unfold iceboxref10_View.j3
   repeat' first
   | (with_reducible exact ih0 _ _ _ _ _ _ _ _ _)
   | (with_reducible exact ih1 _ _ _ _ _ _ _ _ _ _ _ _ _)
   | (with_reducible exact ih2 _ _ _ _ _ _ _ _ _ _ _ _)
   | (with_reducible exact ih3 _ _ _ _ _ _ _ _ _ _ _ _ _)
   | (with_reducible exact iceboxref10_Some.mono _ _ _ _)
   | (with_reducible exact LeO.refl _)
   | (with_reducible exact LeO.none _)
   | (with_reducible refine LeO.ite ?_ ?_)
   | (with_reducible refine LeO.bind ?_ (fun _ => ?_))
   | exact ih0 _ _ _ _ _ _ _ _ _
   | exact ih1 _ _ _ _ _ _ _ _ _ _ _ _ _
   | exact ih2 _ _ _ _ _ _ _ _ _ _ _ _
   | exact ih3 _ _ _ _ _ _ _ _ _ _ _ _ _
   | exact iceboxref10_Some.mono _ _ _ _
   | exact LeO.none _
   | refine LeO.ite ?_ ?_
   | refine LeO.bind ?_ (fun _ => ?_)
theorem iceboxref10_View.mono : ∀ a0 a1 a2 a3 a4 a5 k, LeO (iceboxref10_View.f k a0 a1 a2 a3 a4 a5) (iceboxref10_View.f (k + 1) a0 a1 a2 a3 a4 a5) := by
 intro a0 a1 a2 a3 a4 a5 k
 obtain ⟨ih0, ih1, ih2, ih3⟩ := iceboxref10_View.mono_l k
 unfold iceboxref10_View.f
 repeat' first
  | (with_reducible exact ih0 _ _ _ _ _ _ _ _ _)
  | (with_reducible exact ih1 _ _ _ _ _ _ _ _ _ _ _ _ _)
  | (with_reducible exact ih2 _ _ _ _ _ _ _ _ _ _ _ _)
  | (with_reducible exact ih3 _ _ _ _ _ _ _ _ _ _ _ _ _)
  | (with_reducible exact iceboxref10_Some.mono _ _ _ _)
  | (with_reducible exact LeO.refl _)
  | (with_reducible exact LeO.none _)
  | (with_reducible refine LeO.ite ?_ ?_)
  | (with_reducible refine LeO.bind ?_ (fun _ => ?_))
  | exact ih0 _ _ _ _ _ _ _ _ _
  | exact ih1 _ _ _ _ _ _ _ _ _ _ _ _ _
  | exact ih2 _ _ _ _ _ _ _ _ _ _ _ _
  | exact ih3 _ _ _ _ _ _ _ _ _ _ _ _ _
  | exact iceboxref10_Some.mono _ _ _ _
  | exact LeO.none _
  | refine LeO.ite ?_ ?_
  | refine LeO.bind ?_ (fun _ => ?_)
def iceboxref10_View.T7 : Bool × List (List Nat × List Nat) := (true, [([], []), ([0], [0]), ([1], [1]), ([2], [2]), ([2], [2]), ([4, 2], [2, 4]), ([3, 5, 2], [2, 3, 5]), ([6, 2], [2, 6]), ([7, 2], [2, 7]), ([8, 2], [2, 8]), ([2], [2]), ([10, 2], [2, 10]), ([9, 11, 2], [2, 9, 11]), ([2, 12], [2, 12])])
def iceboxref10_View.B7 : List Nat := [0, 1, 3, 7, 7, 23, 63, 127, 255, 511, 7, 1031, 4095, 8191]
theorem iceboxref10_View.tab7 : rtab .any (opsOf Try.f28 7) = iceboxref10_View.T7 := by kernel_rfl
theorem iceboxref10_View.bits7 : waitsOk iceboxref10_View.T7.2 iceboxref10_View.B7 = true := by kernel_rfl
def iceboxref10_View.T12 : Bool × List (List Nat × List Nat) := (true, [([], []), ([], []), ([1], [1]), ([], []), ([], []), ([3, 4], [3, 4]), ([5], [5]), ([6], [6]), ([2, 7], [2, 7]), ([8], [8]), ([0, 9], [0, 9]), ([10, 10, 0, 1, 2, 3, 4, 5, 6, 7, 8, 9, 10], [0, 10])])
def iceboxref10_View.B12 : List Nat := [0, 0, 2, 0, 0, 24, 56, 120, 254, 510, 1023, 2047]
theorem iceboxref10_View.tab12 : rtab .any (opsOf Try.f28 12) = iceboxref10_View.T12 := by kernel_rfl
theorem iceboxref10_View.bits12 : waitsOk iceboxref10_View.T12.2 iceboxref10_View.B12 = true := by kernel_rfl
set_option maxHeartbeats 80000000 in
set_option maxRecDepth 100000 in
theorem iceboxref10_View.calls (k : Nat) (A0 : Option Addr) (c0 : Nat) (l0 : List (S31)) (a1 : Int) (a2 : ByteArray) (a3 : ByteArray) (a4 : Bool) (a5 : Int) (r : List (S47)) (w : World) (hr0 : Kd.C k31 w A0 l0.length l0) (hc0 : l0.length ≤ c0) (h : iceboxref10_View.f k l0 a1 a2 a3 a4 a5 = some r) :
 Calls Try.prog 28 #[.slice A0 l0.length c0, .int .i64 a1, .string a2, .string a3, .bool a4, .int .i64 a5] w fun e w' => ∃ v0_ : Value, e = .returned (v0_) ∧ Kd.R k47 47 w' w.heap.size (fun _ => True) v0_ r ∧ Below w.heap.size w w' := by
 have hu29 := Try.underlying29
 have hu47 := Try.underlying47
 have HR0 := Aside0.mk hr0
 have HC0 := Aside0.mk hc0
 clear hr0 hc0
 have HB := Aside0.mk (Below.refl w.heap.size w)
 have H : (iceboxref10_View.l0 k l0 a1 a2 a3 a4 a5 ([] : List (S47)) false 0) = some r := h
 clear h
 have H' := Aside0.mk H
 clear H
 go_enter Try.func28, Try.ntmps28
 go_wp2
 go_loopg [13, 14, 15] k (fun kq v13 v14 v15 w' => ∃ (x13_1 : List (S47)) (x14_1 : Bool) (x15_1 : Int), v14 = .bool x14_1 ∧ v15 = .int .i64 x15_1 ∧ Aside0 (iceboxref10_View.l0 kq l0 a1 a2 a3 a4 a5 x13_1 x14_1 x15_1 = some r) ∧ Aside0 (kq ≤ k) ∧ Aside0 (Kd.R k47 47 w' w.heap.size (fun _ => True) v13 x13_1) ∧ Aside0 (Below w.heap.size w w'))
 case atStart => exact ⟨(([] : List (S47))), (false), (0), (by first | rfl | (simp; done) | (simp [*]; done)), (by first | rfl | (simp; done) | (simp [*]; done)), H', ⟨Nat.le_refl _⟩, ⟨by first | exact Kd.R_nil _ _ _ _ _ | exact Kd.N_nil _ _ _ _ _ | exact Kd.V_nil _ _ _ _ _ | exact Kd.Q_nil _ _ _ _ _ | exact Kd.S_nil _ _ _ _ _⟩, ⟨by repeat (first | (with_reducible first | exact HB.out | apply below_alloc | apply pw_below_drewN | apply below_drew1) | exact HB.out | exact Below.refl _ _)⟩⟩
 case round =>
  clear H'
  obtain ⟨x13_1, x14_1, x15_1, rfl, rfl, HA, HK1, HO_13, HB⟩ := hrel
  cases gk with
  | zero => exact absurd HA.out (by simp [iceboxref10_View.l0])
  | succ k1 =>
   have H := HA.out
   clear HA
   simp only [iceboxref10_View.l0] at H
   by_cases c7 : x15_1 < (l0.length : Int)
   ·
    rw [if_pos c7] at H
    have c7b0 : decide (x15_1 < (l0.length : Int)) = true := decide_eq_true c7
    clear c7
    by_cases c8 : 0 ≤ x15_1
    ·
     rw [if_pos c8] at H
     have c8b0 : decide (0 ≤ x15_1) = true := decide_eq_true c8
     clear c8
     have HC9 := Aside0.mk H
     clear H
     have p273 : 0 ≤ (x15_1 : Int) := of_decide_eq_true (by first | (with_reducible assumption) | assumption)
     have q273 : x15_1 < (l0.length : Int) := of_decide_eq_true (by first | (with_reducible assumption) | assumption)
     obtain ⟨ad273, e273, hx273_0, hx273_1, hx273_2, hx273_3⟩ := at_T31 HR0.out x15_1 p273 q273
     cases e273
     replace hx273_0 := (HB.out.cell (World.block_lt_of_cell? w _ hx273_0)).trans hx273_0
     replace hx273_1 := (HB.out.cell (World.block_lt_of_cell? w _ hx273_1)).trans hx273_1
     replace hx273_2 := (HB.out.cell (World.block_lt_of_cell? w _ hx273_2)).trans hx273_2
     replace hx273_3 := (HB.out.cell (World.block_lt_of_cell? w _ hx273_3)).trans hx273_3
     replace p273 := eq_true p273
     replace q273 := eq_true q273
     go_upto_region 7 with (first | ((with_reducible refine gate_dst (N := 16) rfl ?_); refine box_event ?hg (N := 16) ?hd (cs := #[.string (⟨#[]⟩ : ByteArray), .int .i64 0, .int .i64 0]) (t := 29) ?hr ?_; (case hd => rfl); (case hg => rfl); (case hr => first | (go_simp; done) | (go_simp; rfl)); intro gb274 hg w10 hbox hb; have n0_ := Aside0.mk (Kd.R_below (by (with_reducible repeat (first | apply Kd.R_alloc | apply Kd.R_drewN | apply Kd.R_drew)); exact HO_13.out) hb); have n1_ := Aside0.mk (below_step (by repeat (first | (with_reducible first | exact HB.out | apply below_alloc | apply pw_below_drewN | apply below_drew1) | exact HB.out | exact Below.refl _ _)) hb); have n2_ := Aside0.mk (hbox); have n3_ := Aside0.mk ((by rw [hg]; exact (below_size (by repeat (first | (with_reducible first | exact HB.out | apply below_alloc | apply pw_below_drewN | apply below_drew1) | exact HB.out | exact Below.refl _ _))) : w.heap.size ≤ gb274)); have n4_ := Aside0.mk ((by rw [hg]; exact (below_size (by repeat (first | (with_reducible first | exact HB.out | apply below_alloc | apply pw_below_drewN | apply below_drew1) | exact HB.out | exact Below.refl _ _))) : w.heap.size ≤ gb274)); clear HO_13; clear HB; have HO_13 := n0_; have HB := n1_; have BK274 := n2_; have GW274 := n3_; have GE274 := n4_; clear n0_ n1_ n2_ n3_ n4_; clear hb hbox hg; have hcz11_0 : w10.cell? ⟨gb274, 0, none⟩ = some (.string (⟨#[]⟩ : ByteArray)) := (blk_cell BK274.out 0).trans rfl; have hcz11_1 : w10.cell? ⟨gb274, 1, none⟩ = some (.int .i64 0) := (blk_cell BK274.out 1).trans rfl; have hcz11_2 : w10.cell? ⟨gb274, 2, none⟩ = some (.int .i64 0) := (blk_cell BK274.out 2).trans rfl; have hfz11_0 := blk_frozen BK274.out 0; have hfz11_1 := blk_frozen BK274.out 1; have hfz11_2 := blk_frozen BK274.out 2))
     (try simp only [Act.put, List.setIfInBounds_toArray, List.set_cons_zero, List.set_cons_succ])
     go_cut [41] (fun v41 wc => ∃ (kq : Nat) (x41_8 : Bool), v41 = .bool x41_8 ∧ Aside0 (iceboxref10_View.j1 kq l0 a1 a2 a3 a4 a5 x13_1 x14_1 x15_1 x41_8 ((rd_T31 l0 x15_1).f0.f0) ((rd_T31 l0 x15_1).f0.f1) ((rd_T31 l0 x15_1).f0.f2) = some r) ∧ Aside0 (kq ≤ k1) ∧ Aside0 (Kd.R k47 47 wc w.heap.size (fun _ => True) u13 x13_1) ∧ Aside0 (wc.heap[gb274]? = some (.cells #[.string ((rd_T31 l0 x15_1).f0.f0), .int .i64 ((rd_T31 l0 x15_1).f0.f1), .int .i64 ((rd_T31 l0 x15_1).f0.f2)] 29 (0, 0))) ∧ Aside0 (Below w.heap.size w wc))
     case first =>
      have H := HC9.out
      clear HC9
      by_cases c12 : x15_1 = 0
      ·
       rw [if_pos c12] at H
       have c12b0 : (x15_1 == 0) = true := beq_iff_eq.mpr c12
       have c12b1 : (x15_1 != 0) = false := bne_eq_false_iff_eq.mpr c12
       clear c12
       (first | rw [c12b0] | (simp only [i64_w, i32_w]; rw [c12b0]) | skip)
       have H' := Aside0.mk H
       clear H
       try go_wp2
       have n0_ : Aside0 (Kd.R k47 47 (((w10.setCell ⟨gb274, 0, none⟩ (.string ((rd_T31 l0 x15_1).f0.f0))).setCell ⟨gb274, 1, none⟩ (.int .i64 ((rd_T31 l0 x15_1).f0.f1))).setCell ⟨gb274, 2, none⟩ (.int .i64 ((rd_T31 l0 x15_1).f0.f2))) w.heap.size (fun _ => True) u13 x13_1) := ⟨by (with_reducible repeat (first | apply Kd.R_alloc | apply Kd.R_drewN | apply Kd.R_drew)); exact Kd.R_mono (Kd.R_far (p := ⟨gb274, 2, none⟩) (Kd.R_far (p := ⟨gb274, 1, none⟩) (Kd.R_far (p := ⟨gb274, 0, none⟩) (Kd.R_types HO_13.out BK274.out (by decide)) (fun _ hk => hk.2) (.string ((rd_T31 l0 x15_1).f0.f0))) (fun _ hk => hk.2) (.int .i64 ((rd_T31 l0 x15_1).f0.f1))) (fun _ hk => hk.2) (.int .i64 ((rd_T31 l0 x15_1).f0.f2))) (fun _ hk => trivial)⟩
       have n1_ : Aside0 ((((w10.setCell ⟨gb274, 0, none⟩ (.string ((rd_T31 l0 x15_1).f0.f0))).setCell ⟨gb274, 1, none⟩ (.int .i64 ((rd_T31 l0 x15_1).f0.f1))).setCell ⟨gb274, 2, none⟩ (.int .i64 ((rd_T31 l0 x15_1).f0.f2))).heap[gb274]? = some (.cells #[.string ((rd_T31 l0 x15_1).f0.f0), .int .i64 ((rd_T31 l0 x15_1).f0.f1), .int .i64 ((rd_T31 l0 x15_1).f0.f2)] 29 (0, 0))) := ⟨by (with_reducible repeat (first | refine blk_drewN ?_ _ | refine blk_drew ?_ | refine blk_alloc ?_ _)); refine blk_put (cs := #[.string ((rd_T31 l0 x15_1).f0.f0), .int .i64 ((rd_T31 l0 x15_1).f0.f1), .int .i64 0]) ?_ 2 _ rfl; (with_reducible repeat (first | refine blk_drewN ?_ _ | refine blk_drew ?_ | refine blk_alloc ?_ _)); refine blk_put (cs := #[.string ((rd_T31 l0 x15_1).f0.f0), .int .i64 0, .int .i64 0]) ?_ 1 _ rfl; (with_reducible repeat (first | refine blk_drewN ?_ _ | refine blk_drew ?_ | refine blk_alloc ?_ _)); refine blk_put (cs := #[.string (⟨#[]⟩ : ByteArray), .int .i64 0, .int .i64 0]) ?_ 0 _ rfl; (with_reducible repeat (first | refine blk_drewN ?_ _ | refine blk_drew ?_ | refine blk_alloc ?_ _)); exact BK274.out⟩
       have n2_ : Aside0 (Below w.heap.size w (((w10.setCell ⟨gb274, 0, none⟩ (.string ((rd_T31 l0 x15_1).f0.f0))).setCell ⟨gb274, 1, none⟩ (.int .i64 ((rd_T31 l0 x15_1).f0.f1))).setCell ⟨gb274, 2, none⟩ (.int .i64 ((rd_T31 l0 x15_1).f0.f2)))) := ⟨by repeat (first | (with_reducible first | exact HB.out | apply below_alloc | apply pw_below_drewN | apply below_drew1 | refine below_set ?_ GE274.out) | exact HB.out | exact Below.refl _ _)⟩
       (try clear HO_13)
       (try clear BK274)
       (try clear HB)
       generalize (((w10.setCell ⟨gb274, 0, none⟩ (.string ((rd_T31 l0 x15_1).f0.f0))).setCell ⟨gb274, 1, none⟩ (.int .i64 ((rd_T31 l0 x15_1).f0.f1))).setCell ⟨gb274, 2, none⟩ (.int .i64 ((rd_T31 l0 x15_1).f0.f2))) = w13 at n0_ n1_ n2_ ⊢
       have HO_13 := n0_
       have BK274 := n1_
       have HB := n2_
       clear n0_ n1_ n2_
       have n0_ := Aside0.mk (Kd.R_drew HO_13.out)
       have n1_ := Aside0.mk (blk_drew BK274.out)
       have n2_ := Aside0.mk (below_drew1 HB.out)
       clear HO_13
       clear BK274
       clear HB
       have HO_13 := n0_
       have BK274 := n1_
       have HB := n2_
       clear n0_ n1_ n2_
       refine start_ (n := 14) (S := fun w' => True) (ds := []) #[false, false, false, false, false, false, false, false, false, false, false, false, false, false] (by kernel_rfl) rfl rfl trivial (fun hHeld => ?_); refine with_tabW iceboxref10_View.tab7 iceboxref10_View.bits7 (fun HT_ HW_ => ?_)
       generalize w13.drew = w14 at HO_13 BK274 HB hHeld ⊢
       refine pure_ (i := 0) (N := some 28) (v := ?_) (a' := ?_) #[true, false, false, false, false, false, false, false, false, false, false, false, false, false] rfl rfl (any_of HT_.out (by kernel_rfl)) (fun _ _ _ h => h) (Or.inl ⟨by rfl, ?_⟩) ?_ ?_
       rotate_left
       ·
        intro w'
        go_simp
        with_reducible rfl
       rotate_left
       ·
        simp only [Act.put, List.setIfInBounds_toArray, List.set_cons_zero, List.set_cons_succ, i64_w, i32_w]
        rfl
       refine pure_ (i := 1) (N := some 29) (v := ?_) (a' := ?_) #[true, true, false, false, false, false, false, false, false, false, false, false, false, false] rfl rfl (any_of HT_.out (by kernel_rfl)) (fun _ _ _ h => h) (Or.inl ⟨by rfl, ?_⟩) ?_ ?_
       rotate_left
       ·
        intro w'
        go_simp
        with_reducible rfl
       rotate_left
       ·
        simp only [Act.put, List.setIfInBounds_toArray, List.set_cons_zero, List.set_cons_succ, i64_w, i32_w]
        rfl
       refine pure_ (i := 2) (N := some 30) (v := ?_) (a' := ?_) #[true, true, true, false, false, false, false, false, false, false, false, false, false, false] rfl rfl (any_of HT_.out (by kernel_rfl)) (fun _ _ _ h => h) (Or.inl ⟨by rfl, ?_⟩) ?_ ?_
       rotate_left
       ·
        intro w'
        go_simp
        with_reducible rfl
       rotate_left
       ·
        simp only [Act.put, List.setIfInBounds_toArray, List.set_cons_zero, List.set_cons_succ, i64_w, i32_w]
        rfl
       refine pure_ (i := 3) (N := some 31) (v := undef) (a' := ?_) #[true, true, true, true, false, false, false, false, false, false, false, false, false, false] rfl rfl (any_of HT_.out (by kernel_rfl)) (fun _ _ _ h => h) (Or.inr ⟨by rfl, rfl⟩) ?_ ?_
       rotate_left
       ·
        simp only [Act.put, List.setIfInBounds_toArray, List.set_cons_zero, List.set_cons_succ, i64_w, i32_w]
        rfl
       refine pure_ (i := 4) (N := some 32) (v := undef) (a' := ?_) #[true, true, true, true, true, false, false, false, false, false, false, false, false, false] rfl rfl (any_of HT_.out (by kernel_rfl)) (fun _ _ _ h => h) (Or.inr ⟨by rfl, rfl⟩) ?_ ?_
       rotate_left
       ·
        simp only [Act.put, List.setIfInBounds_toArray, List.set_cons_zero, List.set_cons_succ, i64_w, i32_w]
        rfl
       refine pure_ (i := 5) (N := some 33) (v := undef) (a' := ?_) #[true, true, true, true, true, true, false, false, false, false, false, false, false, false] rfl rfl (any_of HT_.out (by kernel_rfl)) (fun _ _ _ h => h) (Or.inr ⟨by rfl, rfl⟩) ?_ ?_
       rotate_left
       ·
        simp only [Act.put, List.setIfInBounds_toArray, List.set_cons_zero, List.set_cons_succ, i64_w, i32_w]
        rfl
       refine pure_ (i := 6) (N := some 34) (v := undef) (a' := ?_) #[true, true, true, true, true, true, true, false, false, false, false, false, false, false] rfl rfl (any_of HT_.out (by kernel_rfl)) (fun _ _ _ h => h) (Or.inr ⟨by rfl, rfl⟩) ?_ ?_
       rotate_left
       ·
        simp only [Act.put, List.setIfInBounds_toArray, List.set_cons_zero, List.set_cons_succ, i64_w, i32_w]
        rfl
       refine pure_ (i := 7) (N := some 35) (v := undef) (a' := ?_) #[true, true, true, true, true, true, true, true, false, false, false, false, false, false] rfl rfl (any_of HT_.out (by kernel_rfl)) (fun _ _ _ h => h) (Or.inr ⟨by rfl, rfl⟩) ?_ ?_
       rotate_left
       ·
        simp only [Act.put, List.setIfInBounds_toArray, List.set_cons_zero, List.set_cons_succ, i64_w, i32_w]
        rfl
       refine pure_ (i := 8) (N := some 36) (v := undef) (a' := ?_) #[true, true, true, true, true, true, true, true, true, false, false, false, false, false] rfl rfl (any_of HT_.out (by kernel_rfl)) (fun _ _ _ h => h) (Or.inr ⟨by rfl, rfl⟩) ?_ ?_
       rotate_left
       ·
        simp only [Act.put, List.setIfInBounds_toArray, List.set_cons_zero, List.set_cons_succ, i64_w, i32_w]
        rfl
       refine pure_ (i := 9) (N := some 37) (v := undef) (a' := ?_) #[true, true, true, true, true, true, true, true, true, true, false, false, false, false] rfl rfl (any_of HT_.out (by kernel_rfl)) (fun _ _ _ h => h) (Or.inr ⟨by rfl, rfl⟩) ?_ ?_
       rotate_left
       ·
        simp only [Act.put, List.setIfInBounds_toArray, List.set_cons_zero, List.set_cons_succ, i64_w, i32_w]
        rfl
       refine pure_ (i := 10) (N := some 38) (v := undef) (a' := ?_) #[true, true, true, true, true, true, true, true, true, true, true, false, false, false] rfl rfl (any_of HT_.out (by kernel_rfl)) (fun _ _ _ h => h) (Or.inr ⟨by rfl, rfl⟩) ?_ ?_
       rotate_left
       ·
        simp only [Act.put, List.setIfInBounds_toArray, List.set_cons_zero, List.set_cons_succ, i64_w, i32_w]
        rfl
       refine pure_ (i := 11) (N := some 39) (v := undef) (a' := ?_) #[true, true, true, true, true, true, true, true, true, true, true, true, false, false] rfl rfl (any_of HT_.out (by kernel_rfl)) (fun _ _ _ h => h) (Or.inr ⟨by rfl, rfl⟩) ?_ ?_
       rotate_left
       ·
        simp only [Act.put, List.setIfInBounds_toArray, List.set_cons_zero, List.set_cons_succ, i64_w, i32_w]
        rfl
       refine pure_ (i := 12) (N := some 40) (v := undef) (a' := ?_) #[true, true, true, true, true, true, true, true, true, true, true, true, true, false] rfl rfl (any_of HT_.out (by kernel_rfl)) (fun _ _ _ h => h) (Or.inr ⟨by rfl, rfl⟩) ?_ ?_
       rotate_left
       ·
        simp only [Act.put, List.setIfInBounds_toArray, List.set_cons_zero, List.set_cons_succ, i64_w, i32_w]
        rfl
       refine pure_ (i := 13) (N := some 41) (v := ?_) (a' := ?_) #[true, true, true, true, true, true, true, true, true, true, true, true, true, true] rfl rfl (any_of HT_.out (by kernel_rfl)) (fun _ _ _ h => h) (Or.inl ⟨by rfl, ?_⟩) ?_ ?_
       rotate_left
       ·
        intro w'
        go_simp
        with_reducible rfl
       rotate_left
       ·
        simp only [Act.put, List.setIfInBounds_toArray, List.set_cons_zero, List.set_cons_succ, i64_w, i32_w]
        rfl
       refine done_ (done_of HT_.out (by kernel_rfl)) ?_
       try go_wp2
       go_meet
       case rel => exact ⟨_, (true), (by first | rfl | (simp; done) | (simp [*]; done)), H', ⟨by have := HK1.out; first | omega | exact Nat.le_refl _⟩, ⟨by (with_reducible repeat (first | apply Kd.R_alloc | apply Kd.R_drewN | apply Kd.R_drew)); exact HO_13.out⟩, ⟨by (with_reducible repeat (first | refine blk_drewN ?_ _ | refine blk_drew ?_ | refine blk_alloc ?_ _)); exact BK274.out⟩, ⟨by repeat (first | (with_reducible first | exact HB.out | apply below_alloc | apply pw_below_drewN | apply below_drew1 | refine below_set ?_ GE274.out) | exact HB.out | exact Below.refl _ _)⟩⟩
      ·
       rw [if_neg c12] at H
       have c12b0 : (x15_1 == 0) = false := beq_eq_false_iff_ne.mpr c12
       have c12b1 : (x15_1 != 0) = true := bne_iff_ne.mpr c12
       (first | rw [c12b0] | (simp only [i64_w, i32_w]; rw [c12b0]) | skip)
       obtain ⟨ji15, hji15⟩ : ∃ j_ : Int, (wrap64 (x15_1 - 1)) = j_ := ⟨_, rfl⟩
       replace H : (if 0 ≤ (ji15) then (if (ji15) < (l0.length : Int) then (iceboxref10_View.j1 k1 l0 a1 a2 a3 a4 a5 x13_1 x14_1 x15_1 (((rd_T31 l0 (ji15)).f0.f0).toList != ((rd_T31 l0 x15_1).f0.f0).toList) ((rd_T31 l0 x15_1).f0.f0) ((rd_T31 l0 x15_1).f0.f1) ((rd_T31 l0 x15_1).f0.f2)) else (none)) else (none)) = some r := by first | (rw [hji15] at H; exact H) | (simp only [hji15] at H ⊢; exact H)
       have hji15w : (IntKind.i64.wrap (x15_1 - 1)) = ji15 := (i64_w _).trans hji15
       by_cases c16 : 0 ≤ (ji15)
       ·
        rw [if_pos c16] at H
        have c16b0 : decide (0 ≤ (ji15)) = true := decide_eq_true c16
        clear c16
        by_cases c17 : (ji15) < (l0.length : Int)
        ·
         rw [if_pos c17] at H
         have c17b0 : decide ((ji15) < (l0.length : Int)) = true := decide_eq_true c17
         clear c17
         have H' := Aside0.mk H
         clear H
         try go_wp2
         have n0_ : Aside0 (Kd.R k47 47 (((w10.setCell ⟨gb274, 0, none⟩ (.string ((rd_T31 l0 x15_1).f0.f0))).setCell ⟨gb274, 1, none⟩ (.int .i64 ((rd_T31 l0 x15_1).f0.f1))).setCell ⟨gb274, 2, none⟩ (.int .i64 ((rd_T31 l0 x15_1).f0.f2))) w.heap.size (fun _ => True) u13 x13_1) := ⟨by (with_reducible repeat (first | apply Kd.R_alloc | apply Kd.R_drewN | apply Kd.R_drew)); exact Kd.R_mono (Kd.R_far (p := ⟨gb274, 2, none⟩) (Kd.R_far (p := ⟨gb274, 1, none⟩) (Kd.R_far (p := ⟨gb274, 0, none⟩) (Kd.R_types HO_13.out BK274.out (by decide)) (fun _ hk => hk.2) (.string ((rd_T31 l0 x15_1).f0.f0))) (fun _ hk => hk.2) (.int .i64 ((rd_T31 l0 x15_1).f0.f1))) (fun _ hk => hk.2) (.int .i64 ((rd_T31 l0 x15_1).f0.f2))) (fun _ hk => trivial)⟩
         have n1_ : Aside0 ((((w10.setCell ⟨gb274, 0, none⟩ (.string ((rd_T31 l0 x15_1).f0.f0))).setCell ⟨gb274, 1, none⟩ (.int .i64 ((rd_T31 l0 x15_1).f0.f1))).setCell ⟨gb274, 2, none⟩ (.int .i64 ((rd_T31 l0 x15_1).f0.f2))).heap[gb274]? = some (.cells #[.string ((rd_T31 l0 x15_1).f0.f0), .int .i64 ((rd_T31 l0 x15_1).f0.f1), .int .i64 ((rd_T31 l0 x15_1).f0.f2)] 29 (0, 0))) := ⟨by (with_reducible repeat (first | refine blk_drewN ?_ _ | refine blk_drew ?_ | refine blk_alloc ?_ _)); refine blk_put (cs := #[.string ((rd_T31 l0 x15_1).f0.f0), .int .i64 ((rd_T31 l0 x15_1).f0.f1), .int .i64 0]) ?_ 2 _ rfl; (with_reducible repeat (first | refine blk_drewN ?_ _ | refine blk_drew ?_ | refine blk_alloc ?_ _)); refine blk_put (cs := #[.string ((rd_T31 l0 x15_1).f0.f0), .int .i64 0, .int .i64 0]) ?_ 1 _ rfl; (with_reducible repeat (first | refine blk_drewN ?_ _ | refine blk_drew ?_ | refine blk_alloc ?_ _)); refine blk_put (cs := #[.string (⟨#[]⟩ : ByteArray), .int .i64 0, .int .i64 0]) ?_ 0 _ rfl; (with_reducible repeat (first | refine blk_drewN ?_ _ | refine blk_drew ?_ | refine blk_alloc ?_ _)); exact BK274.out⟩
         have n2_ : Aside0 (Below w.heap.size w (((w10.setCell ⟨gb274, 0, none⟩ (.string ((rd_T31 l0 x15_1).f0.f0))).setCell ⟨gb274, 1, none⟩ (.int .i64 ((rd_T31 l0 x15_1).f0.f1))).setCell ⟨gb274, 2, none⟩ (.int .i64 ((rd_T31 l0 x15_1).f0.f2)))) := ⟨by repeat (first | (with_reducible first | exact HB.out | apply below_alloc | apply pw_below_drewN | apply below_drew1 | refine below_set ?_ GE274.out) | exact HB.out | exact Below.refl _ _)⟩
         (try clear HO_13)
         (try clear BK274)
         (try clear HB)
         generalize (((w10.setCell ⟨gb274, 0, none⟩ (.string ((rd_T31 l0 x15_1).f0.f0))).setCell ⟨gb274, 1, none⟩ (.int .i64 ((rd_T31 l0 x15_1).f0.f1))).setCell ⟨gb274, 2, none⟩ (.int .i64 ((rd_T31 l0 x15_1).f0.f2))) = w18 at n0_ n1_ n2_ ⊢
         have HO_13 := n0_
         have BK274 := n1_
         have HB := n2_
         clear n0_ n1_ n2_
         have n0_ := Aside0.mk (Kd.R_drew HO_13.out)
         have n1_ := Aside0.mk (blk_drew BK274.out)
         have n2_ := Aside0.mk (below_drew1 HB.out)
         clear HO_13
         clear BK274
         clear HB
         have HO_13 := n0_
         have BK274 := n1_
         have HB := n2_
         clear n0_ n1_ n2_
         have p275 : 0 ≤ ((ji15) : Int) := of_decide_eq_true (by first | (with_reducible assumption) | assumption)
         have q275 : (ji15) < (l0.length : Int) := of_decide_eq_true (by first | (with_reducible assumption) | assumption)
         obtain ⟨ad275, e275, hx275_0, hx275_1, hx275_2, hx275_3⟩ := at_T31 HR0.out (ji15) p275 q275
         have hw275_3 := hx275_3
         have hw275_2 := hx275_2
         have hw275_1 := hx275_1
         have hw275_0 := hx275_0
         obtain rfl : ad273 = ad275 := (by injection e275)
         replace hx275_0 := (HB.out.cell (World.block_lt_of_cell? w _ hx275_0)).trans hx275_0
         replace hx275_1 := (HB.out.cell (World.block_lt_of_cell? w _ hx275_1)).trans hx275_1
         replace hx275_2 := (HB.out.cell (World.block_lt_of_cell? w _ hx275_2)).trans hx275_2
         replace hx275_3 := (HB.out.cell (World.block_lt_of_cell? w _ hx275_3)).trans hx275_3
         replace p275 := eq_true p275
         replace q275 := eq_true q275
         refine start_ (n := 14) (S := fun w' => w'.cell? ⟨gb274, 0, none⟩ = some (.string ((rd_T31 l0 x15_1).f0.f0)) ∧ w'.cell? ⟨gb274, 1, none⟩ = some (.int .i64 ((rd_T31 l0 x15_1).f0.f1)) ∧ w'.cell? ⟨gb274, 2, none⟩ = some (.int .i64 ((rd_T31 l0 x15_1).f0.f2)) ∧ w'.cell? (ad273.add (((ji15)).toNat * 4)) = some (.string ((rd_T31 l0 (ji15)).f0.f0)) ∧ w'.cell? ⟨(ad273.add (((ji15)).toNat * 4)).block, (ad273.add (((ji15)).toNat * 4)).off + 1, none⟩ = some (.int .i64 ((rd_T31 l0 (ji15)).f0.f1)) ∧ w'.cell? ⟨(ad273.add (((ji15)).toNat * 4)).block, (ad273.add (((ji15)).toNat * 4)).off + 2, none⟩ = some (.int .i64 ((rd_T31 l0 (ji15)).f0.f2)) ∧ w'.cell? ⟨(ad273.add (((ji15)).toNat * 4)).block, (ad273.add (((ji15)).toNat * 4)).off + 3, none⟩ = some (.string ((rd_T31 l0 (ji15)).f1))) (ds := []) #[false, false, false, false, false, false, false, false, false, false, false, false, false, false] (by kernel_rfl) rfl rfl ⟨(blk_cell BK274.out 0).trans rfl, (blk_cell BK274.out 1).trans rfl, (blk_cell BK274.out 2).trans rfl, ((HB.out.cell (World.block_lt_of_cell? w _ hw275_0)).trans hw275_0), ((HB.out.cell (World.block_lt_of_cell? w _ hw275_1)).trans hw275_1), ((HB.out.cell (World.block_lt_of_cell? w _ hw275_2)).trans hw275_2), ((HB.out.cell (World.block_lt_of_cell? w _ hw275_3)).trans hw275_3)⟩ (fun hHeld => ?_); refine with_tabW iceboxref10_View.tab7 iceboxref10_View.bits7 (fun HT_ HW_ => ?_)
         generalize w18.drew = w19 at HO_13 BK274 HB hx275_0 hx275_1 hx275_2 hx275_3 hHeld ⊢
         refine pure_ (i := 0) (N := some 28) (v := ?_) (a' := ?_) #[true, false, false, false, false, false, false, false, false, false, false, false, false, false] rfl rfl (any_of HT_.out (by kernel_rfl)) (fun _ _ _ h => h) (Or.inl ⟨by rfl, ?_⟩) ?_ ?_
         rotate_left
         ·
          intro w'
          go_simp
          with_reducible rfl
         rotate_left
         ·
          simp only [Act.put, List.setIfInBounds_toArray, List.set_cons_zero, List.set_cons_succ, i64_w, i32_w]
          rfl
         refine pure_ (i := 1) (N := some 29) (v := ?_) (a' := ?_) #[true, true, false, false, false, false, false, false, false, false, false, false, false, false] rfl rfl (any_of HT_.out (by kernel_rfl)) (fun _ _ _ h => h) (Or.inl ⟨by rfl, ?_⟩) ?_ ?_
         rotate_left
         ·
          intro w'
          go_simp
          with_reducible rfl
         rotate_left
         ·
          simp only [Act.put, List.setIfInBounds_toArray, List.set_cons_zero, List.set_cons_succ, i64_w, i32_w]
          rfl
         refine pure_ (i := 2) (N := some 30) (v := ?_) (a' := ?_) #[true, true, true, false, false, false, false, false, false, false, false, false, false, false] rfl rfl (any_of HT_.out (by kernel_rfl)) (fun _ _ _ h => h) (Or.inl ⟨by rfl, ?_⟩) ?_ ?_
         rotate_left
         ·
          intro w'
          go_simp
          with_reducible rfl
         rotate_left
         ·
          simp only [Act.put, List.setIfInBounds_toArray, List.set_cons_zero, List.set_cons_succ, i64_w, i32_w]
          rfl
         refine pure_ (i := 3) (N := some 31) (v := ?_) (a' := ?_) #[true, true, true, true, false, false, false, false, false, false, false, false, false, false] rfl rfl (any_of HT_.out (by kernel_rfl)) (fun _ _ _ h => h) (Or.inl ⟨by rfl, ?_⟩) ?_ ?_
         rotate_left
         ·
          intro w'
          go_simp
          with_reducible rfl
         rotate_left
         ·
          simp only [Act.put, List.setIfInBounds_toArray, List.set_cons_zero, List.set_cons_succ, i64_w, i32_w]
          rfl
         refine pure_ (i := 4) (N := some 32) (v := ?_) (a' := ?_) #[true, true, true, true, true, false, false, false, false, false, false, false, false, false] rfl rfl (any_of HT_.out (by kernel_rfl)) (fun _ _ _ h => h) (Or.inl ⟨by rfl, ?_⟩) ?_ ?_
         rotate_left
         ·
          intro w'
          go_simp
          with_reducible rfl
         rotate_left
         ·
          simp only [Act.put, List.setIfInBounds_toArray, List.set_cons_zero, List.set_cons_succ, i64_w, i32_w]
          rfl
         refine pure_ (i := 5) (N := some 33) (v := ?_) (a' := ?_) #[true, true, true, true, true, true, false, false, false, false, false, false, false, false] rfl rfl (any_of HT_.out (by kernel_rfl)) (fun _ _ _ h => h) (Or.inl ⟨by rfl, ?_⟩) ?_ ?_
         rotate_left
         ·
          intro w'
          go_simp
          with_reducible rfl
         rotate_left
         ·
          simp only [Act.put, List.setIfInBounds_toArray, List.set_cons_zero, List.set_cons_succ, i64_w, i32_w]
          rfl
         refine pure_ (i := 6) (N := some 34) (v := ?_) (a' := ?_) #[true, true, true, true, true, true, true, false, false, false, false, false, false, false] rfl rfl (any_of HT_.out (by kernel_rfl)) (fun _ _ _ h => h) (Or.inl ⟨by rfl, ?_⟩) ?_ ?_
         rotate_left
         ·
          intro w'
          go_simp
          with_reducible rfl
         rotate_left
         ·
          simp only [Act.put, List.setIfInBounds_toArray, List.set_cons_zero, List.set_cons_succ, i64_w, i32_w]
          rfl
         refine pure_ (i := 7) (N := some 35) (v := ?_) (a' := ?_) #[true, true, true, true, true, true, true, true, false, false, false, false, false, false] rfl rfl (any_of HT_.out (by kernel_rfl)) (fun _ _ _ h => h) (Or.inl ⟨by rfl, ?_⟩) ?_ ?_
         rotate_left
         ·
          intro w'
          go_simp
          with_reducible rfl
         rotate_left
         ·
          simp only [Act.put, List.setIfInBounds_toArray, List.set_cons_zero, List.set_cons_succ, i64_w, i32_w]
          rfl
         refine pure_ (i := 8) (N := some 36) (v := ?_) (a' := ?_) #[true, true, true, true, true, true, true, true, true, false, false, false, false, false] rfl rfl (any_of HT_.out (by kernel_rfl)) (fun _ _ _ h => h) (Or.inl ⟨by rfl, ?_⟩) ?_ ?_
         rotate_left
         ·
          intro w'
          go_simp
          with_reducible rfl
         rotate_left
         ·
          simp only [Act.put, List.setIfInBounds_toArray, List.set_cons_zero, List.set_cons_succ, i64_w, i32_w]
          rfl
         refine pure_ (i := 10) (N := some 38) (v := ?_) (a' := ?_) #[true, true, true, true, true, true, true, true, true, false, true, false, false, false] rfl rfl (any_of HT_.out (by kernel_rfl)) (fun _ _ _ h => h) (Or.inl ⟨by rfl, ?_⟩) ?_ ?_
         rotate_left
         ·
          intro w'
          go_simp
          with_reducible rfl
         rotate_left
         ·
          simp only [Act.put, List.setIfInBounds_toArray, List.set_cons_zero, List.set_cons_succ, i64_w, i32_w]
          rfl
         refine take_ (i := 9) (N := some 37) (v := ?_) (a' := ?_) #[true, true, true, true, true, true, true, true, true, true, true, false, false, false] rfl rfl (take_ofW HT_.out HW_.out (by kernel_rfl)) (fun _ _ _ h => h) (Or.inl ⟨by rfl, ?_⟩) hHeld ?_ ?_
         rotate_left
         ·
          rintro w' ⟨s0, s1, s2, s3, s4, s5, s6⟩
          go_simp
          with_reducible rfl
         rotate_left
         ·
          simp only [Act.put, List.setIfInBounds_toArray, List.set_cons_zero, List.set_cons_succ, i64_w, i32_w]
          rfl
         refine take_ (i := 11) (N := some 39) (v := ?_) (a' := ?_) #[true, true, true, true, true, true, true, true, true, true, true, true, false, false] rfl rfl (take_ofW HT_.out HW_.out (by kernel_rfl)) (fun _ _ _ h => h) (Or.inl ⟨by rfl, ?_⟩) hHeld ?_ ?_
         rotate_left
         ·
          rintro w' ⟨s0, s1, s2, s3, s4, s5, s6⟩
          go_simp
          with_reducible rfl
         rotate_left
         ·
          simp only [Act.put, List.setIfInBounds_toArray, List.set_cons_zero, List.set_cons_succ, i64_w, i32_w]
          rfl
         refine pure_ (i := 12) (N := some 40) (v := ?_) (a' := ?_) #[true, true, true, true, true, true, true, true, true, true, true, true, true, false] rfl rfl (any_of HT_.out (by kernel_rfl)) (fun _ _ _ h => h) (Or.inl ⟨by rfl, ?_⟩) ?_ ?_
         rotate_left
         ·
          intro w'
          go_simp
          with_reducible rfl
         rotate_left
         ·
          simp only [Act.put, List.setIfInBounds_toArray, List.set_cons_zero, List.set_cons_succ, i64_w, i32_w]
          rfl
         refine pure_ (i := 13) (N := some 41) (v := ?_) (a' := ?_) #[true, true, true, true, true, true, true, true, true, true, true, true, true, true] rfl rfl (any_of HT_.out (by kernel_rfl)) (fun _ _ _ h => h) (Or.inl ⟨by rfl, ?_⟩) ?_ ?_
         rotate_left
         ·
          intro w'
          go_simp
          with_reducible rfl
         rotate_left
         ·
          simp only [Act.put, List.setIfInBounds_toArray, List.set_cons_zero, List.set_cons_succ, i64_w, i32_w]
          rfl
         refine done_ (done_of HT_.out (by kernel_rfl)) ?_
         try go_wp2
         go_meet
         case rel => exact ⟨_, ((((rd_T31 l0 (ji15)).f0.f0).toList != ((rd_T31 l0 x15_1).f0.f0).toList)), (by first | rfl | (simp; done) | (simp only [← hji15] <;> (first | rfl | simp)) | (simp [*]; done)), (by first | exact H' | (simp only [hji15]; exact H')), ⟨by have := HK1.out; first | omega | exact Nat.le_refl _⟩, ⟨by (with_reducible repeat (first | apply Kd.R_alloc | apply Kd.R_drewN | apply Kd.R_drew)); exact HO_13.out⟩, ⟨by (with_reducible repeat (first | refine blk_drewN ?_ _ | refine blk_drew ?_ | refine blk_alloc ?_ _)); exact BK274.out⟩, ⟨by repeat (first | (with_reducible first | exact HB.out | apply below_alloc | apply pw_below_drewN | apply below_drew1 | refine below_set ?_ GE274.out) | exact HB.out | exact Below.refl _ _)⟩⟩
        ·
         rw [if_neg c17] at H
         exact absurd H (by simp)
       ·
        rw [if_neg c16] at H
        exact absurd H (by simp)
     case rest =>
      as_aux_lemma =>
       clear HC9
       obtain ⟨kq, x41_8, rfl, HA, HJ8, HO_13, BK274, HB⟩ := hcut
       cases kq with
       | zero => exact absurd HA.out (by simp [iceboxref10_View.j1])
       | succ kj8 =>
        have H := HA.out
        clear HA
        simp only [iceboxref10_View.j1] at H
        have HC20 := Aside0.mk H
        clear H
        go_upto_if 41 with (fail)
        go_cut [14] (fun v14 wc => ∃ (kq : Nat) (x14_19 : Bool), v14 = .bool x14_19 ∧ Aside0 (iceboxref10_View.j2 kq l0 a1 a2 a3 a4 a5 x13_1 x14_19 x15_1 ((rd_T31 l0 x15_1).f0.f0) ((rd_T31 l0 x15_1).f0.f1) ((rd_T31 l0 x15_1).f0.f2) = some r) ∧ Aside0 (kq ≤ kj8) ∧ Aside0 (Kd.R k47 47 wc w.heap.size (fun _ => True) u13 x13_1) ∧ Aside0 (wc.heap[gb274]? = some (.cells #[.string ((rd_T31 l0 x15_1).f0.f0), .int .i64 ((rd_T31 l0 x15_1).f0.f1), .int .i64 ((rd_T31 l0 x15_1).f0.f2)] 29 (0, 0))) ∧ Aside0 (Below w.heap.size w wc))
        case first =>
         have H := HC20.out
         clear HC20
         by_cases c21 : x41_8 = true
         ·
          subst c21
          have H1 : (iceboxref10_View.j2 kj8 l0 a1 a2 a3 a4 a5 x13_1 false x15_1 ((rd_T31 l0 x15_1).f0.f0) ((rd_T31 l0 x15_1).f0.f1) ((rd_T31 l0 x15_1).f0.f2)) = some r := by rw [if_pos rfl] at H; exact H
          clear H
          have H := H1
          clear H1
          have H' := Aside0.mk H
          clear H
          go_wp2
          go_meet
          case rel => exact ⟨_, (false), (by first | rfl | (simp; done) | (simp [*]; done)), H', ⟨by have := HK1.out; have := HJ8.out; first | omega | exact Nat.le_refl _⟩, ⟨by (with_reducible repeat (first | apply Kd.R_alloc | apply Kd.R_drewN | apply Kd.R_drew)); exact HO_13.out⟩, ⟨by (with_reducible repeat (first | refine blk_drewN ?_ _ | refine blk_drew ?_ | refine blk_alloc ?_ _)); exact BK274.out⟩, ⟨by repeat (first | (with_reducible first | exact HB.out | apply below_alloc | apply pw_below_drewN | apply below_drew1 | refine below_set ?_ GE274.out) | exact HB.out | exact Below.refl _ _)⟩⟩
         ·
          replace c21 := Bool.eq_false_iff.mpr c21
          subst c21
          have H1 : (iceboxref10_View.j2 kj8 l0 a1 a2 a3 a4 a5 x13_1 x14_1 x15_1 ((rd_T31 l0 x15_1).f0.f0) ((rd_T31 l0 x15_1).f0.f1) ((rd_T31 l0 x15_1).f0.f2)) = some r := by rw [if_neg (show ¬ (false = true) by decide)] at H; exact H
          clear H
          have H := H1
          clear H1
          have H' := Aside0.mk H
          clear H
          go_wp2
          go_meet
          case rel => exact ⟨_, (x14_1), (by first | rfl | (simp; done) | (simp [*]; done)), H', ⟨by have := HK1.out; have := HJ8.out; first | omega | exact Nat.le_refl _⟩, ⟨by (with_reducible repeat (first | apply Kd.R_alloc | apply Kd.R_drewN | apply Kd.R_drew)); exact HO_13.out⟩, ⟨by (with_reducible repeat (first | refine blk_drewN ?_ _ | refine blk_drew ?_ | refine blk_alloc ?_ _)); exact BK274.out⟩, ⟨by repeat (first | (with_reducible first | exact HB.out | apply below_alloc | apply pw_below_drewN | apply below_drew1 | refine below_set ?_ GE274.out) | exact HB.out | exact Below.refl _ _)⟩⟩
        case rest =>
         as_aux_lemma =>
          clear HC20
          obtain ⟨kq, x14_19, rfl, HA, HJ19, HO_13, BK274, HB⟩ := hcut
          cases kq with
          | zero => exact absurd HA.out (by simp [iceboxref10_View.j2])
          | succ kj19 =>
           have H := HA.out
           clear HA
           simp only [iceboxref10_View.j2] at H
           have HC22 := Aside0.mk H
           clear H
           go_upto_region 9 with (fail)
           go_cut [64] (fun v64 wc => ∃ (kq : Nat) (x64_21 : Bool), v64 = .bool x64_21 ∧ Aside0 (iceboxref10_View.j3 kq l0 a1 a2 a3 a4 a5 x13_1 x14_19 x15_1 x64_21 ((rd_T31 l0 x15_1).f0.f0) ((rd_T31 l0 x15_1).f0.f1) ((rd_T31 l0 x15_1).f0.f2) = some r) ∧ Aside0 (kq ≤ kj19) ∧ Aside0 (Kd.R k47 47 wc w.heap.size (fun _ => True) u13 x13_1) ∧ Aside0 (wc.heap[gb274]? = some (.cells #[.string ((rd_T31 l0 x15_1).f0.f0), .int .i64 ((rd_T31 l0 x15_1).f0.f1), .int .i64 ((rd_T31 l0 x15_1).f0.f2)] 29 (0, 0))) ∧ Aside0 (Below w.heap.size w wc))
           case first =>
            have H := HC22.out
            clear HC22
            by_cases c23 : x14_19 = true
            ·
             subst c23
             have H1 : (iceboxref10_View.j3 kj19 l0 a1 a2 a3 a4 a5 x13_1 true x15_1 true ((rd_T31 l0 x15_1).f0.f0) ((rd_T31 l0 x15_1).f0.f1) ((rd_T31 l0 x15_1).f0.f2)) = some r := by rw [if_pos rfl] at H; exact H
             clear H
             have H := H1
             clear H1
             have H' := Aside0.mk H
             clear H
             go_wp2
             go_meet
             case rel => exact ⟨_, (true), (by first | rfl | (simp; done) | (simp [*]; done)), H', ⟨by have := HK1.out; have := HJ8.out; have := HJ19.out; first | omega | exact Nat.le_refl _⟩, ⟨by (with_reducible repeat (first | apply Kd.R_alloc | apply Kd.R_drewN | apply Kd.R_drew)); exact HO_13.out⟩, ⟨by (with_reducible repeat (first | refine blk_drewN ?_ _ | refine blk_drew ?_ | refine blk_alloc ?_ _)); exact BK274.out⟩, ⟨by repeat (first | (with_reducible first | exact HB.out | apply below_alloc | apply pw_below_drewN | apply below_drew1 | refine below_set ?_ GE274.out) | exact HB.out | exact Below.refl _ _)⟩⟩
            ·
             replace c23 := Bool.eq_false_iff.mpr c23
             subst c23
             have H1 : (if ((rd_T31 l0 x15_1).f0.f1) > a1 then (iceboxref10_View.j3 kj19 l0 a1 a2 a3 a4 a5 x13_1 false x15_1 true ((rd_T31 l0 x15_1).f0.f0) ((rd_T31 l0 x15_1).f0.f1) ((rd_T31 l0 x15_1).f0.f2)) else (if (Op.bytesLess ((rd_T31 l0 x15_1).f0.f0).toList a2.toList) = true then (iceboxref10_View.j3 kj19 l0 a1 a2 a3 a4 a5 x13_1 false x15_1 true ((rd_T31 l0 x15_1).f0.f0) ((rd_T31 l0 x15_1).f0.f1) ((rd_T31 l0 x15_1).f0.f2)) else (if a3.toList = ([] : List UInt8) then (iceboxref10_View.j3 kj19 l0 a1 a2 a3 a4 a5 x13_1 false x15_1 false ((rd_T31 l0 x15_1).f0.f0) ((rd_T31 l0 x15_1).f0.f1) ((rd_T31 l0 x15_1).f0.f2)) else (iceboxref10_View.j3 kj19 l0 a1 a2 a3 a4 a5 x13_1 false x15_1 (!(Op.bytesLess ((rd_T31 l0 x15_1).f0.f0).toList a3.toList)) ((rd_T31 l0 x15_1).f0.f0) ((rd_T31 l0 x15_1).f0.f1) ((rd_T31 l0 x15_1).f0.f2))))) = some r := by rw [if_neg (show ¬ (false = true) by decide)] at H; exact H
             clear H
             have H := H1
             clear H1
             by_cases c24 : ((rd_T31 l0 x15_1).f0.f1) > a1
             ·
              rw [if_pos c24] at H
              have c24b0 : decide (a1 < ((rd_T31 l0 x15_1).f0.f1)) = true := decide_eq_true c24
              clear c24
              (first | rw [c24b0] | (simp only [i64_w, i32_w]; rw [c24b0]) | skip)
              have H' := Aside0.mk H
              clear H
              have hcz25_0 : wc.cell? ⟨gb274, 0, none⟩ = some (.string ((rd_T31 l0 x15_1).f0.f0)) := (blk_cell BK274.out 0).trans rfl
              have hcz25_1 : wc.cell? ⟨gb274, 1, none⟩ = some (.int .i64 ((rd_T31 l0 x15_1).f0.f1)) := (blk_cell BK274.out 1).trans rfl
              have hcz25_2 : wc.cell? ⟨gb274, 2, none⟩ = some (.int .i64 ((rd_T31 l0 x15_1).f0.f2)) := (blk_cell BK274.out 2).trans rfl
              have hfz25_0 := blk_frozen BK274.out 0
              have hfz25_1 := blk_frozen BK274.out 1
              have hfz25_2 := blk_frozen BK274.out 2
              go_wp2
              go_meet
              case rel => exact ⟨_, (true), (by first | rfl | (simp; done) | (simp [*]; done)), H', ⟨by have := HK1.out; have := HJ8.out; have := HJ19.out; first | omega | exact Nat.le_refl _⟩, ⟨by (with_reducible repeat (first | apply Kd.R_alloc | apply Kd.R_drewN | apply Kd.R_drew)); exact HO_13.out⟩, ⟨by (with_reducible repeat (first | refine blk_drewN ?_ _ | refine blk_drew ?_ | refine blk_alloc ?_ _)); exact BK274.out⟩, ⟨by repeat (first | (with_reducible first | exact HB.out | apply below_alloc | apply pw_below_drewN | apply below_drew1 | refine below_set ?_ GE274.out) | exact HB.out | exact Below.refl _ _)⟩⟩
             ·
              rw [if_neg c24] at H
              have c24b0 : decide (a1 < ((rd_T31 l0 x15_1).f0.f1)) = false := decide_eq_false c24
              clear c24
              (first | rw [c24b0] | (simp only [i64_w, i32_w]; rw [c24b0]) | skip)
              by_cases c26 : (Op.bytesLess ((rd_T31 l0 x15_1).f0.f0).toList a2.toList) = true
              ·
               rw [if_pos c26] at H
               have c26b0 : (Op.bytesLess ((rd_T31 l0 x15_1).f0.f0).toList a2.toList) = true := c26
               (try (have c26b1 : (((rd_T31 l0 x15_1).f0.f0).toList == a2.toList) = false := bl_ne c26))
               (try (have c26b2 : (a2.toList == ((rd_T31 l0 x15_1).f0.f0).toList) = false := bl_ne2 c26))
               clear c26
               have H' := Aside0.mk H
               clear H
               have hcz27_0 : wc.cell? ⟨gb274, 0, none⟩ = some (.string ((rd_T31 l0 x15_1).f0.f0)) := (blk_cell BK274.out 0).trans rfl
               have hcz27_1 : wc.cell? ⟨gb274, 1, none⟩ = some (.int .i64 ((rd_T31 l0 x15_1).f0.f1)) := (blk_cell BK274.out 1).trans rfl
               have hcz27_2 : wc.cell? ⟨gb274, 2, none⟩ = some (.int .i64 ((rd_T31 l0 x15_1).f0.f2)) := (blk_cell BK274.out 2).trans rfl
               have hfz27_0 := blk_frozen BK274.out 0
               have hfz27_1 := blk_frozen BK274.out 1
               have hfz27_2 := blk_frozen BK274.out 2
               go_wp2
               go_meet
               case rel => exact ⟨_, (true), (by first | rfl | (simp; done) | (simp [*]; done)), H', ⟨by have := HK1.out; have := HJ8.out; have := HJ19.out; first | omega | exact Nat.le_refl _⟩, ⟨by (with_reducible repeat (first | apply Kd.R_alloc | apply Kd.R_drewN | apply Kd.R_drew)); exact HO_13.out⟩, ⟨by (with_reducible repeat (first | refine blk_drewN ?_ _ | refine blk_drew ?_ | refine blk_alloc ?_ _)); exact BK274.out⟩, ⟨by repeat (first | (with_reducible first | exact HB.out | apply below_alloc | apply pw_below_drewN | apply below_drew1 | refine below_set ?_ GE274.out) | exact HB.out | exact Below.refl _ _)⟩⟩
              ·
               rw [if_neg c26] at H
               have c26b0 : (Op.bytesLess ((rd_T31 l0 x15_1).f0.f0).toList a2.toList) = false := by simpa using c26
               (try (have c26b1 : (((rd_T31 l0 x15_1).f0.f0).toList == a2.toList) = true := bl_eq (by assumption) (by assumption)))
               (try (have c26b2 : (a2.toList == ((rd_T31 l0 x15_1).f0.f0).toList) = true := bl_eq (by assumption) (by assumption)))
               clear c26
               by_cases c28 : a3.toList = ([] : List UInt8)
               ·
                rw [if_pos c28] at H
                have c28b0 : (a3.toList == ([] : List UInt8)) = true := beq_iff_eq.mpr c28
                have c28b1 : (a3.toList != ([] : List UInt8)) = false := bne_eq_false_iff_eq.mpr c28
                clear c28
                have H' := Aside0.mk H
                clear H
                have hcz29_0 : wc.cell? ⟨gb274, 0, none⟩ = some (.string ((rd_T31 l0 x15_1).f0.f0)) := (blk_cell BK274.out 0).trans rfl
                have hcz29_1 : wc.cell? ⟨gb274, 1, none⟩ = some (.int .i64 ((rd_T31 l0 x15_1).f0.f1)) := (blk_cell BK274.out 1).trans rfl
                have hcz29_2 : wc.cell? ⟨gb274, 2, none⟩ = some (.int .i64 ((rd_T31 l0 x15_1).f0.f2)) := (blk_cell BK274.out 2).trans rfl
                have hfz29_0 := blk_frozen BK274.out 0
                have hfz29_1 := blk_frozen BK274.out 1
                have hfz29_2 := blk_frozen BK274.out 2
                go_wp2
                go_meet
                case rel => exact ⟨_, (false), (by first | rfl | (simp; done) | (simp [*]; done)), H', ⟨by have := HK1.out; have := HJ8.out; have := HJ19.out; first | omega | exact Nat.le_refl _⟩, ⟨by (with_reducible repeat (first | apply Kd.R_alloc | apply Kd.R_drewN | apply Kd.R_drew)); exact HO_13.out⟩, ⟨by (with_reducible repeat (first | refine blk_drewN ?_ _ | refine blk_drew ?_ | refine blk_alloc ?_ _)); exact BK274.out⟩, ⟨by repeat (first | (with_reducible first | exact HB.out | apply below_alloc | apply pw_below_drewN | apply below_drew1 | refine below_set ?_ GE274.out) | exact HB.out | exact Below.refl _ _)⟩⟩
               ·
                rw [if_neg c28] at H
                have c28b0 : (a3.toList == ([] : List UInt8)) = false := beq_eq_false_iff_ne.mpr c28
                have c28b1 : (a3.toList != ([] : List UInt8)) = true := bne_iff_ne.mpr c28
                have H' := Aside0.mk H
                clear H
                have hcz30_0 : wc.cell? ⟨gb274, 0, none⟩ = some (.string ((rd_T31 l0 x15_1).f0.f0)) := (blk_cell BK274.out 0).trans rfl
                have hcz30_1 : wc.cell? ⟨gb274, 1, none⟩ = some (.int .i64 ((rd_T31 l0 x15_1).f0.f1)) := (blk_cell BK274.out 1).trans rfl
                have hcz30_2 : wc.cell? ⟨gb274, 2, none⟩ = some (.int .i64 ((rd_T31 l0 x15_1).f0.f2)) := (blk_cell BK274.out 2).trans rfl
                have hfz30_0 := blk_frozen BK274.out 0
                have hfz30_1 := blk_frozen BK274.out 1
                have hfz30_2 := blk_frozen BK274.out 2
                go_wp2
                go_meet
                case rel => exact ⟨_, (!(Op.bytesLess ((rd_T31 l0 x15_1).f0.f0).toList a3.toList)), (by first | rfl | (simp; done) | (simp [*]; done)), H', ⟨by have := HK1.out; have := HJ8.out; have := HJ19.out; first | omega | exact Nat.le_refl _⟩, ⟨by (with_reducible repeat (first | apply Kd.R_alloc | apply Kd.R_drewN | apply Kd.R_drew)); exact HO_13.out⟩, ⟨by (with_reducible repeat (first | refine blk_drewN ?_ _ | refine blk_drew ?_ | refine blk_alloc ?_ _)); exact BK274.out⟩, ⟨by repeat (first | (with_reducible first | exact HB.out | apply below_alloc | apply pw_below_drewN | apply below_drew1 | refine below_set ?_ GE274.out) | exact HB.out | exact Below.refl _ _)⟩⟩
           case rest =>
            as_aux_lemma =>
             clear HC22
             obtain ⟨kq, x64_21, rfl, HA, HJ21, HO_13, BK274, HB⟩ := hcut
             cases kq with
             | zero => exact absurd HA.out (by simp [iceboxref10_View.j3])
             | succ kj21 =>
              have H := HA.out
              clear HA
              simp only [iceboxref10_View.j3] at H
              by_cases c31 : x64_21 = true
              ·
               subst c31
               have H1 : (iceboxref10_View.l0 kj21 l0 a1 a2 a3 a4 a5 x13_1 x14_19 (wrap64 (x15_1 + 1))) = some r := by rw [if_pos rfl] at H; exact H
               clear H
               have H := H1
               clear H1
               have H' := Aside0.mk H
               clear H
               go_wp2
               go_roundg kj21
               case measure => have := HK1.out; have := HJ8.out; have := HJ19.out; have := HJ21.out; omega
               case rel => exact ⟨(x13_1), (x14_19), (wrap64 (x15_1 + 1)), (by first | rfl | (simp; done) | (simp [*]; done)), (by first | rfl | (simp; done) | (simp [*]; done)), H', ⟨by have := HK1.out; have := HJ8.out; have := HJ19.out; have := HJ21.out; omega⟩, ⟨by (with_reducible repeat (first | apply Kd.R_alloc | apply Kd.R_drewN | apply Kd.R_drew)); exact HO_13.out⟩, ⟨by repeat (first | (with_reducible first | exact HB.out | apply below_alloc | apply pw_below_drewN | apply below_drew1 | refine below_set ?_ GE274.out) | exact HB.out | exact Below.refl _ _)⟩⟩
              ·
               replace c31 := Bool.eq_false_iff.mpr c31
               subst c31
               have H1 : (if ((rd_T31 l0 x15_1).f0.f2) = 1 then (if 0 ≤ x15_1 then (if x15_1 < (l0.length : Int) then (if x13_1.length < 4398046511104 then (iceboxref10_View.l0 kj21 l0 a1 a2 a3 a4 a5 (x13_1 ++ [(⟨((rd_T31 l0 x15_1).f0.f0), (rd_T31 l0 x15_1).f1⟩ : S47)]) true (wrap64 (x15_1 + 1))) else (none)) else (none)) else (none)) else (iceboxref10_View.l0 kj21 l0 a1 a2 a3 a4 a5 x13_1 true (wrap64 (x15_1 + 1)))) = some r := by rw [if_neg (show ¬ (false = true) by decide)] at H; exact H
               clear H
               have H := H1
               clear H1
               by_cases c32 : ((rd_T31 l0 x15_1).f0.f2) = 1
               ·
                rw [if_pos c32] at H
                have c32b0 : (((rd_T31 l0 x15_1).f0.f2) == 1) = true := beq_iff_eq.mpr c32
                have c32b1 : (((rd_T31 l0 x15_1).f0.f2) != 1) = false := bne_eq_false_iff_eq.mpr c32
                clear c32
                by_cases c33 : 0 ≤ x15_1
                ·
                 rw [if_pos c33] at H
                 have c33b0 : decide (0 ≤ x15_1) = true := decide_eq_true c33
                 clear c33
                 by_cases c34 : x15_1 < (l0.length : Int)
                 ·
                  rw [if_pos c34] at H
                  have c34b0 : decide (x15_1 < (l0.length : Int)) = true := decide_eq_true c34
                  clear c34
                  by_cases c35 : x13_1.length < 4398046511104
                  ·
                   rw [if_pos c35] at H
                   have LMc35 := Aside0.mk c35
                   clear c35
                   obtain ⟨y277, hy277⟩ : ∃ y_ : List (S47), y_ = (x13_1 ++ [(⟨((rd_T31 l0 x15_1).f0.f0), (rd_T31 l0 x15_1).f1⟩ : S47)]) := ⟨_, rfl⟩
                   replace H : (iceboxref10_View.l0 kj21 l0 a1 a2 a3 a4 a5 y277 true (wrap64 (x15_1 + 1))) = some r := by first | (rw [hy277]; with_reducible exact H) | (have H2_ := (Option.bind_some _ _).symm.trans H; rw [hy277]; with_reducible exact H2_) | (have H2_ := (Option.bind_some _ _).symm.trans H; with_reducible exact H2_) | with_reducible exact H | (rw [hy277]; exact H) | exact H
                   have Ny277 := Aside0.mk hy277
                   clear hy277
                   have H' := Aside0.mk H
                   clear H
                   have hcz36_0 : wc.cell? ⟨gb274, 0, none⟩ = some (.string ((rd_T31 l0 x15_1).f0.f0)) := (blk_cell BK274.out 0).trans rfl
                   have hcz36_1 : wc.cell? ⟨gb274, 1, none⟩ = some (.int .i64 ((rd_T31 l0 x15_1).f0.f1)) := (blk_cell BK274.out 1).trans rfl
                   have hcz36_2 : wc.cell? ⟨gb274, 2, none⟩ = some (.int .i64 ((rd_T31 l0 x15_1).f0.f2)) := (blk_cell BK274.out 2).trans rfl
                   have hfz36_0 := blk_frozen BK274.out 0
                   have hfz36_1 := blk_frozen BK274.out 1
                   have hfz36_2 := blk_frozen BK274.out 2
                   try go_wp2
                   have n0_ := Aside0.mk (Kd.R_drew HO_13.out)
                   have n1_ := Aside0.mk (blk_drew BK274.out)
                   have n2_ := Aside0.mk (below_drew1 HB.out)
                   clear HO_13
                   clear BK274
                   clear HB
                   have HO_13 := n0_
                   have BK274 := n1_
                   have HB := n2_
                   clear n0_ n1_ n2_
                   have p276 : 0 ≤ (x15_1 : Int) := of_decide_eq_true (by first | (with_reducible assumption) | assumption)
                   have q276 : x15_1 < (l0.length : Int) := of_decide_eq_true (by first | (with_reducible assumption) | assumption)
                   obtain ⟨ad276, e276, hx276_0, hx276_1, hx276_2, hx276_3⟩ := at_T31 HR0.out x15_1 p276 q276
                   have hw276_3 := hx276_3
                   have hw276_2 := hx276_2
                   have hw276_1 := hx276_1
                   have hw276_0 := hx276_0
                   obtain rfl : ad273 = ad276 := (by injection e276)
                   replace hx276_0 := (HB.out.cell (World.block_lt_of_cell? w _ hx276_0)).trans hx276_0
                   replace hx276_1 := (HB.out.cell (World.block_lt_of_cell? w _ hx276_1)).trans hx276_1
                   replace hx276_2 := (HB.out.cell (World.block_lt_of_cell? w _ hx276_2)).trans hx276_2
                   replace hx276_3 := (HB.out.cell (World.block_lt_of_cell? w _ hx276_3)).trans hx276_3
                   replace p276 := eq_true p276
                   replace q276 := eq_true q276
                   refine start_ (n := 12) (S := fun w' => w'.cell? ⟨gb274, 0, none⟩ = some (.string ((rd_T31 l0 x15_1).f0.f0)) ∧ w'.cell? ⟨gb274, 1, none⟩ = some (.int .i64 ((rd_T31 l0 x15_1).f0.f1)) ∧ w'.cell? ⟨gb274, 2, none⟩ = some (.int .i64 ((rd_T31 l0 x15_1).f0.f2)) ∧ w'.cell? (ad273.add ((x15_1).toNat * 4)) = some (.string ((rd_T31 l0 x15_1).f0.f0)) ∧ w'.cell? ⟨(ad273.add ((x15_1).toNat * 4)).block, (ad273.add ((x15_1).toNat * 4)).off + 1, none⟩ = some (.int .i64 ((rd_T31 l0 x15_1).f0.f1)) ∧ w'.cell? ⟨(ad273.add ((x15_1).toNat * 4)).block, (ad273.add ((x15_1).toNat * 4)).off + 2, none⟩ = some (.int .i64 ((rd_T31 l0 x15_1).f0.f2)) ∧ w'.cell? ⟨(ad273.add ((x15_1).toNat * 4)).block, (ad273.add ((x15_1).toNat * 4)).off + 3, none⟩ = some (.string ((rd_T31 l0 x15_1).f1))) (ds := []) #[false, false, false, false, false, false, false, false, false, false, false, false] (by kernel_rfl) rfl rfl ⟨(blk_cell BK274.out 0).trans rfl, (blk_cell BK274.out 1).trans rfl, (blk_cell BK274.out 2).trans rfl, ((HB.out.cell (World.block_lt_of_cell? w _ hw276_0)).trans hw276_0), ((HB.out.cell (World.block_lt_of_cell? w _ hw276_1)).trans hw276_1), ((HB.out.cell (World.block_lt_of_cell? w _ hw276_2)).trans hw276_2), ((HB.out.cell (World.block_lt_of_cell? w _ hw276_3)).trans hw276_3)⟩ (fun hHeld => ?_); refine with_tabW iceboxref10_View.tab12 iceboxref10_View.bits12 (fun HT_ HW_ => ?_)
                   generalize wc.drew = w37 at HO_13 BK274 HB hx276_0 hx276_1 hx276_2 hx276_3 hHeld ⊢
                   refine pure_ (i := 0) (N := some 68) (v := ?_) (a' := ?_) #[true, false, false, false, false, false, false, false, false, false, false, false] rfl rfl (any_of HT_.out (by kernel_rfl)) (fun _ _ _ h => h) (Or.inl ⟨by rfl, ?_⟩) ?_ ?_
                   rotate_left
                   ·
                    intro w'
                    go_simp
                    with_reducible rfl
                   rotate_left
                   ·
                    simp only [Act.put, List.setIfInBounds_toArray, List.set_cons_zero, List.set_cons_succ, i64_w, i32_w]
                    rfl
                   refine pure_ (i := 1) (N := some 69) (v := ?_) (a' := ?_) #[true, true, false, false, false, false, false, false, false, false, false, false] rfl rfl (any_of HT_.out (by kernel_rfl)) (fun _ _ _ h => h) (Or.inl ⟨by rfl, ?_⟩) ?_ ?_
                   rotate_left
                   ·
                    intro w'
                    go_simp
                    with_reducible rfl
                   rotate_left
                   ·
                    simp only [Act.put, List.setIfInBounds_toArray, List.set_cons_zero, List.set_cons_succ, i64_w, i32_w]
                    rfl
                   refine pure_ (i := 3) (N := some 71) (v := ?_) (a' := ?_) #[true, true, false, true, false, false, false, false, false, false, false, false] rfl rfl (any_of HT_.out (by kernel_rfl)) (fun _ _ _ h => h) (Or.inl ⟨by rfl, ?_⟩) ?_ ?_
                   rotate_left
                   ·
                    intro w'
                    go_simp
                    with_reducible rfl
                   rotate_left
                   ·
                    simp only [Act.put, List.setIfInBounds_toArray, List.set_cons_zero, List.set_cons_succ, i64_w, i32_w]
                    rfl
                   refine pure_ (i := 4) (N := some 72) (v := ?_) (a' := ?_) #[true, true, false, true, true, false, false, false, false, false, false, false] rfl rfl (any_of HT_.out (by kernel_rfl)) (fun _ _ _ h => h) (Or.inl ⟨by rfl, ?_⟩) ?_ ?_
                   rotate_left
                   ·
                    intro w'
                    go_simp
                    with_reducible rfl
                   rotate_left
                   ·
                    simp only [Act.put, List.setIfInBounds_toArray, List.set_cons_zero, List.set_cons_succ, i64_w, i32_w]
                    rfl
                   refine pure_ (i := 5) (N := some 73) (v := ?_) (a' := ?_) #[true, true, false, true, true, true, false, false, false, false, false, false] rfl rfl (any_of HT_.out (by kernel_rfl)) (fun _ _ _ h => h) (Or.inl ⟨by rfl, ?_⟩) ?_ ?_
                   rotate_left
                   ·
                    intro w'
                    go_simp
                    with_reducible rfl
                   rotate_left
                   ·
                    simp only [Act.put, List.setIfInBounds_toArray, List.set_cons_zero, List.set_cons_succ, i64_w, i32_w]
                    rfl
                   refine pure_ (i := 6) (N := some 74) (v := ?_) (a' := ?_) #[true, true, false, true, true, true, true, false, false, false, false, false] rfl rfl (any_of HT_.out (by kernel_rfl)) (fun _ _ _ h => h) (Or.inl ⟨by rfl, ?_⟩) ?_ ?_
                   rotate_left
                   ·
                    intro w'
                    go_simp
                    with_reducible rfl
                   rotate_left
                   ·
                    simp only [Act.put, List.setIfInBounds_toArray, List.set_cons_zero, List.set_cons_succ, i64_w, i32_w]
                    rfl
                   refine take_ (i := 2) (N := some 70) (v := ?_) (a' := ?_) #[true, true, true, true, true, true, true, false, false, false, false, false] rfl rfl (take_ofW HT_.out HW_.out (by kernel_rfl)) (fun _ _ _ h => h) (Or.inl ⟨by rfl, ?_⟩) hHeld ?_ ?_
                   rotate_left
                   ·
                    rintro w' ⟨s0, s1, s2, s3, s4, s5, s6⟩
                    go_simp
                    with_reducible rfl
                   rotate_left
                   ·
                    simp only [Act.put, List.setIfInBounds_toArray, List.set_cons_zero, List.set_cons_succ, i64_w, i32_w]
                    rfl
                   refine take_ (i := 7) (N := some 75) (v := ?_) (a' := ?_) #[true, true, true, true, true, true, true, true, false, false, false, false] rfl rfl (take_ofW HT_.out HW_.out (by kernel_rfl)) (fun _ _ _ h => h) (Or.inl ⟨by rfl, ?_⟩) hHeld ?_ ?_
                   rotate_left
                   ·
                    rintro w' ⟨s0, s1, s2, s3, s4, s5, s6⟩
                    go_simp
                    with_reducible rfl
                   rotate_left
                   ·
                    simp only [Act.put, List.setIfInBounds_toArray, List.set_cons_zero, List.set_cons_succ, i64_w, i32_w]
                    rfl
                   refine pure_ (i := 8) (N := some 76) (v := ?_) (a' := ?_) #[true, true, true, true, true, true, true, true, true, false, false, false] rfl rfl (any_of HT_.out (by kernel_rfl)) (fun _ _ _ h => h) (Or.inl ⟨by rfl, ?_⟩) ?_ ?_
                   rotate_left
                   ·
                    intro w'
                    go_simp
                    with_reducible rfl
                   rotate_left
                   ·
                    simp only [Act.put, List.setIfInBounds_toArray, List.set_cons_zero, List.set_cons_succ, i64_w, i32_w]
                    rfl
                   refine one_ (i := 9) (N := some 77) #[true, true, true, true, true, true, true, true, true, true, false, false] rfl rfl (one_of HT_.out (by kernel_rfl)) (by decide) (fun K hK => ?_)
                   refine value_ (w1 := ?_) (v := ?_) (by rfl) rfl ?_ ?_
                   rotate_left 2
                   ·
                    go_simp
                    constructor
                    · rfl
                    · rfl
                   refine hK.out _ _ ⟨(blk_cell (blk_alloc BK274.out _) 0).trans rfl, (blk_cell (blk_alloc BK274.out _) 1).trans rfl, (blk_cell (blk_alloc BK274.out _) 2).trans rfl, (World.cell?_alloc_lt _ _ _ (World.block_lt_of_cell? _ _ (((HB.out.cell (World.block_lt_of_cell? w _ hw276_0)).trans hw276_0)))).trans (((HB.out.cell (World.block_lt_of_cell? w _ hw276_0)).trans hw276_0)), (World.cell?_alloc_lt _ _ _ (World.block_lt_of_cell? _ _ (((HB.out.cell (World.block_lt_of_cell? w _ hw276_1)).trans hw276_1)))).trans (((HB.out.cell (World.block_lt_of_cell? w _ hw276_1)).trans hw276_1)), (World.cell?_alloc_lt _ _ _ (World.block_lt_of_cell? _ _ (((HB.out.cell (World.block_lt_of_cell? w _ hw276_2)).trans hw276_2)))).trans (((HB.out.cell (World.block_lt_of_cell? w _ hw276_2)).trans hw276_2)), (World.cell?_alloc_lt _ _ _ (World.block_lt_of_cell? _ _ (((HB.out.cell (World.block_lt_of_cell? w _ hw276_3)).trans hw276_3)))).trans (((HB.out.cell (World.block_lt_of_cell? w _ hw276_3)).trans hw276_3))⟩ (fun hHeld => ?_)
                   clear hK K
                   refine norm_ (a' := ?_) ?_ ?_
                   rotate_left
                   ·
                    show Act.put _ (some 77) _ = _
                    simp only [Act.put, List.setIfInBounds_toArray, List.set_cons_zero, List.set_cons_succ, i64_w, i32_w]
                    rfl
                   refine one_ (i := 10) (N := some 78) #[true, true, true, true, true, true, true, true, true, true, true, false] rfl rfl (one_of HT_.out (by kernel_rfl)) (by decide) (fun K hK => ?_)
                   refine Kd.R_append_step k47 (w0 := w) w.heap.size (by rfl) (.tmp 68) (.tmp 77) 41 47 (.agg #[(.string ⟨#[]⟩), (.string ⟨#[]⟩)]) 32 rfl Try.underlying41 info47 rfl (by decide) (by omega) u13 x13_1 (⟨((rd_T31 l0 x15_1).f0.f0), (rd_T31 l0 x15_1).f1⟩ : S47) [.string ((rd_T31 l0 x15_1).f0.f0), .string ((rd_T31 l0 x15_1).f1)] (fun _ => True) (fun _ => False) rfl rfl ?aP (fun _ hk => hk.elim) ?aF ?aO ?aB ?aS ?aL ?_
                   (case aP => exact k47_mkM _ _ _ (⟨((rd_T31 l0 x15_1).f0.f0), (rd_T31 l0 x15_1).f1⟩ : S47))
                   (case aB => exact (by repeat (first | (with_reducible first | exact HB.out | apply below_alloc | apply pw_below_drewN | apply below_drew1 | refine below_set ?_ GE274.out) | exact HB.out | exact Below.refl _ _)))
                   (case aF => exact (fun _ _ => trivial))
                   (case aO => exact (by (with_reducible repeat (first | apply Kd.R_alloc | apply Kd.R_drewN | apply Kd.R_drew)); exact HO_13.out))
                   (case aS => exact (below_size (by repeat (first | (with_reducible first | exact HB.out | apply below_alloc | apply pw_below_drewN | apply below_drew1 | refine below_set ?_ GE274.out) | exact HB.out | exact Below.refl _ _))))
                   (case aL => have := LMc35.out; omega)
                   intro v278 w38 ho hb hg hat
                   rw [← Ny277.out] at ho
                   have n0_ := Aside0.mk (blk_grown (g := gb274) (o := .cells #[.string ((rd_T31 l0 x15_1).f0.f0), .int .i64 ((rd_T31 l0 x15_1).f0.f1), .int .i64 ((rd_T31 l0 x15_1).f0.f2)] 29 (0, 0)) (by (with_reducible repeat (first | refine blk_drewN ?_ _ | refine blk_drew ?_ | refine blk_alloc ?_ _)); exact BK274.out) hg (Kd.R_ne HO_13.out BK274.out (by decide)))
                   have n1_ := Aside0.mk (hb)
                   have n2_ := Aside0.mk (ho)
                   clear BK274
                   clear HB
                   clear HO_13
                   have BK274 := n0_
                   have HB := n1_
                   have HO279 := n2_
                   clear n0_ n1_ n2_
                   clear ho hb hg hat
                   refine hK.out _ _ ⟨(blk_cell BK274.out 0).trans rfl, (blk_cell BK274.out 1).trans rfl, (blk_cell BK274.out 2).trans rfl, ((HB.out.cell (World.block_lt_of_cell? w _ hw276_0)).trans hw276_0), ((HB.out.cell (World.block_lt_of_cell? w _ hw276_1)).trans hw276_1), ((HB.out.cell (World.block_lt_of_cell? w _ hw276_2)).trans hw276_2), ((HB.out.cell (World.block_lt_of_cell? w _ hw276_3)).trans hw276_3)⟩ (fun hHeld => ?_)
                   clear hK K
                   refine norm_ (a' := ?_) ?_ ?_
                   rotate_left
                   ·
                    show Act.put _ (some 78) _ = _
                    simp only [Act.put, List.setIfInBounds_toArray, List.set_cons_zero, List.set_cons_succ, i64_w, i32_w]
                    rfl
                   refine pure_ (i := 11) (N := some 13) (v := ?_) (a' := ?_) #[true, true, true, true, true, true, true, true, true, true, true, true] rfl rfl (any_of HT_.out (by kernel_rfl)) (fun _ _ _ h => h) (Or.inl ⟨by rfl, ?_⟩) ?_ ?_
                   rotate_left
                   ·
                    intro w'
                    go_simp
                    with_reducible rfl
                   rotate_left
                   ·
                    simp only [Act.put, List.setIfInBounds_toArray, List.set_cons_zero, List.set_cons_succ, i64_w, i32_w]
                    rfl
                   refine done_ (done_of HT_.out (by kernel_rfl)) ?_
                   try go_wp2
                   go_roundg kj21
                   case measure => have := HK1.out; have := HJ8.out; have := HJ19.out; have := HJ21.out; omega
                   case rel => exact ⟨(y277), (true), (wrap64 (x15_1 + 1)), (by first | rfl | (simp; done) | (simp [*]; done)), (by first | rfl | (simp; done) | (simp [*]; done)), H', ⟨by have := HK1.out; have := HJ8.out; have := HJ19.out; have := HJ21.out; omega⟩, ⟨by (with_reducible repeat (first | apply Kd.R_alloc | apply Kd.R_drewN | apply Kd.R_drew)); exact HO279.out⟩, ⟨by repeat (first | (with_reducible first | exact HB.out | apply below_alloc | apply pw_below_drewN | apply below_drew1 | refine below_set ?_ GE274.out) | exact HB.out | exact Below.refl _ _)⟩⟩
                  ·
                   rw [if_neg c35] at H
                   exact absurd H (by simp)
                 ·
                  rw [if_neg c34] at H
                  exact absurd H (by simp)
                ·
                 rw [if_neg c33] at H
                 exact absurd H (by simp)
               ·
                rw [if_neg c32] at H
                have c32b0 : (((rd_T31 l0 x15_1).f0.f2) == 1) = false := beq_eq_false_iff_ne.mpr c32
                have c32b1 : (((rd_T31 l0 x15_1).f0.f2) != 1) = true := bne_iff_ne.mpr c32
                have H' := Aside0.mk H
                clear H
                have hcz39_0 : wc.cell? ⟨gb274, 0, none⟩ = some (.string ((rd_T31 l0 x15_1).f0.f0)) := (blk_cell BK274.out 0).trans rfl
                have hcz39_1 : wc.cell? ⟨gb274, 1, none⟩ = some (.int .i64 ((rd_T31 l0 x15_1).f0.f1)) := (blk_cell BK274.out 1).trans rfl
                have hcz39_2 : wc.cell? ⟨gb274, 2, none⟩ = some (.int .i64 ((rd_T31 l0 x15_1).f0.f2)) := (blk_cell BK274.out 2).trans rfl
                have hfz39_0 := blk_frozen BK274.out 0
                have hfz39_1 := blk_frozen BK274.out 1
                have hfz39_2 := blk_frozen BK274.out 2
                go_wp2
                go_roundg kj21
                case measure => have := HK1.out; have := HJ8.out; have := HJ19.out; have := HJ21.out; omega
                case rel => exact ⟨(x13_1), (true), (wrap64 (x15_1 + 1)), (by first | rfl | (simp; done) | (simp [*]; done)), (by first | rfl | (simp; done) | (simp [*]; done)), H', ⟨by have := HK1.out; have := HJ8.out; have := HJ19.out; have := HJ21.out; omega⟩, ⟨by (with_reducible repeat (first | apply Kd.R_alloc | apply Kd.R_drewN | apply Kd.R_drew)); exact HO_13.out⟩, ⟨by repeat (first | (with_reducible first | exact HB.out | apply below_alloc | apply pw_below_drewN | apply below_drew1 | refine below_set ?_ GE274.out) | exact HB.out | exact Below.refl _ _)⟩⟩
    ·
     rw [if_neg c8] at H
     exact absurd H (by simp)
   ·
    rw [if_neg c7] at H
    have c7b0 : decide (x15_1 < (l0.length : Int)) = false := decide_eq_false c7
    clear c7
    replace H := Option.bind_eq_some_iff.mp H
    obtain ⟨t270, A400, H⟩ := H
    replace H : (some t270) = some r := H
    have A40 := Aside0.mk A400
    clear A400
    obtain rfl := Option.some.inj H
    obtain ⟨Ao41, co41, eo41⟩ := Kd.R_slice HO_13.out
    subst eo41
    go_wp2_with (first | ((with_reducible refine gate_callee (f := 53) rfl ?_); refine goesL_ (some 82) rfl rfl Try.func53 (by kernel_rfl) rfl #[.slice Ao41 x13_1.length co41, .bool a4, .int .i64 a5] rfl (by (try simp only [List.map_toArray, List.map_cons, List.map_nil]); first | done | rfl | (simp only [List.length_drop, List.length_take]; rfl)) ?_; (with_reducible refine (iceboxref10_Some.calls k1 _ _ x13_1 a4 a5 t270 _ ?side1 ?side2 A40.out).mono ?_); (case side1 => repeat (first | exact (Kd.R_reads' HO_13.out).2.2 | (with_reducible refine Kd.C_alloc ?_ _) | (with_reducible refine Kd.C_drewN ?_ _) | (with_reducible refine Kd.C_drew ?_))); (case side2 => exact (Kd.R_reads' HO_13.out).2.1); rintro e w42 ⟨v271, rfl, ho0, hb⟩; refine ⟨_, rfl, ?_⟩; have n0_ := Aside0.mk (Kd.R_elder' (by (with_reducible repeat (first | apply Kd.R_alloc | apply Kd.R_drewN | apply Kd.R_drew)); exact HO_13.out) (Kd.R_base ho0) hb); have n1_ := Aside0.mk (Kd.R_lower (Kd.R_new' ho0 (Kd.R_lt (by (with_reducible repeat (first | apply Kd.R_alloc | apply Kd.R_drewN | apply Kd.R_drew)); exact HO_13.out))) (below_size (by repeat (first | (with_reducible first | exact HB.out | apply below_alloc | apply pw_below_drewN | apply below_drew1) | exact HB.out | exact Below.refl _ _)))); have n2_ := Aside0.mk (below_step (by repeat (first | (with_reducible first | exact HB.out | apply below_alloc | apply pw_below_drewN | apply below_drew1) | exact HB.out | exact Below.refl _ _)) hb); clear HO_13; clear HB; have HO_13 := n0_; have HO272 := n1_; have HB := n2_; clear n0_ n1_ n2_; (try clear hb); (try clear hb2); (try clear hk); (try clear hi); (try clear ho0)))
    go_ret
    exact ⟨_, by first | rfl | (simp [errW_none, errW_some] <;> rfl) | (simp [*, errW_none, errW_some] <;> rfl), by (with_reducible repeat (first | apply Kd.R_alloc | apply Kd.R_drewN | apply Kd.R_drew)); exact Kd.R_mono HO272.out (fun _ hk => trivial), by repeat (first | (with_reducible first | exact HB.out | apply below_alloc | apply pw_below_drewN | apply below_drew1) | exact HB.out | exact Below.refl _ _)⟩

end Go.Proofs.Ytoomipmndapgnaa.PMergePages
