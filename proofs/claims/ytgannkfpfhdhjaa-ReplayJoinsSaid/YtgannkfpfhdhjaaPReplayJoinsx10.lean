/- The functions that a law reaches, as Lean functions, each with the contract that its Go code comes to just these answers. Written by a program of this claim's author (wip/mkprint.py). No conditions. -/
import Derived.Test.YtgannkfpfhdhjaaPReplayJoinsx0
import Derived.Test.YtgannkfpfhdhjaaPReplayJoinsx7
namespace Go.Proofs.Ytgannkfpfhdhjaa.PReplayJoins
open Go.RowKit Go.Proofs.YtgannkfpfhdhjaaW.PrintWords Go.Proofs.YtgannkfpfhdhjaaW.PrintLast Go.Proofs.YtgannkfpfhdhjaaW.PrintMore
attribute [local go_sem] max2_int min2_int max_two min_two max_three min_three max_four min_four   -- for this text's walks alone
set_option linter.unusedVariables false
set_option linter.unusedSimpArgs false

/-! ### replay_Join: function 35 -/
mutual
def replay_Join.l0 : Nat → Int → List (S37) → List (List Int) → Int → Int → Option ((List (S37)))
 | 0, _, _, _, _, _ => none
 | k + 1, x1, x5, x12, x13, x14 => if x14 < x13 then (if 0 ≤ x14 then (if x14 < (x12.length : Int) then ((replay_Scan.f k (rd_L4 x12 x14)).bind fun bt480 => (replay_Join.l1 k x1 x5 x12 x13 x14 bt480.1 (bt480.1.length : Int) 0)) else (none)) else (none)) else (some x5)
def replay_Join.l1 : Nat → Int → List (S37) → List (List Int) → Int → Int → List (S37) → Int → Int → Option ((List (S37)))
 | 0, _, _, _, _, _, _, _, _ => none
 | k + 1, x1, x5, x12, x13, x14, x23, x24, x25 => if x25 < x24 then (if 0 ≤ x25 then (if x25 < (x23.length : Int) then (if ((rd_T37 x23 x25).f0) ≤ x1 then (replay_Join.l1 k x1 x5 x12 x13 x14 x23 x24 (wrap64 (x25 + 1))) else (if (wrap64 (((rd_T37 x23 x25).f0) - 1)) > x1 then (some x5) else (if x5.length < 4398046511104 then (replay_Join.l1 k ((rd_T37 x23 x25).f0) (x5 ++ [(⟨(rd_T37 x23 x25).f0, (rd_T37 x23 x25).f1⟩ : S37)]) x12 x13 x14 x23 x24 (wrap64 (x25 + 1))) else (none)))) else (none)) else (none)) else (replay_Join.l0 k x1 x5 x12 x13 (wrap64 (x14 + 1)))
end
def replay_Join.f (k : Nat) (l0 : List (List Int)) (a1 : Int) : Option ((List (S37))) := replay_Join.l0 k a1 ([] : List (S37)) l0 (l0.length : Int) 0
theorem replay_Join.mono_l : ∀ k, (∀ y0 y1 y2 y3 y4, LeO (replay_Join.l0 k y0 y1 y2 y3 y4) (replay_Join.l0 (k + 1) y0 y1 y2 y3 y4)) ∧ (∀ y0 y1 y2 y3 y4 y5 y6 y7, LeO (replay_Join.l1 k y0 y1 y2 y3 y4 y5 y6 y7) (replay_Join.l1 (k + 1) y0 y1 y2 y3 y4 y5 y6 y7))
 | 0 => ⟨fun _ _ _ _ _ r h => by simp [replay_Join.l0] at h, fun _ _ _ _ _ _ _ _ r h => by simp [replay_Join.l1] at h⟩
 | k + 1 => by
  obtain ⟨ih0, ih1⟩ := replay_Join.mono_l k
  refine ⟨?_, ?_⟩
  ·
   intro y0 y1 y2 y3 y4
   unfold replay_Join.l0
   repeat' first
   | (with_reducible exact ih0 _ _ _ _ _)
   | (with_reducible exact ih1 _ _ _ _ _ _ _ _)
   | (with_reducible exact replay_Scan.mono _ _)
   | (with_reducible exact LeO.refl _)
   | (with_reducible exact LeO.none _)
   | (with_reducible refine LeO.ite ?_ ?_)
   | (with_reducible refine LeO.bind ?_ (fun _ => ?_))
   | exact ih0 _ _ _ _ _
   | exact ih1 _ _ _ _ _ _ _ _
   | exact replay_Scan.mono _ _
   | exact LeO.none _
   | refine LeO.ite ?_ ?_
   | refine LeO.bind ?_ (fun _ => ?_)
  ·
   intro y0 y1 y2 y3 y4 y5 y6 y7
   unfold replay_Join.l1
   repeat' first
   | (with_reducible exact ih0 _ _ _ _ _)
   | (with_reducible exact ih1 _ _ _ _ _ _ _ _)
   | (with_reducible exact replay_Scan.mono _ _)
   | (with_reducible exact LeO.refl _)
   | (with_reducible exact LeO.none _)
   | (with_reducible refine LeO.ite ?_ ?_)
   | (with_reducible refine LeO.bind ?_ (fun _ => ?_))
   | exact ih0 _ _ _ _ _
   | exact ih1 _ _ _ _ _ _ _ _
   | exact replay_Scan.mono _ _
   | exact LeO.none _
   | refine LeO.ite ?_ ?_
   | refine LeO.bind ?_ (fun _ => ?_)
theorem replay_Join.mono : ∀ a0 a1 k, LeO (replay_Join.f k a0 a1) (replay_Join.f (k + 1) a0 a1) := by
 intro a0 a1 k
 obtain ⟨ih0, ih1⟩ := replay_Join.mono_l k
 unfold replay_Join.f
 repeat' first
  | (with_reducible exact ih0 _ _ _ _ _)
  | (with_reducible exact ih1 _ _ _ _ _ _ _ _)
  | (with_reducible exact replay_Scan.mono _ _)
  | (with_reducible exact LeO.refl _)
  | (with_reducible exact LeO.none _)
  | (with_reducible refine LeO.ite ?_ ?_)
  | (with_reducible refine LeO.bind ?_ (fun _ => ?_))
  | exact ih0 _ _ _ _ _
  | exact ih1 _ _ _ _ _ _ _ _
  | exact replay_Scan.mono _ _
  | exact LeO.none _
  | refine LeO.ite ?_ ?_
  | refine LeO.bind ?_ (fun _ => ?_)
def replay_Join.T11 : Bool × List (List Nat × List Nat) := (true, [([], []), ([], []), ([1], [1]), ([0, 2], [0, 2]), ([], []), ([4], [4]), ([3, 3, 0, 1, 2, 3], [0, 3]), ([5, 6, 0, 1, 2, 3, 4, 5, 6], [5])])
def replay_Join.B11 : List Nat := [0, 0, 2, 7, 0, 16, 15, 127]
theorem replay_Join.tab11 : rtab .any (opsOf Try.f35 11) = replay_Join.T11 := by kernel_rfl
theorem replay_Join.bits11 : waitsOk replay_Join.T11.2 replay_Join.B11 = true := by kernel_rfl
set_option maxHeartbeats 80000000 in
set_option maxRecDepth 100000 in
theorem replay_Join.calls (k : Nat) (A0 : Option Addr) (c0 : Nat) (l0 : List (List Int)) (a1 : Int) (r : List (S37)) (w : World) (hr0 : Kd.C (Kd.slice 5 (Kd.int .u8)) w A0 l0.length l0) (hc0 : l0.length ≤ c0) (h : replay_Join.f k l0 a1 = some r) :
 Calls Try.prog 35 #[.slice A0 l0.length c0, .int .i64 a1] w fun e w' => ∃ v0_ : Value, e = .returned (v0_) ∧ Kd.N k37 37 w' w.heap.size (fun k_ => (w.heap.size ≤ k_)) v0_ r ∧ Below w.heap.size w w' := by
 have hu37 := Try.underlying37
 have HR0 := Aside0.mk hr0
 have HC0 := Aside0.mk hc0
 clear hr0 hc0
 have HB := Aside0.mk (Below.refl w.heap.size w)
 have H : (replay_Join.l0 k a1 ([] : List (S37)) l0 (l0.length : Int) 0) = some r := h
 clear h
 have H' := Aside0.mk H
 clear H
 go_enter Try.func35, Try.ntmps35
 go_wp2_with (first | (with_reducible refine wp_label ?_) | (with_reducible refine wp_scope_straight ?_) | (simp only [Exit.noGoto_ret, Exit.noGoto_normal, Exit.noGoto_exit]))
 try simp only [Act.put, List.setIfInBounds_toArray, List.set_cons_zero, List.set_cons_succ]
 go_loopg [1, 5, 14] k (fun kq v1 v5 v14 w' => ∃ (x1_1 : Int) (x5_1 : List (S37)) (x14_1 : Int), v1 = .int .i64 x1_1 ∧ v14 = .int .i64 x14_1 ∧ Aside0 (replay_Join.l0 kq x1_1 x5_1 l0 (l0.length : Int) x14_1 = some r) ∧ Aside0 (kq ≤ k) ∧ Aside0 (Kd.N k37 37 w' w.heap.size (fun k_ => (w.heap.size ≤ k_)) v5 x5_1) ∧ Aside0 (Below w.heap.size w w'))
 case atStart => exact ⟨(a1), (([] : List (S37))), (0), (by first | rfl | (simp; done) | (simp [*]; done)), (by first | rfl | (simp; done) | (simp [*]; done)), H', ⟨Nat.le_refl _⟩, ⟨by first | exact Kd.S_nil _ _ _ _ _ | exact Kd.N_nil _ _ _ _ _ | exact Kd.V_nil _ _ _ _ _ | exact Kd.Q_nil _ _ _ _ _ | exact Kd.R_nil _ _ _ _ _⟩, ⟨by repeat (first | (with_reducible first | exact HB.out | apply below_alloc | apply pw_below_drewN | apply below_drew1) | exact HB.out | exact Below.refl _ _)⟩⟩
 case round =>
  clear H'
  obtain ⟨x1_1, x5_1, x14_1, rfl, rfl, HA, HK1, HO_5, HB⟩ := hrel
  cases gk with
  | zero => exact absurd HA.out (by simp [replay_Join.l0])
  | succ k1 =>
   have H := HA.out
   clear HA
   simp only [replay_Join.l0] at H
   by_cases c3 : x14_1 < (l0.length : Int)
   ·
    rw [if_pos c3] at H
    have c3b0 : decide (x14_1 < (l0.length : Int)) = true := decide_eq_true c3
    clear c3
    by_cases c4 : 0 ≤ x14_1
    ·
     rw [if_pos c4] at H
     have c4b0 : decide (0 ≤ x14_1) = true := decide_eq_true c4
     clear c4
     by_cases c5 : x14_1 < (l0.length : Int)
     ·
      rw [if_pos c5] at H
      have c5b0 : decide (x14_1 < (l0.length : Int)) = true := decide_eq_true c5
      clear c5
      replace H := Option.bind_eq_some_iff.mp H
      obtain ⟨⟨t480, t481⟩, A60, H⟩ := H
      replace H : (replay_Join.l1 k1 x1_1 x5_1 l0 (l0.length : Int) x14_1 t480 (t480.length : Int) 0) = some r := H
      have A6 := Aside0.mk A60
      clear A60
      have H' := Aside0.mk H
      clear H
      have p479 : 0 ≤ (x14_1 : Int) := of_decide_eq_true (by first | (with_reducible assumption) | assumption)
      have q479 : x14_1 < (l0.length : Int) := of_decide_eq_true (by first | (with_reducible assumption) | assumption)
      obtain ⟨ad479, A479_0, c479_0, e479, hx479_0, hl479_0, hi479_0⟩ := at_L4 HR0.out x14_1 p479 q479
      cases e479
      replace hx479_0 := (HB.out.cell (World.block_lt_of_cell? w _ hx479_0)).trans hx479_0
      have HR479_0 := Aside0.mk hi479_0
      have HC479_0 := Aside0.mk hl479_0
      clear hi479_0 hl479_0
      replace p479 := eq_true p479
      replace q479 := eq_true q479
      go_wp2_with (first | (first | (with_reducible refine wp_label ?_) | (with_reducible refine wp_scope_straight ?_) | (simp only [Exit.noGoto_ret, Exit.noGoto_normal, Exit.noGoto_exit])) | ((with_reducible refine gate_callee (f := 31) rfl ?_); refine goesL_ (some 20) rfl rfl Try.func31 (by kernel_rfl) rfl #[.slice A479_0 (rd_L4 l0 x14_1).length c479_0] rfl (by (try simp only [List.map_toArray, List.map_cons, List.map_nil]); first | done | rfl | (simp only [List.length_drop, List.length_take]; rfl)) ?_; (with_reducible refine (replay_Scan.calls k1 _ _ (rd_L4 l0 x14_1) t480 t481 _ ?side1 ?side2 A6.out).mono ?_); (case side1 => repeat (first | exact (Kd.C_below HR479_0.out HB.out) | (with_reducible refine Kd.C_alloc ?_ _) | (with_reducible refine Kd.C_drewN ?_ _) | (with_reducible refine Kd.C_drew ?_))); (case side2 => exact HC479_0.out); rintro e w7 ⟨v482, rfl, ho0, hb⟩; refine ⟨_, rfl, ?_⟩; have n0_ := Aside0.mk (Kd.N_elder' (by (with_reducible repeat (first | apply Kd.N_alloc | apply Kd.N_drewN | apply Kd.N_drew)); exact HO_5.out) (by first | exact Kd.N_base ho0 | exact Kd.N_base (Kd.S_N ho0)) hb); have n1_ := Aside0.mk (Kd.N_lower (Kd.N_mono (ok' := fun k_ => (w.heap.size ≤ k_) ∧ some k_ ≠ (u5 : Value).ownBlock) (Kd.S_N (Kd.S_bound ho0)) (fun k_ hk_ => ⟨(Nat.le_trans (below_size (by repeat (first | (with_reducible first | exact HB.out | apply below_alloc | apply pw_below_drewN | apply below_drew1) | exact HB.out | exact Below.refl _ _))) hk_.2.1), (Kd.fresh' (Kd.N_lt (by (with_reducible repeat (first | apply Kd.N_alloc | apply Kd.N_drewN | apply Kd.N_drew)); exact HO_5.out)) k_ hk_.2.1)⟩)) (below_size (by repeat (first | (with_reducible first | exact HB.out | apply below_alloc | apply pw_below_drewN | apply below_drew1) | exact HB.out | exact Below.refl _ _)))); have n2_ := Aside0.mk (below_step (by repeat (first | (with_reducible first | exact HB.out | apply below_alloc | apply pw_below_drewN | apply below_drew1) | exact HB.out | exact Below.refl _ _)) hb); clear HO_5; clear HB; have HO_5 := n0_; have HO483 := n1_; have HB := n2_; clear n0_ n1_ n2_; (try clear hb); (try clear hb2); (try clear hk); (try clear hi); (try clear ho0); obtain ⟨Ao8, co8, eo8⟩ := Kd.N_slice HO483.out; subst eo8))
      try simp only [Act.put, List.setIfInBounds_toArray, List.set_cons_zero, List.set_cons_succ]
      go_loopg [1, 5, 25] k1 (fun kq v1 v5 v25 w' => ∃ (x1_2 : Int) (x5_2 : List (S37)) (x25_2 : Int), v1 = .int .i64 x1_2 ∧ v25 = .int .i64 x25_2 ∧ Aside0 (replay_Join.l1 kq x1_2 x5_2 l0 (l0.length : Int) x14_1 t480 (t480.length : Int) x25_2 = some r) ∧ Aside0 (kq ≤ k1) ∧ Aside0 (Kd.N k37 37 w' w.heap.size (fun k_ => (w.heap.size ≤ k_) ∧ some k_ ≠ ((.slice Ao8 t480.length co8) : Value).ownBlock) v5 x5_2) ∧ Aside0 (Kd.N k37 37 w' w.heap.size (fun k_ => (w.heap.size ≤ k_) ∧ some k_ ≠ (v5 : Value).ownBlock) (.slice Ao8 t480.length co8) t480) ∧ Aside0 (Below w.heap.size w w'))
      case atStart => exact ⟨(x1_1), (x5_1), (0), (by first | rfl | (simp; done) | (simp [*]; done)), (by first | rfl | (simp; done) | (simp [*]; done)), H', ⟨Nat.le_refl _⟩, ⟨by (with_reducible repeat (first | apply Kd.N_alloc | apply Kd.N_drewN | apply Kd.N_drew)); exact HO_5.out⟩, ⟨by (with_reducible repeat (first | apply Kd.N_alloc | apply Kd.N_drewN | apply Kd.N_drew)); exact HO483.out⟩, ⟨by repeat (first | (with_reducible first | exact HB.out | apply below_alloc | apply pw_below_drewN | apply below_drew1) | exact HB.out | exact Below.refl _ _)⟩⟩
      case round =>
       clear H'
       obtain ⟨x1_2, x5_2, x25_2, rfl, rfl, HA, HK2, HO_5, HO_23, HB⟩ := hrel
       cases gk with
       | zero => exact absurd HA.out (by simp [replay_Join.l1])
       | succ k2 =>
        have H := HA.out
        clear HA
        simp only [replay_Join.l1] at H
        by_cases c9 : x25_2 < (t480.length : Int)
        ·
         rw [if_pos c9] at H
         have c9b0 : decide (x25_2 < (t480.length : Int)) = true := decide_eq_true c9
         clear c9
         by_cases c10 : 0 ≤ x25_2
         ·
          rw [if_pos c10] at H
          have c10b0 : decide (0 ≤ x25_2) = true := decide_eq_true c10
          clear c10
          by_cases c11 : x25_2 < (t480.length : Int)
          ·
           rw [if_pos c11] at H
           have c11b0 : decide (x25_2 < (t480.length : Int)) = true := decide_eq_true c11
           clear c11
           by_cases c12 : ((rd_T37 t480 x25_2).f0) ≤ x1_2
           ·
            rw [if_pos c12] at H
            have c12b0 : decide (((rd_T37 t480 x25_2).f0) ≤ x1_2) = true := decide_eq_true c12
            clear c12
            have H' := Aside0.mk H
            clear H
            have p484 : 0 ≤ (x25_2 : Int) := of_decide_eq_true (by first | (with_reducible assumption) | assumption)
            have q484 : x25_2 < (t480.length : Int) := of_decide_eq_true (by first | (with_reducible assumption) | assumption)
            obtain ⟨ad484, A484_1, c484_1, e484, hx484_0, hx484_1, hl484_1, hi484_1⟩ := at_T37 (Kd.N_reads' HO_23.out).2.2 x25_2 p484 q484
            cases e484
            obtain ⟨ce484, hce484, hMe484, hcc484⟩ := Kd.N_get HO_23.out z37 x25_2 p484 (by first | exact q484 | exact of_decide_eq_true (by first | (with_reducible assumption) | assumption) | (have e_ := (Kd.N_reads' HO_23.out).1; omega))
            obtain ⟨ua484_1, uc484_1, rfl, ul484_1, ge484_1⟩ := k37_openF hMe484
            have hv484_1 := hcc484 1 _ rfl
            rw [add_field _ _ 1 (by omega)] at hv484_1
            replace hv484_1 := Option.some.inj (hv484_1.symm.trans hx484_1)
            injection hv484_1 with hva_ hvn_ hvc_
            rw [hva_] at ge484_1
            rw [hvc_] at ul484_1
            have HL484_1 := Aside0.mk (show Kd.V k27 27 _ w.heap.size _ _ ((rd_T37 t480 x25_2).f1) from Kd.V_mk ul484_1 ge484_1)
            clear hva_ hvn_ hvc_ ge484_1 ul484_1
            clear hcc484 hce484
            have HR484_1 := Aside0.mk hi484_1
            have HC484_1 := Aside0.mk hl484_1
            clear hi484_1 hl484_1
            replace p484 := eq_true p484
            replace q484 := eq_true q484
            go_wp2_with (first | (first | (with_reducible refine wp_label ?_) | (with_reducible refine wp_scope_straight ?_) | (simp only [Exit.noGoto_ret, Exit.noGoto_normal, Exit.noGoto_exit])) | ((with_reducible refine gate_dst (N := 11) rfl ?_); refine box_event ?hg (N := 11) ?hd (cs := #[.int .i64 0, .slice none 0 0]) (t := 37) ?hr ?_; (case hd => rfl); (case hg => rfl); (case hr => first | (go_simp; done) | (go_simp; rfl)); intro gb485 hg w13 hbox hb; have n0_ := Aside0.mk (Kd.N_below (Kd.N_elderB (by (with_reducible repeat (first | apply Kd.N_alloc | apply Kd.N_drewN | apply Kd.N_drew)); exact HO_5.out) gb485 (Nat.le_of_eq hg.symm)) hb); have n1_ := Aside0.mk (Kd.N_below (Kd.N_elderB (by (with_reducible repeat (first | apply Kd.N_alloc | apply Kd.N_drewN | apply Kd.N_drew)); exact HO_23.out) gb485 (Nat.le_of_eq hg.symm)) hb); have n2_ := Aside0.mk (Kd.V_below (Kd.V_elderB (by (with_reducible repeat (first | apply Kd.V_alloc | apply Kd.V_drewN | apply Kd.V_drew)); exact HL484_1.out) gb485 (Nat.le_of_eq hg.symm)) hb); have n3_ := Aside0.mk (Kd.C_below (by repeat (first | (with_reducible exact HR484_1.out) | (with_reducible refine Kd.C_alloc ?_ _) | (with_reducible refine Kd.C_drewN ?_ _) | (with_reducible refine Kd.C_drew ?_) | exact HR484_1.out)) hb); have n4_ := Aside0.mk (below_step (by repeat (first | (with_reducible first | exact HB.out | apply below_alloc | apply pw_below_drewN | apply below_drew1) | exact HB.out | exact Below.refl _ _)) hb); have n5_ := Aside0.mk (hbox); have n6_ := Aside0.mk ((by rw [hg]; exact (below_size (by repeat (first | (with_reducible first | exact HB.out | apply below_alloc | apply pw_below_drewN | apply below_drew1) | exact HB.out | exact Below.refl _ _))) : w.heap.size ≤ gb485)); have n7_ := Aside0.mk ((by rw [hg]; exact (below_size (by repeat (first | (with_reducible first | exact HB.out | apply below_alloc | apply pw_below_drewN | apply below_drew1) | exact HB.out | exact Below.refl _ _))) : w.heap.size ≤ gb485)); clear HO_5; clear HO_23; clear HL484_1; clear HR484_1; clear HB; have HO_5 := n0_; have HO_23 := n1_; have HL484_1 := n2_; have HR484_1 := n3_; have HB := n4_; have BK485 := n5_; have GW485 := n6_; have GE485 := n7_; clear n0_ n1_ n2_ n3_ n4_ n5_ n6_ n7_; clear hb hbox hg; have hcz14_0 : w13.cell? ⟨gb485, 0, none⟩ = some (.int .i64 0) := (blk_cell BK485.out 0).trans rfl; have hcz14_1 : w13.cell? ⟨gb485, 1, none⟩ = some (.slice none 0 0) := (blk_cell BK485.out 1).trans rfl; have hfz14_0 := blk_frozen BK485.out 0; have hfz14_1 := blk_frozen BK485.out 1))
            go_roundg k2
            case measure => have := HK1.out; have := HK2.out; omega
            case rel => exact ⟨(x1_2), (x5_2), (wrap64 (x25_2 + 1)), (by first | rfl | (simp; done) | (simp [*]; done)), (by first | rfl | (simp; done) | (simp [*]; done)), H', ⟨by have := HK1.out; have := HK2.out; omega⟩, ⟨by (with_reducible repeat (first | apply Kd.N_alloc | apply Kd.N_drewN | apply Kd.N_drew)); exact Kd.N_mono (Kd.N_far (p := ⟨gb485, 1, none⟩) (Kd.N_far (p := ⟨gb485, 0, none⟩) (Kd.N_mono HO_5.out (fun k_ hk => (⟨hk, hk.2⟩ : _ ∧ k_ ≠ gb485))) (fun _ hk => hk.2) (.int .i64 ((rd_T37 t480 x25_2).f0))) (fun _ hk => hk.2) (.slice A484_1 ((rd_T37 t480 x25_2).f1).length c484_1)) (fun _ hk => ⟨hk.1.1.1, hk.1.1.2⟩)⟩, ⟨by (with_reducible repeat (first | apply Kd.N_alloc | apply Kd.N_drewN | apply Kd.N_drew)); exact Kd.N_mono (Kd.N_far (p := ⟨gb485, 1, none⟩) (Kd.N_far (p := ⟨gb485, 0, none⟩) (Kd.N_mono HO_23.out (fun k_ hk => (⟨hk, hk.2⟩ : _ ∧ k_ ≠ gb485))) (fun _ hk => hk.2) (.int .i64 ((rd_T37 t480 x25_2).f0))) (fun _ hk => hk.2) (.slice A484_1 ((rd_T37 t480 x25_2).f1).length c484_1)) (fun _ hk => ⟨hk.1.1.1, hk.1.1.2⟩)⟩, ⟨by repeat (first | (with_reducible first | exact HB.out | apply below_alloc | apply pw_below_drewN | apply below_drew1 | refine below_set ?_ GE485.out) | exact HB.out | exact Below.refl _ _)⟩⟩
           ·
            rw [if_neg c12] at H
            have c12b0 : decide (((rd_T37 t480 x25_2).f0) ≤ x1_2) = false := decide_eq_false c12
            clear c12
            by_cases c15 : (wrap64 (((rd_T37 t480 x25_2).f0) - 1)) > x1_2
            ·
             rw [if_pos c15] at H
             have c15b0 : decide (x1_2 < (wrap64 (((rd_T37 t480 x25_2).f0) - 1))) = true := decide_eq_true c15
             clear c15
             obtain rfl := Option.some.inj H
             have p484 : 0 ≤ (x25_2 : Int) := of_decide_eq_true (by first | (with_reducible assumption) | assumption)
             have q484 : x25_2 < (t480.length : Int) := of_decide_eq_true (by first | (with_reducible assumption) | assumption)
             obtain ⟨ad484, A484_1, c484_1, e484, hx484_0, hx484_1, hl484_1, hi484_1⟩ := at_T37 (Kd.N_reads' HO_23.out).2.2 x25_2 p484 q484
             cases e484
             obtain ⟨ce484, hce484, hMe484, hcc484⟩ := Kd.N_get HO_23.out z37 x25_2 p484 (by first | exact q484 | exact of_decide_eq_true (by first | (with_reducible assumption) | assumption) | (have e_ := (Kd.N_reads' HO_23.out).1; omega))
             obtain ⟨ua484_1, uc484_1, rfl, ul484_1, ge484_1⟩ := k37_openF hMe484
             have hv484_1 := hcc484 1 _ rfl
             rw [add_field _ _ 1 (by omega)] at hv484_1
             replace hv484_1 := Option.some.inj (hv484_1.symm.trans hx484_1)
             injection hv484_1 with hva_ hvn_ hvc_
             rw [hva_] at ge484_1
             rw [hvc_] at ul484_1
             have HL484_1 := Aside0.mk (show Kd.V k27 27 _ w.heap.size _ _ ((rd_T37 t480 x25_2).f1) from Kd.V_mk ul484_1 ge484_1)
             clear hva_ hvn_ hvc_ ge484_1 ul484_1
             clear hcc484 hce484
             have HR484_1 := Aside0.mk hi484_1
             have HC484_1 := Aside0.mk hl484_1
             clear hi484_1 hl484_1
             replace p484 := eq_true p484
             replace q484 := eq_true q484
             go_wp2_with (first | (first | (with_reducible refine wp_label ?_) | (with_reducible refine wp_scope_straight ?_) | (simp only [Exit.noGoto_ret, Exit.noGoto_normal, Exit.noGoto_exit])) | ((with_reducible refine gate_dst (N := 11) rfl ?_); refine box_event ?hg (N := 11) ?hd (cs := #[.int .i64 0, .slice none 0 0]) (t := 37) ?hr ?_; (case hd => rfl); (case hg => rfl); (case hr => first | (go_simp; done) | (go_simp; rfl)); intro gb485 hg w16 hbox hb; have n0_ := Aside0.mk (Kd.N_below (Kd.N_elderB (by (with_reducible repeat (first | apply Kd.N_alloc | apply Kd.N_drewN | apply Kd.N_drew)); exact HO_5.out) gb485 (Nat.le_of_eq hg.symm)) hb); have n1_ := Aside0.mk (Kd.N_below (Kd.N_elderB (by (with_reducible repeat (first | apply Kd.N_alloc | apply Kd.N_drewN | apply Kd.N_drew)); exact HO_23.out) gb485 (Nat.le_of_eq hg.symm)) hb); have n2_ := Aside0.mk (Kd.V_below (Kd.V_elderB (by (with_reducible repeat (first | apply Kd.V_alloc | apply Kd.V_drewN | apply Kd.V_drew)); exact HL484_1.out) gb485 (Nat.le_of_eq hg.symm)) hb); have n3_ := Aside0.mk (Kd.C_below (by repeat (first | (with_reducible exact HR484_1.out) | (with_reducible refine Kd.C_alloc ?_ _) | (with_reducible refine Kd.C_drewN ?_ _) | (with_reducible refine Kd.C_drew ?_) | exact HR484_1.out)) hb); have n4_ := Aside0.mk (below_step (by repeat (first | (with_reducible first | exact HB.out | apply below_alloc | apply pw_below_drewN | apply below_drew1) | exact HB.out | exact Below.refl _ _)) hb); have n5_ := Aside0.mk (hbox); have n6_ := Aside0.mk ((by rw [hg]; exact (below_size (by repeat (first | (with_reducible first | exact HB.out | apply below_alloc | apply pw_below_drewN | apply below_drew1) | exact HB.out | exact Below.refl _ _))) : w.heap.size ≤ gb485)); have n7_ := Aside0.mk ((by rw [hg]; exact (below_size (by repeat (first | (with_reducible first | exact HB.out | apply below_alloc | apply pw_below_drewN | apply below_drew1) | exact HB.out | exact Below.refl _ _))) : w.heap.size ≤ gb485)); clear HO_5; clear HO_23; clear HL484_1; clear HR484_1; clear HB; have HO_5 := n0_; have HO_23 := n1_; have HL484_1 := n2_; have HR484_1 := n3_; have HB := n4_; have BK485 := n5_; have GW485 := n6_; have GE485 := n7_; clear n0_ n1_ n2_ n3_ n4_ n5_ n6_ n7_; clear hb hbox hg; have hcz17_0 : w16.cell? ⟨gb485, 0, none⟩ = some (.int .i64 0) := (blk_cell BK485.out 0).trans rfl; have hcz17_1 : w16.cell? ⟨gb485, 1, none⟩ = some (.slice none 0 0) := (blk_cell BK485.out 1).trans rfl; have hfz17_0 := blk_frozen BK485.out 0; have hfz17_1 := blk_frozen BK485.out 1))
             go_ret
             exact ⟨_, by first | rfl | (simp [errW_none, errW_some] <;> rfl) | (simp [*, errW_none, errW_some] <;> rfl), by (with_reducible repeat (first | apply Kd.N_alloc | apply Kd.N_drewN | apply Kd.N_drew)); exact Kd.N_mono (Kd.N_far (p := ⟨gb485, 1, none⟩) (Kd.N_far (p := ⟨gb485, 0, none⟩) (Kd.N_mono HO_5.out (fun k_ hk => (⟨hk, hk.2⟩ : _ ∧ k_ ≠ gb485))) (fun _ hk => hk.2) (.int .i64 ((rd_T37 t480 x25_2).f0))) (fun _ hk => hk.2) (.slice A484_1 ((rd_T37 t480 x25_2).f1).length c484_1)) (fun _ hk => hk.1.1.1), by repeat (first | (with_reducible first | exact HB.out | apply below_alloc | apply pw_below_drewN | apply below_drew1 | refine below_set ?_ GE485.out) | exact HB.out | exact Below.refl _ _)⟩
            ·
             rw [if_neg c15] at H
             have c15b0 : decide (x1_2 < (wrap64 (((rd_T37 t480 x25_2).f0) - 1))) = false := decide_eq_false c15
             clear c15
             by_cases c18 : x5_2.length < 4398046511104
             ·
              rw [if_pos c18] at H
              have LMc18 := Aside0.mk c18
              clear c18
              obtain ⟨y486, hy486⟩ : ∃ y_ : List (S37), y_ = (x5_2 ++ [(⟨(rd_T37 t480 x25_2).f0, (rd_T37 t480 x25_2).f1⟩ : S37)]) := ⟨_, rfl⟩
              replace H : (replay_Join.l1 k2 ((rd_T37 t480 x25_2).f0) y486 l0 (l0.length : Int) x14_1 t480 (t480.length : Int) (wrap64 (x25_2 + 1))) = some r := by first | (rw [hy486]; with_reducible exact H) | (have H2_ := (Option.bind_some _ _).symm.trans H; rw [hy486]; with_reducible exact H2_) | (have H2_ := (Option.bind_some _ _).symm.trans H; with_reducible exact H2_) | with_reducible exact H | (rw [hy486]; exact H) | exact H
              have Ny486 := Aside0.mk hy486
              clear hy486
              have H' := Aside0.mk H
              clear H
              have p484 : 0 ≤ (x25_2 : Int) := of_decide_eq_true (by first | (with_reducible assumption) | assumption)
              have q484 : x25_2 < (t480.length : Int) := of_decide_eq_true (by first | (with_reducible assumption) | assumption)
              obtain ⟨ad484, A484_1, c484_1, e484, hx484_0, hx484_1, hl484_1, hi484_1⟩ := at_T37 (Kd.N_reads' HO_23.out).2.2 x25_2 p484 q484
              cases e484
              obtain ⟨ce484, hce484, hMe484, hcc484⟩ := Kd.N_get HO_23.out z37 x25_2 p484 (by first | exact q484 | exact of_decide_eq_true (by first | (with_reducible assumption) | assumption) | (have e_ := (Kd.N_reads' HO_23.out).1; omega))
              obtain ⟨ua484_1, uc484_1, rfl, ul484_1, ge484_1⟩ := k37_openF hMe484
              have hv484_1 := hcc484 1 _ rfl
              rw [add_field _ _ 1 (by omega)] at hv484_1
              replace hv484_1 := Option.some.inj (hv484_1.symm.trans hx484_1)
              injection hv484_1 with hva_ hvn_ hvc_
              rw [hva_] at ge484_1
              rw [hvc_] at ul484_1
              have HL484_1 := Aside0.mk (show Kd.V k27 27 _ w.heap.size _ _ ((rd_T37 t480 x25_2).f1) from Kd.V_mk ul484_1 ge484_1)
              clear hva_ hvn_ hvc_ ge484_1 ul484_1
              clear hcc484 hce484
              have HR484_1 := Aside0.mk hi484_1
              have HC484_1 := Aside0.mk hl484_1
              clear hi484_1 hl484_1
              replace p484 := eq_true p484
              replace q484 := eq_true q484
              try go_wp2_with (first | (first | (with_reducible refine wp_label ?_) | (with_reducible refine wp_scope_straight ?_) | (simp only [Exit.noGoto_ret, Exit.noGoto_normal, Exit.noGoto_exit])) | ((with_reducible refine gate_dst (N := 11) rfl ?_); refine box_event ?hg (N := 11) ?hd (cs := #[.int .i64 0, .slice none 0 0]) (t := 37) ?hr ?_; (case hd => rfl); (case hg => rfl); (case hr => first | (go_simp; done) | (go_simp; rfl)); intro gb485 hg w19 hbox hb; have n0_ := Aside0.mk (Kd.N_below (Kd.N_elderB (by (with_reducible repeat (first | apply Kd.N_alloc | apply Kd.N_drewN | apply Kd.N_drew)); exact HO_5.out) gb485 (Nat.le_of_eq hg.symm)) hb); have n1_ := Aside0.mk (Kd.N_below (Kd.N_elderB (by (with_reducible repeat (first | apply Kd.N_alloc | apply Kd.N_drewN | apply Kd.N_drew)); exact HO_23.out) gb485 (Nat.le_of_eq hg.symm)) hb); have n2_ := Aside0.mk (Kd.V_below (Kd.V_elderB (by (with_reducible repeat (first | apply Kd.V_alloc | apply Kd.V_drewN | apply Kd.V_drew)); exact HL484_1.out) gb485 (Nat.le_of_eq hg.symm)) hb); have n3_ := Aside0.mk (Kd.C_below (by repeat (first | (with_reducible exact HR484_1.out) | (with_reducible refine Kd.C_alloc ?_ _) | (with_reducible refine Kd.C_drewN ?_ _) | (with_reducible refine Kd.C_drew ?_) | exact HR484_1.out)) hb); have n4_ := Aside0.mk (below_step (by repeat (first | (with_reducible first | exact HB.out | apply below_alloc | apply pw_below_drewN | apply below_drew1) | exact HB.out | exact Below.refl _ _)) hb); have n5_ := Aside0.mk (hbox); have n6_ := Aside0.mk ((by rw [hg]; exact (below_size (by repeat (first | (with_reducible first | exact HB.out | apply below_alloc | apply pw_below_drewN | apply below_drew1) | exact HB.out | exact Below.refl _ _))) : w.heap.size ≤ gb485)); have n7_ := Aside0.mk ((by rw [hg]; exact (below_size (by repeat (first | (with_reducible first | exact HB.out | apply below_alloc | apply pw_below_drewN | apply below_drew1) | exact HB.out | exact Below.refl _ _))) : w.heap.size ≤ gb485)); clear HO_5; clear HO_23; clear HL484_1; clear HR484_1; clear HB; have HO_5 := n0_; have HO_23 := n1_; have HL484_1 := n2_; have HR484_1 := n3_; have HB := n4_; have BK485 := n5_; have GW485 := n6_; have GE485 := n7_; clear n0_ n1_ n2_ n3_ n4_ n5_ n6_ n7_; clear hb hbox hg; have hcz20_0 : w19.cell? ⟨gb485, 0, none⟩ = some (.int .i64 0) := (blk_cell BK485.out 0).trans rfl; have hcz20_1 : w19.cell? ⟨gb485, 1, none⟩ = some (.slice none 0 0) := (blk_cell BK485.out 1).trans rfl; have hfz20_0 := blk_frozen BK485.out 0; have hfz20_1 := blk_frozen BK485.out 1))
              have n0_ : Aside0 (Kd.N k37 37 ((w19.setCell ⟨gb485, 0, none⟩ (.int .i64 ((rd_T37 t480 x25_2).f0))).setCell ⟨gb485, 1, none⟩ (.slice A484_1 ((rd_T37 t480 x25_2).f1).length c484_1)) w.heap.size (fun k_ => (w.heap.size ≤ k_) ∧ some k_ ≠ (.slice (some ad484) t480.length co8 : Value).ownBlock ∧ k_ ≠ gb485) u5 x5_2) := ⟨by (with_reducible repeat (first | apply Kd.N_alloc | apply Kd.N_drewN | apply Kd.N_drew)); exact Kd.N_mono (Kd.N_far (p := ⟨gb485, 1, none⟩) (Kd.N_far (p := ⟨gb485, 0, none⟩) (Kd.N_mono HO_5.out (fun k_ hk => (⟨hk, hk.2⟩ : _ ∧ k_ ≠ gb485))) (fun _ hk => hk.2) (.int .i64 ((rd_T37 t480 x25_2).f0))) (fun _ hk => hk.2) (.slice A484_1 ((rd_T37 t480 x25_2).f1).length c484_1)) (fun _ hk => ⟨hk.1.1.1, ⟨hk.1.1.2, hk.1.2⟩⟩)⟩
              have n1_ : Aside0 (Kd.N k37 37 ((w19.setCell ⟨gb485, 0, none⟩ (.int .i64 ((rd_T37 t480 x25_2).f0))).setCell ⟨gb485, 1, none⟩ (.slice A484_1 ((rd_T37 t480 x25_2).f1).length c484_1)) w.heap.size (fun k_ => (w.heap.size ≤ k_) ∧ some k_ ≠ (u5 : Value).ownBlock ∧ k_ ≠ gb485) (.slice (some ad484) t480.length co8) t480) := ⟨by (with_reducible repeat (first | apply Kd.N_alloc | apply Kd.N_drewN | apply Kd.N_drew)); exact Kd.N_mono (Kd.N_far (p := ⟨gb485, 1, none⟩) (Kd.N_far (p := ⟨gb485, 0, none⟩) (Kd.N_mono HO_23.out (fun k_ hk => (⟨hk, hk.2⟩ : _ ∧ k_ ≠ gb485))) (fun _ hk => hk.2) (.int .i64 ((rd_T37 t480 x25_2).f0))) (fun _ hk => hk.2) (.slice A484_1 ((rd_T37 t480 x25_2).f1).length c484_1)) (fun _ hk => ⟨hk.1.1.1, ⟨hk.1.1.2, hk.1.2⟩⟩)⟩
              have n2_ : Aside0 (Kd.V k27 27 ((w19.setCell ⟨gb485, 0, none⟩ (.int .i64 ((rd_T37 t480 x25_2).f0))).setCell ⟨gb485, 1, none⟩ (.slice A484_1 ((rd_T37 t480 x25_2).f1).length c484_1)) w.heap.size (fun k_ => (w.heap.size ≤ k_) ∧ some k_ ≠ (u5 : Value).ownBlock ∧ some k_ ≠ (.slice (some ad484) t480.length co8 : Value).ownBlock ∧ k_ ≠ gb485) (.slice A484_1 ((rd_T37 t480 x25_2).f1).length c484_1) ((rd_T37 t480 x25_2).f1)) := ⟨by (with_reducible repeat (first | apply Kd.V_alloc | apply Kd.V_drewN | apply Kd.V_drew)); exact Kd.V_mono (Kd.V_far (p := ⟨gb485, 1, none⟩) (Kd.V_far (p := ⟨gb485, 0, none⟩) (Kd.V_mono HL484_1.out (fun k_ hk => (⟨hk, hk.2⟩ : _ ∧ k_ ≠ gb485))) (fun _ hk => hk.2) (.int .i64 ((rd_T37 t480 x25_2).f0))) (fun _ hk => hk.2) (.slice A484_1 ((rd_T37 t480 x25_2).f1).length c484_1)) (fun _ hk => ⟨hk.1.1.1.1, ⟨hk.1.1.1.2, ⟨hk.1.1.2, hk.1.2⟩⟩⟩)⟩
              have n3_ : Aside0 (((w19.setCell ⟨gb485, 0, none⟩ (.int .i64 ((rd_T37 t480 x25_2).f0))).setCell ⟨gb485, 1, none⟩ (.slice A484_1 ((rd_T37 t480 x25_2).f1).length c484_1)).heap[gb485]? = some (.cells #[.int .i64 ((rd_T37 t480 x25_2).f0), .slice A484_1 ((rd_T37 t480 x25_2).f1).length c484_1] 37 (0, 0))) := ⟨by (with_reducible repeat (first | refine blk_drewN ?_ _ | refine blk_drew ?_ | refine blk_alloc ?_ _)); refine blk_put (cs := #[.int .i64 ((rd_T37 t480 x25_2).f0), .slice none 0 0]) ?_ 1 _ rfl; (with_reducible repeat (first | refine blk_drewN ?_ _ | refine blk_drew ?_ | refine blk_alloc ?_ _)); refine blk_put (cs := #[.int .i64 0, .slice none 0 0]) ?_ 0 _ rfl; (with_reducible repeat (first | refine blk_drewN ?_ _ | refine blk_drew ?_ | refine blk_alloc ?_ _)); exact BK485.out⟩
              have n4_ : Aside0 (Below w.heap.size w ((w19.setCell ⟨gb485, 0, none⟩ (.int .i64 ((rd_T37 t480 x25_2).f0))).setCell ⟨gb485, 1, none⟩ (.slice A484_1 ((rd_T37 t480 x25_2).f1).length c484_1))) := ⟨by repeat (first | (with_reducible first | exact HB.out | apply below_alloc | apply pw_below_drewN | apply below_drew1 | refine below_set ?_ GE485.out) | exact HB.out | exact Below.refl _ _)⟩
              (try clear HO_5)
              (try clear HO_23)
              (try clear HL484_1)
              (try clear BK485)
              (try clear HB)
              generalize ((w19.setCell ⟨gb485, 0, none⟩ (.int .i64 ((rd_T37 t480 x25_2).f0))).setCell ⟨gb485, 1, none⟩ (.slice A484_1 ((rd_T37 t480 x25_2).f1).length c484_1)) = w21 at n0_ n1_ n2_ n3_ n4_ ⊢
              have HO_5 := n0_
              have HO_23 := n1_
              have HL484_1 := n2_
              have BK485 := n3_
              have HB := n4_
              clear n0_ n1_ n2_ n3_ n4_
              have n0_ := Aside0.mk (Kd.N_drew HO_5.out)
              have n1_ := Aside0.mk (Kd.N_drew HO_23.out)
              have n2_ := Aside0.mk (Kd.V_drew HL484_1.out)
              have n3_ := Aside0.mk (blk_drew BK485.out)
              have n4_ := Aside0.mk (below_drew1 HB.out)
              clear HO_5
              clear HO_23
              clear HL484_1
              clear BK485
              clear HB
              have HO_5 := n0_
              have HO_23 := n1_
              have HL484_1 := n2_
              have BK485 := n3_
              have HB := n4_
              clear n0_ n1_ n2_ n3_ n4_
              refine start_ (n := 8) (S := fun w' => w'.cell? ⟨gb485, 0, none⟩ = some (.int .i64 ((rd_T37 t480 x25_2).f0)) ∧ w'.cell? ⟨gb485, 1, none⟩ = some (.slice A484_1 ((rd_T37 t480 x25_2).f1).length c484_1)) (ds := []) #[false, false, false, false, false, false, false, false] (by kernel_rfl) rfl rfl ⟨(blk_cell BK485.out 0).trans rfl, (blk_cell BK485.out 1).trans rfl⟩ (fun hHeld => ?_); refine with_tabW replay_Join.tab11 replay_Join.bits11 (fun HT_ HW_ => ?_)
              generalize w21.drew = w22 at HO_5 HO_23 HL484_1 BK485 HB hHeld ⊢
              refine pure_ (i := 0) (N := some 40) (v := ?_) (a' := ?_) #[true, false, false, false, false, false, false, false] rfl rfl (any_of HT_.out (by kernel_rfl)) (fun _ _ _ h => h) (Or.inl ⟨by rfl, ?_⟩) ?_ ?_
              rotate_left
              ·
               intro w'
               go_simp
               with_reducible rfl
              rotate_left
              ·
               simp only [Act.put, List.setIfInBounds_toArray, List.set_cons_zero, List.set_cons_succ, i64_w, i32_w]
               rfl
              refine pure_ (i := 4) (N := some 44) (v := ?_) (a' := ?_) #[true, false, false, false, true, false, false, false] rfl rfl (any_of HT_.out (by kernel_rfl)) (fun _ _ _ h => h) (Or.inl ⟨by rfl, ?_⟩) ?_ ?_
              rotate_left
              ·
               intro w'
               go_simp
               with_reducible rfl
              rotate_left
              ·
               simp only [Act.put, List.setIfInBounds_toArray, List.set_cons_zero, List.set_cons_succ, i64_w, i32_w]
               rfl
              refine take_ (i := 1) (N := some 41) (v := ?_) (a' := ?_) #[true, true, false, false, true, false, false, false] rfl rfl (take_ofW HT_.out HW_.out (by kernel_rfl)) (fun _ _ _ h => h) (Or.inl ⟨by rfl, ?_⟩) hHeld ?_ ?_
              rotate_left
              ·
               rintro w' ⟨s0, s1⟩
               go_simp
               with_reducible rfl
              rotate_left
              ·
               simp only [Act.put, List.setIfInBounds_toArray, List.set_cons_zero, List.set_cons_succ, i64_w, i32_w]
               rfl
              refine take_ (i := 5) (N := some 45) (v := ?_) (a' := ?_) #[true, true, false, false, true, true, false, false] rfl rfl (take_ofW HT_.out HW_.out (by kernel_rfl)) (fun _ _ _ h => h) (Or.inl ⟨by rfl, ?_⟩) hHeld ?_ ?_
              rotate_left
              ·
               rintro w' ⟨s0, s1⟩
               go_simp
               with_reducible rfl
              rotate_left
              ·
               simp only [Act.put, List.setIfInBounds_toArray, List.set_cons_zero, List.set_cons_succ, i64_w, i32_w]
               rfl
              refine one_ (i := 2) (N := some 42) #[true, true, true, false, true, true, false, false] rfl rfl (one_of HT_.out (by kernel_rfl)) (by decide) (fun K hK => ?_)
              refine value_ (w1 := ?_) (v := ?_) (by rfl) rfl ?_ ?_
              rotate_left 2
              ·
               go_simp
               constructor
               · rfl
               · rfl
              refine hK.out _ _ ⟨(blk_cell (blk_alloc BK485.out _) 0).trans rfl, (blk_cell (blk_alloc BK485.out _) 1).trans rfl⟩ (fun hHeld => ?_)
              clear hK K
              refine norm_ (a' := ?_) ?_ ?_
              rotate_left
              ·
               show Act.put _ (some 42) _ = _
               simp only [Act.put, List.setIfInBounds_toArray, List.set_cons_zero, List.set_cons_succ, i64_w, i32_w]
               rfl
              refine one_ (i := 3) (N := some 43) #[true, true, true, true, true, true, false, false] rfl rfl (one_of HT_.out (by kernel_rfl)) (by decide) (fun K hK => ?_)
              refine Kd.N_append_step k37 (w0 := w) w.heap.size (by rfl) (.tmp 40) (.tmp 42) 48 37 (.agg #[(.int .i64 0), (.slice none 0 0)]) 32 rfl Try.underlying48 info37 rfl (by decide) (by omega) u5 x5_2 (⟨(rd_T37 t480 x25_2).f0, (rd_T37 t480 x25_2).f1⟩ : S37) [.int .i64 ((rd_T37 t480 x25_2).f0), .slice A484_1 ((rd_T37 t480 x25_2).f1).length c484_1] (fun k_ => (w.heap.size ≤ k_) ∧ some k_ ≠ (.slice (some ad484) t480.length co8 : Value).ownBlock ∧ k_ ≠ gb485) (fun k_ => ((fun k_ => (w.heap.size ≤ k_) ∧ some k_ ≠ (.slice (some ad484) t480.length co8 : Value).ownBlock ∧ k_ ≠ gb485)) k_ ∧ some k_ ≠ (u5 : Value).ownBlock) rfl rfl ?aP (fun _ hk => hk) ?aF ?aO ?aB ?aS ?aL ?_
              (case aP => exact (k37_mkF _ _ (⟨(rd_T37 t480 x25_2).f0, (rd_T37 t480 x25_2).f1⟩ : S37) (Kd.V_reads' (Kd.V_mono (ok' := (fun k_ => ((fun k_ => (w.heap.size ≤ k_) ∧ some k_ ≠ (.slice (some ad484) t480.length co8 : Value).ownBlock ∧ k_ ≠ gb485)) k_ ∧ some k_ ≠ (u5 : Value).ownBlock)) (HL484_1.out) (fun k_ hk => ⟨⟨hk.1, ⟨hk.2.2.1, hk.2.2.2⟩⟩, hk.2.1⟩))).2.1 (Kd.V_F (Kd.V_mono (ok' := (fun k_ => ((fun k_ => (w.heap.size ≤ k_) ∧ some k_ ≠ (.slice (some ad484) t480.length co8 : Value).ownBlock ∧ k_ ≠ gb485)) k_ ∧ some k_ ≠ (u5 : Value).ownBlock)) (HL484_1.out) (fun k_ hk => ⟨⟨hk.1, ⟨hk.2.2.1, hk.2.2.2⟩⟩, hk.2.1⟩)))))
              (case aB => exact (by repeat (first | (with_reducible first | exact HB.out | apply below_alloc | apply pw_below_drewN | apply below_drew1 | refine below_set ?_ GE485.out) | exact HB.out | exact Below.refl _ _)))
              (case aF => exact (fun k_ hk => ⟨(Nat.le_trans (below_size (by repeat (first | (with_reducible first | exact HB.out | apply below_alloc | apply pw_below_drewN | apply below_drew1 | refine below_set ?_ GE485.out) | exact HB.out | exact Below.refl _ _))) hk), Kd.fresh' (Kd.N_lt (by (with_reducible repeat (first | apply Kd.N_alloc | apply Kd.N_drewN | apply Kd.N_drew)); exact HO_23.out)) k_ hk, Kd.freshB (g := gb485) (o := .cells #[.int .i64 ((rd_T37 t480 x25_2).f0), .slice A484_1 ((rd_T37 t480 x25_2).f1).length c484_1] 37 (0, 0)) (by (with_reducible repeat (first | refine blk_drewN ?_ _ | refine blk_drew ?_ | refine blk_alloc ?_ _)); exact BK485.out) k_ hk⟩))
              (case aO => exact (by (with_reducible repeat (first | apply Kd.N_alloc | apply Kd.N_drewN | apply Kd.N_drew)); exact HO_5.out))
              (case aS => exact (below_size (by repeat (first | (with_reducible first | exact HB.out | apply below_alloc | apply pw_below_drewN | apply below_drew1 | refine below_set ?_ GE485.out) | exact HB.out | exact Below.refl _ _))))
              (case aL => have := LMc18.out; omega)
              intro v487 w23 ho hb hg hat
              rw [← Ny486.out] at ho
              have n0_ := Aside0.mk (Kd.N_afterv (ok := (fun k_ => (w.heap.size ≤ k_) ∧ k_ ≠ gb485)) (by (with_reducible repeat (first | apply Kd.N_alloc | apply Kd.N_drewN | apply Kd.N_drew)); exact Kd.N_mono HO_23.out (fun _ hk => ⟨⟨hk.1, hk.2.2⟩, hk.2.1⟩)) hg hat)
              have n1_ := Aside0.mk (Kd.V_afterv (ok := (fun k_ => (w.heap.size ≤ k_) ∧ some k_ ≠ (.slice (some ad484) t480.length co8 : Value).ownBlock ∧ k_ ≠ gb485)) (by (with_reducible repeat (first | apply Kd.V_alloc | apply Kd.V_drewN | apply Kd.V_drew)); exact Kd.V_mono HL484_1.out (fun _ hk => ⟨⟨hk.1, ⟨hk.2.2.1, hk.2.2.2⟩⟩, hk.2.1⟩)) hg hat)
              have n2_ := Aside0.mk (blk_grown (g := gb485) (o := .cells #[.int .i64 ((rd_T37 t480 x25_2).f0), .slice A484_1 ((rd_T37 t480 x25_2).f1).length c484_1] 37 (0, 0)) (by (with_reducible repeat (first | refine blk_drewN ?_ _ | refine blk_drew ?_ | refine blk_alloc ?_ _)); exact BK485.out) hg (Kd.N_away HO_5.out (fun _ hk => hk.2.2)))
              have n3_ := Aside0.mk (hb)
              have n4_ := Aside0.mk (ho)
              clear HO_23
              clear HL484_1
              clear BK485
              clear HB
              clear HO_5
              have HO_23 := n0_
              have HL484_1 := n1_
              have BK485 := n2_
              have HB := n3_
              have HO488 := n4_
              clear n0_ n1_ n2_ n3_ n4_
              clear ho hb hg hat
              refine hK.out _ _ ⟨(blk_cell BK485.out 0).trans rfl, (blk_cell BK485.out 1).trans rfl⟩ (fun hHeld => ?_)
              clear hK K
              refine norm_ (a' := ?_) ?_ ?_
              rotate_left
              ·
               show Act.put _ (some 43) _ = _
               simp only [Act.put, List.setIfInBounds_toArray, List.set_cons_zero, List.set_cons_succ, i64_w, i32_w]
               rfl
              refine pure_ (i := 6) (N := some 5) (v := ?_) (a' := ?_) #[true, true, true, true, true, true, true, false] rfl rfl (any_of HT_.out (by kernel_rfl)) (fun _ _ _ h => h) (Or.inl ⟨by rfl, ?_⟩) ?_ ?_
              rotate_left
              ·
               intro w'
               go_simp
               with_reducible rfl
              rotate_left
              ·
               simp only [Act.put, List.setIfInBounds_toArray, List.set_cons_zero, List.set_cons_succ, i64_w, i32_w]
               rfl
              refine pure_ (i := 7) (N := some 1) (v := ?_) (a' := ?_) #[true, true, true, true, true, true, true, true] rfl rfl (any_of HT_.out (by kernel_rfl)) (fun _ _ _ h => h) (Or.inl ⟨by rfl, ?_⟩) ?_ ?_
              rotate_left
              ·
               intro w'
               go_simp
               with_reducible rfl
              rotate_left
              ·
               simp only [Act.put, List.setIfInBounds_toArray, List.set_cons_zero, List.set_cons_succ, i64_w, i32_w]
               rfl
              refine done_ (done_of HT_.out (by kernel_rfl)) ?_
              try go_wp2_with (first | (with_reducible refine wp_label ?_) | (with_reducible refine wp_scope_straight ?_) | (simp only [Exit.noGoto_ret, Exit.noGoto_normal, Exit.noGoto_exit]))
              go_roundg k2
              case measure => have := HK1.out; have := HK2.out; omega
              case rel => exact ⟨((rd_T37 t480 x25_2).f0), (y486), (wrap64 (x25_2 + 1)), (by first | rfl | (simp; done) | (simp [*]; done)), (by first | rfl | (simp; done) | (simp [*]; done)), H', ⟨by have := HK1.out; have := HK2.out; omega⟩, ⟨by (with_reducible repeat (first | apply Kd.N_alloc | apply Kd.N_drewN | apply Kd.N_drew)); exact Kd.N_mono HO488.out (fun _ hk => ⟨hk.1, hk.2.1⟩)⟩, ⟨by (with_reducible repeat (first | apply Kd.N_alloc | apply Kd.N_drewN | apply Kd.N_drew)); exact Kd.N_mono HO_23.out (fun _ hk => ⟨hk.1.1, hk.2⟩)⟩, ⟨by repeat (first | (with_reducible first | exact HB.out | apply below_alloc | apply pw_below_drewN | apply below_drew1 | refine below_set ?_ GE485.out) | exact HB.out | exact Below.refl _ _)⟩⟩
             ·
              rw [if_neg c18] at H
              exact absurd H (by simp)
          ·
           rw [if_neg c11] at H
           exact absurd H (by simp)
         ·
          rw [if_neg c10] at H
          exact absurd H (by simp)
        ·
         rw [if_neg c9] at H
         have c9b0 : decide (x25_2 < (t480.length : Int)) = false := decide_eq_false c9
         clear c9
         have H' := Aside0.mk H
         clear H
         go_wp2_with (first | (with_reducible refine wp_label ?_) | (with_reducible refine wp_scope_straight ?_) | (simp only [Exit.noGoto_ret, Exit.noGoto_normal, Exit.noGoto_exit]))
         go_roundg k2
         case measure => have := HK1.out; have := HK2.out; omega
         case rel => exact ⟨(x1_2), (x5_2), (wrap64 (x14_1 + 1)), (by first | rfl | (simp; done) | (simp [*]; done)), (by first | rfl | (simp; done) | (simp [*]; done)), H', ⟨by have := HK1.out; have := HK2.out; omega⟩, ⟨by (with_reducible repeat (first | apply Kd.N_alloc | apply Kd.N_drewN | apply Kd.N_drew)); exact Kd.N_mono HO_5.out (fun _ hk => hk.1)⟩, ⟨by repeat (first | (with_reducible first | exact HB.out | apply below_alloc | apply pw_below_drewN | apply below_drew1) | exact HB.out | exact Below.refl _ _)⟩⟩
     ·
      rw [if_neg c5] at H
      exact absurd H (by simp)
    ·
     rw [if_neg c4] at H
     exact absurd H (by simp)
   ·
    rw [if_neg c3] at H
    have c3b0 : decide (x14_1 < (l0.length : Int)) = false := decide_eq_false c3
    clear c3
    obtain rfl := Option.some.inj H
    go_wp2_with (first | (with_reducible refine wp_label ?_) | (with_reducible refine wp_scope_straight ?_) | (simp only [Exit.noGoto_ret, Exit.noGoto_normal, Exit.noGoto_exit]))
    go_ret
    exact ⟨_, by first | rfl | (simp [errW_none, errW_some] <;> rfl) | (simp [*, errW_none, errW_some] <;> rfl), by (with_reducible repeat (first | apply Kd.N_alloc | apply Kd.N_drewN | apply Kd.N_drew)); exact HO_5.out, by repeat (first | (with_reducible first | exact HB.out | apply below_alloc | apply pw_below_drewN | apply below_drew1) | exact HB.out | exact Below.refl _ _)⟩

end Go.Proofs.Ytgannkfpfhdhjaa.PReplayJoins
