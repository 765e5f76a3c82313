/- The functions that a law reaches, as Lean functions, each with the contract that its Go code comes to just these answers. Written by a program of this claim's author (wip/mkprint.py). No conditions. -/
import Derived.Test.YtoomipmndapgnaaPMergePartsx0
import Derived.Test.YtoomipmndapgnaaPMergePartsx8
namespace Go.Proofs.Ytoomipmndapgnaa.PMergeParts
open Go.RowKit Go.Proofs.YtoomipmndapgnaaW.PrintWords Go.Proofs.YtoomipmndapgnaaW.PrintLast Go.Proofs.YtoomipmndapgnaaW.PrintMore
attribute [local go_sem] max2_int min2_int max_two min_two max_three min_three max_four min_four   -- for this text's walks alone
set_option linter.unusedVariables false
set_option linter.unusedSimpArgs false

/-! ### api_Pair_51: function 51 -/
def api_Pair_51.l0 : Nat → List (S47) → Int → Int → Option ((List (S47)))
 | 0, _, _, _ => none
 | k + 1, x0, x2, x3 => if x2 < x3 then (if 0 ≤ x3 then (if x3 < (x0.length : Int) then (if 0 ≤ x2 then (if x2 < (x0.length : Int) then (api_Pair_51.l0 k ((x0.set (x2 : Int).toNat (⟨(rd_T47 x0 x3).f0, (rd_T47 x0 x3).f1⟩ : S47)).set (x3 : Int).toNat (⟨(rd_T47 x0 x2).f0, (rd_T47 x0 x2).f1⟩ : S47)) (wrap64 (x2 + 1)) (wrap64 (x3 - 1))) else (none)) else (none)) else (none)) else (none)) else (some x0)
def api_Pair_51.f (k : Nat) (l0 : List (S47)) : Option ((List (S47))) := api_Pair_51.l0 k l0 0 (wrap64 ((l0.length : Int) - 1))
theorem api_Pair_51.mono_l : ∀ k, (∀ y0 y1 y2, LeO (api_Pair_51.l0 k y0 y1 y2) (api_Pair_51.l0 (k + 1) y0 y1 y2))
 | 0 => fun _ _ _ r h => by simp [api_Pair_51.l0] at h
 | k + 1 => by
  have ih0 := api_Pair_51.mono_l k
  ·
   intro y0 y1 y2
   unfold api_Pair_51.l0
   repeat' first
   | (with_reducible exact ih0 _ _ _)
   | (with_reducible exact LeO.refl _)
   | (with_reducible exact LeO.none _)
   | (with_reducible refine LeO.ite ?_ ?_)
   | (with_reducible refine LeO.bind ?_ (fun _ => ?_))
   | exact ih0 _ _ _
   | exact LeO.none _
   | refine LeO.ite ?_ ?_
   | refine LeO.bind ?_ (fun _ => ?_)
theorem api_Pair_51.mono : ∀ a0 k, LeO (api_Pair_51.f k a0) (api_Pair_51.f (k + 1) a0) := by
 intro a0 k
 have ih0 := api_Pair_51.mono_l k
 unfold api_Pair_51.f
 repeat' first
  | (with_reducible exact ih0 _ _ _)
  | (with_reducible exact LeO.refl _)
  | (with_reducible exact LeO.none _)
  | (with_reducible refine LeO.ite ?_ ?_)
  | (with_reducible refine LeO.bind ?_ (fun _ => ?_))
  | exact ih0 _ _ _
  | exact LeO.none _
  | refine LeO.ite ?_ ?_
  | refine LeO.bind ?_ (fun _ => ?_)
def api_Pair_51.T3 : Bool × List (List Nat × List Nat) := (true, [([], []), ([], []), ([], []), ([], []), ([], []), ([], []), ([4, 5], [4, 5]), ([6], [6]), ([], []), ([], []), ([8, 9], [8, 9]), ([10], [10]), ([0, 1, 0, 1, 4, 5, 6, 7, 11], [0, 1]), ([12, 7, 0, 1, 4, 5, 6, 7, 11], [7, 12]), ([2, 3, 0, 1, 2, 3, 4, 5, 6, 7, 8, 9, 10, 11, 12, 13], [2, 3]), ([14, 11, 13, 0, 1, 2, 3, 4, 5, 6, 7, 8, 9, 10, 11, 12, 13], [11, 14])])
def api_Pair_51.B3 : List Nat := [0, 0, 0, 0, 0, 0, 48, 112, 0, 0, 768, 1792, 4083, 8179, 16383, 32767]
theorem api_Pair_51.tab3 : rtab .any (opsOf Try.f51 3) = api_Pair_51.T3 := by kernel_rfl
theorem api_Pair_51.bits3 : waitsOk api_Pair_51.T3.2 api_Pair_51.B3 = true := by kernel_rfl
set_option maxHeartbeats 80000000 in
set_option maxRecDepth 100000 in
theorem api_Pair_51.calls (k : Nat) (P0_ : Nat → Prop) (u9000_ : Value) (l0 : List (S47)) (r : List (S47)) (w0 w : World) (hB : Below w0.heap.size w0 w) (ho0 : Kd.R k47 47 w w0.heap.size P0_ u9000_ l0) (h : api_Pair_51.f k l0 = some r) :
 Calls Try.prog 51 #[u9000_] w fun e w' => e = .returned (.tuple #[]) ∧ Kd.R k47 47 w' w0.heap.size (fun k_ => (P0_ k_ ∨ w.heap.size ≤ k_)) u9000_ r ∧ Below w0.heap.size w0 w' ∧ Kept w w' (fun k_ => P0_ k_) := by
 have hu47 := Try.underlying47
 have HO0 := Aside0.mk (show Kd.R k47 47 w w0.heap.size (fun k_ => (P0_ k_ ∨ w.heap.size ≤ k_)) u9000_ l0 from Kd.R_mono ho0 (fun k_ hk => (.inl hk)))
 have HK := Aside0.mk (Kept.refl w (fun k_ => P0_ k_))
 have HW0 := Aside0.mk hB.size
 have HB := Aside0.mk hB
 clear hB
 have H : (api_Pair_51.l0 k l0 0 (wrap64 ((l0.length : Int) - 1))) = some r := h
 clear h
 have H' := Aside0.mk H
 clear H
 obtain ⟨Ao2, co2, eo2⟩ := Kd.R_slice HO0.out
 subst eo2
 go_enter Try.func51, Try.ntmps51
 go_wp2
 go_loopg [2, 3] k (fun kq v2 v3 w' => ∃ (x0_1 : List (S47)) (x2_1 : Int) (x3_1 : Int), v2 = .int .i64 x2_1 ∧ v3 = .int .i64 x3_1 ∧ Aside0 (api_Pair_51.l0 kq x0_1 x2_1 x3_1 = some r) ∧ Aside0 (kq ≤ k) ∧ Aside0 (Kd.R k47 47 w' w0.heap.size (fun k_ => (P0_ k_ ∨ w.heap.size ≤ k_)) (.slice Ao2 l0.length co2) x0_1) ∧ Aside0 (Kept w w' (fun k_ => P0_ k_)) ∧ Aside0 (Below w0.heap.size w0 w'))
 case atStart => exact ⟨(l0), (0), (wrap64 ((l0.length : Int) - 1)), (by first | rfl | (simp; done) | (simp [*]; done)), (by first | rfl | (simp; done) | (simp [*]; done)), H', ⟨Nat.le_refl _⟩, ⟨by (with_reducible repeat (first | apply Kd.R_alloc | apply Kd.R_drewN | apply Kd.R_drew)); exact HO0.out⟩, ⟨by repeat (first | (with_reducible first | exact HK.out | apply Kept.alloc | apply Kept.drewN | apply Kept.drew) | exact HK.out)⟩, ⟨by repeat (first | (with_reducible first | exact HB.out | apply below_alloc | apply pw_below_drewN | apply below_drew1) | exact HB.out | exact Below.refl _ _)⟩⟩
 case round =>
  clear H'
  obtain ⟨x0_1, x2_1, x3_1, rfl, rfl, HA, HK1, HO_0, HK, HB⟩ := hrel
  have hl0_1 := (Kd.R_reads' HO_0.out).1
  rw [hl0_1] at HO_0
  (try simp only [hl0_1])
  cases gk with
  | zero => exact absurd HA.out (by simp [api_Pair_51.l0])
  | succ k1 =>
   have H := HA.out
   clear HA
   simp only [api_Pair_51.l0] at H
   by_cases c3 : x2_1 < x3_1
   ·
    rw [if_pos c3] at H
    have c3b0 : decide (x2_1 < x3_1) = true := decide_eq_true c3
    clear c3
    by_cases c4 : 0 ≤ x3_1
    ·
     rw [if_pos c4] at H
     have c4b0 : decide (0 ≤ x3_1) = true := decide_eq_true c4
     clear c4
     by_cases c5 : x3_1 < (x0_1.length : Int)
     ·
      rw [if_pos c5] at H
      have c5b0 : decide (x3_1 < (x0_1.length : Int)) = true := decide_eq_true c5
      clear c5
      by_cases c6 : 0 ≤ x2_1
      ·
       rw [if_pos c6] at H
       have c6b0 : decide (0 ≤ x2_1) = true := decide_eq_true c6
       clear c6
       by_cases c7 : x2_1 < (x0_1.length : Int)
       ·
        rw [if_pos c7] at H
        have c7b0 : decide (x2_1 < (x0_1.length : Int)) = true := decide_eq_true c7
        clear c7
        obtain ⟨y222, hy222⟩ : ∃ y_ : List (S47), y_ = (x0_1.set (x2_1 : Int).toNat (⟨(rd_T47 x0_1 x3_1).f0, (rd_T47 x0_1 x3_1).f1⟩ : S47)) := ⟨_, rfl⟩
        replace H : (api_Pair_51.l0 k1 (y222.set (x3_1 : Int).toNat (⟨(rd_T47 x0_1 x2_1).f0, (rd_T47 x0_1 x2_1).f1⟩ : S47)) (wrap64 (x2_1 + 1)) (wrap64 (x3_1 - 1))) = some r := by first | (rw [hy222]; with_reducible exact H) | (have H2_ := (Option.bind_some _ _).symm.trans H; rw [hy222]; with_reducible exact H2_) | (have H2_ := (Option.bind_some _ _).symm.trans H; with_reducible exact H2_) | with_reducible exact H | (rw [hy222]; exact H) | exact H
        have Ny222 := Aside0.mk hy222
        clear hy222
        obtain ⟨y223, hy223⟩ : ∃ y_ : List (S47), y_ = (y222.set (x3_1 : Int).toNat (⟨(rd_T47 x0_1 x2_1).f0, (rd_T47 x0_1 x2_1).f1⟩ : S47)) := ⟨_, rfl⟩
        replace H : (api_Pair_51.l0 k1 y223 (wrap64 (x2_1 + 1)) (wrap64 (x3_1 - 1))) = some r := by first | (rw [hy223]; with_reducible exact H) | (have H2_ := (Option.bind_some _ _).symm.trans H; rw [hy223]; with_reducible exact H2_) | (have H2_ := (Option.bind_some _ _).symm.trans H; with_reducible exact H2_) | with_reducible exact H | (rw [hy223]; exact H) | exact H
        have Ny223 := Aside0.mk hy223
        clear hy223
        have H' := Aside0.mk H
        clear H
        try go_wp2
        have n0_ := Aside0.mk (Kd.R_drew HO_0.out)
        have n1_ := Aside0.mk (Kept.drew HK.out)
        have n2_ := Aside0.mk (below_drew1 HB.out)
        clear HO_0
        clear HK
        clear HB
        have HO_0 := n0_
        have HK := n1_
        have HB := n2_
        clear n0_ n1_ n2_
        have p220 : 0 ≤ (x3_1 : Int) := of_decide_eq_true (by first | (with_reducible assumption) | assumption)
        have q220 : x3_1 < (x0_1.length : Int) := of_decide_eq_true (by first | (with_reducible assumption) | assumption)
        obtain ⟨ad220, e220, hx220_0, hx220_1⟩ := at_T47 (Kd.R_reads' HO_0.out).2.2 x3_1 p220 q220
        cases e220
        replace p220 := eq_true p220
        replace q220 := eq_true q220
        have p221 : 0 ≤ (x2_1 : Int) := of_decide_eq_true (by first | (with_reducible assumption) | assumption)
        have q221 : x2_1 < (x0_1.length : Int) := of_decide_eq_true (by first | (with_reducible assumption) | assumption)
        obtain ⟨ad221, e221, hx221_0, hx221_1⟩ := at_T47 (Kd.R_reads' HO_0.out).2.2 x2_1 p221 q221
        obtain rfl : ad220 = ad221 := (by injection e221)
        replace p221 := eq_true p221
        replace q221 := eq_true q221
        have p8 : 0 ≤ (x2_1 : Int) := of_decide_eq_true (by first | (with_reducible assumption) | assumption)
        have q8 : (x2_1 : Int) < ((x0_1.length : Int) : Int) := of_decide_eq_true (by first | (with_reducible assumption) | assumption)
        obtain ⟨go8, co8, eo8, gb8, gl8, cl8, HG8⟩ := Kd.R_form HO_0.out (by omega)
        (first | cases eo8 | (injection eo8 with ea_ en_ ec_; (first | subst ea_ | (injection ea_ with ea_; subst ea_)); subst ec_; clear en_))
        have GB8 := Aside0.mk gb8
        have GG8 := Aside0.mk HG8
        clear gb8 gl8 HG8
        have HMgo8 := Aside0.mk (show (P0_ go8 ∨ w.heap.size ≤ go8) from (HO_0.out.1 _ rfl))
        (first | simp only [add_plain] at hx220_0 | skip)
        (first | simp only [add_plain] at hx220_1 | skip)
        (first | simp only [add_plain] at hx221_0 | skip)
        (first | simp only [add_plain] at hx221_1 | skip)
        obtain ⟨ce8, hcl8, hM8, hcc8, hfr8⟩ := Kd.R_elem HO_0.out z47 (x2_1 : Int) p8 q8
        obtain rfl := k47_openM hM8
        have hx8_0 : World.cell? _ ⟨go8, (x2_1 : Int).toNat * 2, none⟩ = some (.string ((rd_T47 x0_1 x2_1).f0)) := hcc8 0 _ rfl
        have hx8_1 : World.cell? _ ⟨go8, (x2_1 : Int).toNat * 2 + 1, none⟩ = some (.string ((rd_T47 x0_1 x2_1).f1)) := hcc8 1 _ rfl
        have hf8_0 : World.frozen? _ ⟨go8, (x2_1 : Int).toNat * 2, none⟩ = false := hfr8 0
        have hf8_1 : World.frozen? _ ⟨go8, (x2_1 : Int).toNat * 2 + 1, none⟩ = false := hfr8 1
        clear hcl8 hcc8 hfr8 hM8
        replace p8 := eq_true p8
        replace q8 := eq_true q8
        obtain ⟨ce11, hcl11, hM11, hcc11, hfr11⟩ := Kd.R_elem HO_0.out z47 (x2_1 : Int) (of_decide_eq_true (by first | (with_reducible assumption) | assumption)) (by have h_ : (x2_1 : Int) < ((x0_1.length : Int) : Int) := of_decide_eq_true (by first | (with_reducible assumption) | assumption); first | exact h_ | (have e_ := (Kd.R_reads' HO_0.out).1; omega) | simpa using h_)
        obtain rfl := k47_openM hM11
        have HP11 := (Kd.R_seg HO_0.out (x2_1 : Int) (of_decide_eq_true (by first | (with_reducible assumption) | assumption)) (by have h_ : (x2_1 : Int) < ((x0_1.length : Int) : Int) := of_decide_eq_true (by first | (with_reducible assumption) | assumption); first | exact h_ | (have e_ := (Kd.R_reads' HO_0.out).1; omega) | simpa using h_) (seg := [.string ((rd_T47 x0_1 x3_1).f0), .string ((rd_T47 x0_1 x3_1).f1)]) (j := 0) hcl11 hcc11 (show 2 ≤ 2 from by decide) (x' := (⟨(rd_T47 x0_1 x3_1).f0, (rd_T47 x0_1 x3_1).f1⟩ : S47)) (k47_mkM _ _ _ (⟨(rd_T47 x0_1 x3_1).f0, (rd_T47 x0_1 x3_1).f1⟩ : S47) ) (fun _ hk => hk)).1
        rw [← Ny222.out] at HP11
        have HQ11 := Aside0.mk HP11
        clear hcl11 hcc11 hfr11 hM11 HP11
        have p9 : 0 ≤ (x3_1 : Int) := of_decide_eq_true (by first | (with_reducible assumption) | assumption)
        have q9 : (x3_1 : Int) < ((x0_1.length : Int) : Int) := of_decide_eq_true (by first | (with_reducible assumption) | assumption)
        obtain ⟨ce9, hcl9, hM9, hcc9, hfr9⟩ := Kd.R_elem HQ11.out z47 (x3_1 : Int) p9 q9
        obtain rfl := k47_openM hM9
        have hx9_0 : World.cell? (World.setCell (World.setCell wr.drew ⟨go8, (x2_1 : Int).toNat * 2, none⟩ (.string ((rd_T47 x0_1 x3_1).f0))) ⟨go8, (x2_1 : Int).toNat * 2 + 1, none⟩ (.string ((rd_T47 x0_1 x3_1).f1))) ⟨go8, (x3_1 : Int).toNat * 2, none⟩ = some (.string ((rd_T47 y222 x3_1).f0)) := hcc9 0 _ rfl
        have hy9_0 : World.cell? (World.setCell wr.drew ⟨go8, (x2_1 : Int).toNat * 2, none⟩ (.string ((rd_T47 x0_1 x3_1).f0))) ⟨go8, (x3_1 : Int).toNat * 2, none⟩ = some (.string ((rd_T47 y222 x3_1).f0)) := by
         have h_ := hx9_0
         replace h_ := Eq.trans (Eq.symm (World.cell?_setCell_other _ _ _ _ (by intro h2_; injection h2_ with _ h3_; omega))) h_
         exact h_
        have hx9_1 : World.cell? (World.setCell (World.setCell wr.drew ⟨go8, (x2_1 : Int).toNat * 2, none⟩ (.string ((rd_T47 x0_1 x3_1).f0))) ⟨go8, (x2_1 : Int).toNat * 2 + 1, none⟩ (.string ((rd_T47 x0_1 x3_1).f1))) ⟨go8, (x3_1 : Int).toNat * 2 + 1, none⟩ = some (.string ((rd_T47 y222 x3_1).f1)) := hcc9 1 _ rfl
        have hy9_1 : World.cell? (World.setCell (World.setCell wr.drew ⟨go8, (x2_1 : Int).toNat * 2, none⟩ (.string ((rd_T47 x0_1 x3_1).f0))) ⟨go8, (x2_1 : Int).toNat * 2 + 1, none⟩ (.string ((rd_T47 x0_1 x3_1).f1))) ⟨go8, (x3_1 : Int).toNat * 2 + 1, none⟩ = some (.string ((rd_T47 y222 x3_1).f1)) := by
         have h_ := hx9_1
         skip
         exact h_
        have hf9_0 : World.frozen? wr.drew ⟨go8, (x3_1 : Int).toNat * 2, none⟩ = false := (World.frozen?_setCells _ _ _ _ _).symm.trans (hfr9 0)
        have hf9_1 : World.frozen? wr.drew ⟨go8, (x3_1 : Int).toNat * 2 + 1, none⟩ = false := (World.frozen?_setCells _ _ _ _ _).symm.trans (hfr9 1)
        clear hcl9 hcc9 hfr9 hM9
        replace p9 := eq_true p9
        replace q9 := eq_true q9
        obtain ⟨ce12, hcl12, hM12, hcc12, hfr12⟩ := Kd.R_elem HQ11.out z47 (x3_1 : Int) (of_decide_eq_true (by first | (with_reducible assumption) | assumption)) (by have h_ : (x3_1 : Int) < ((x0_1.length : Int) : Int) := of_decide_eq_true (by first | (with_reducible assumption) | assumption); first | exact h_ | (have e_ := (Kd.R_reads' HO_0.out).1; omega) | simpa using h_)
        obtain rfl := k47_openM hM12
        have HP12 := (Kd.R_seg HQ11.out (x3_1 : Int) (of_decide_eq_true (by first | (with_reducible assumption) | assumption)) (by have h_ : (x3_1 : Int) < ((x0_1.length : Int) : Int) := of_decide_eq_true (by first | (with_reducible assumption) | assumption); first | exact h_ | (have e_ := (Kd.R_reads' HO_0.out).1; omega) | simpa using h_) (seg := [.string ((rd_T47 x0_1 x2_1).f0), .string ((rd_T47 x0_1 x2_1).f1)]) (j := 0) hcl12 hcc12 (show 2 ≤ 2 from by decide) (x' := (⟨(rd_T47 x0_1 x2_1).f0, (rd_T47 x0_1 x2_1).f1⟩ : S47)) (k47_mkM _ _ _ (⟨(rd_T47 x0_1 x2_1).f0, (rd_T47 x0_1 x2_1).f1⟩ : S47) ) (fun _ hk => hk)).1
        rw [← Ny223.out] at HP12
        have HQ12 := Aside0.mk HP12
        clear hcl12 hcc12 hfr12 hM12 HP12
        refine start_ (n := 16) (S := fun w' => w'.cell? ⟨go8, ((x3_1).toNat * 2), none⟩ = some (.string ((rd_T47 x0_1 x3_1).f0)) ∧ w'.cell? ⟨go8, ((x3_1).toNat * 2) + 1, none⟩ = some (.string ((rd_T47 x0_1 x3_1).f1)) ∧ w'.cell? ⟨go8, ((x2_1).toNat * 2), none⟩ = some (.string ((rd_T47 x0_1 x2_1).f0)) ∧ w'.cell? ⟨go8, ((x2_1).toNat * 2) + 1, none⟩ = some (.string ((rd_T47 x0_1 x2_1).f1))) (ds := [13, 15]) #[false, false, false, false, false, false, false, false, false, false, false, false, false, false, false, false] (by kernel_rfl) rfl rfl ⟨hx220_0, hx220_1, hx221_0, hx221_1⟩ (fun hHeld => ?_); refine with_tabW api_Pair_51.tab3 api_Pair_51.bits3 (fun HT_ HW_ => ?_)
        generalize wr.drew = w10 at HO_0 HK HB GG8 HQ11 HQ12 hf8_0 hf8_1 hf9_0 hf9_1 hx220_0 hx220_1 hx221_0 hx221_1 hx8_0 hx8_1 hx9_0 hx9_1 hy9_0 hy9_1 hHeld ⊢
        refine pure_ (i := 0) (N := some 14) (v := ?_) (a' := ?_) #[true, false, false, false, false, false, false, false, false, false, false, false, false, false, false, false] rfl rfl (any_of HT_.out (by kernel_rfl)) (fun _ _ _ h => h) (Or.inl ⟨by rfl, ?_⟩) ?_ ?_
        rotate_left
        ·
         intro w'
         go_simp
         with_reducible rfl
        rotate_left
        ·
         simp only [Act.put, List.setIfInBounds_toArray, List.set_cons_zero, List.set_cons_succ, i64_w, i32_w]
         rfl
        refine pure_ (i := 1) (N := some 15) (v := ?_) (a' := ?_) #[true, true, false, false, false, false, false, false, false, false, false, false, false, false, false, false] rfl rfl (any_of HT_.out (by kernel_rfl)) (fun _ _ _ h => h) (Or.inl ⟨by rfl, ?_⟩) ?_ ?_
        rotate_left
        ·
         intro w'
         go_simp
         with_reducible rfl
        rotate_left
        ·
         simp only [Act.put, List.setIfInBounds_toArray, List.set_cons_zero, List.set_cons_succ, i64_w, i32_w]
         rfl
        refine pure_ (i := 2) (N := some 16) (v := ?_) (a' := ?_) #[true, true, true, false, false, false, false, false, false, false, false, false, false, false, false, false] rfl rfl (any_of HT_.out (by kernel_rfl)) (fun _ _ _ h => h) (Or.inl ⟨by rfl, ?_⟩) ?_ ?_
        rotate_left
        ·
         intro w'
         go_simp
         with_reducible rfl
        rotate_left
        ·
         simp only [Act.put, List.setIfInBounds_toArray, List.set_cons_zero, List.set_cons_succ, i64_w, i32_w]
         rfl
        refine pure_ (i := 3) (N := some 17) (v := ?_) (a' := ?_) #[true, true, true, true, false, false, false, false, false, false, false, false, false, false, false, false] rfl rfl (any_of HT_.out (by kernel_rfl)) (fun _ _ _ h => h) (Or.inl ⟨by rfl, ?_⟩) ?_ ?_
        rotate_left
        ·
         intro w'
         go_simp
         with_reducible rfl
        rotate_left
        ·
         simp only [Act.put, List.setIfInBounds_toArray, List.set_cons_zero, List.set_cons_succ, i64_w, i32_w]
         rfl
        refine pure_ (i := 4) (N := some 18) (v := ?_) (a' := ?_) #[true, true, true, true, true, false, false, false, false, false, false, false, false, false, false, false] rfl rfl (any_of HT_.out (by kernel_rfl)) (fun _ _ _ h => h) (Or.inl ⟨by rfl, ?_⟩) ?_ ?_
        rotate_left
        ·
         intro w'
         go_simp
         with_reducible rfl
        rotate_left
        ·
         simp only [Act.put, List.setIfInBounds_toArray, List.set_cons_zero, List.set_cons_succ, i64_w, i32_w]
         rfl
        refine pure_ (i := 5) (N := some 19) (v := ?_) (a' := ?_) #[true, true, true, true, true, true, false, false, false, false, false, false, false, false, false, false] rfl rfl (any_of HT_.out (by kernel_rfl)) (fun _ _ _ h => h) (Or.inl ⟨by rfl, ?_⟩) ?_ ?_
        rotate_left
        ·
         intro w'
         go_simp
         with_reducible rfl
        rotate_left
        ·
         simp only [Act.put, List.setIfInBounds_toArray, List.set_cons_zero, List.set_cons_succ, i64_w, i32_w]
         rfl
        refine pure_ (i := 6) (N := some 20) (v := ?_) (a' := ?_) #[true, true, true, true, true, true, true, false, false, false, false, false, false, false, false, false] rfl rfl (any_of HT_.out (by kernel_rfl)) (fun _ _ _ h => h) (Or.inl ⟨by rfl, ?_⟩) ?_ ?_
        rotate_left
        ·
         intro w'
         go_simp
         with_reducible rfl
        rotate_left
        ·
         simp only [Act.put, List.setIfInBounds_toArray, List.set_cons_zero, List.set_cons_succ, i64_w, i32_w]
         rfl
        refine pure_ (i := 8) (N := some 22) (v := ?_) (a' := ?_) #[true, true, true, true, true, true, true, false, true, false, false, false, false, false, false, false] rfl rfl (any_of HT_.out (by kernel_rfl)) (fun _ _ _ h => h) (Or.inl ⟨by rfl, ?_⟩) ?_ ?_
        rotate_left
        ·
         intro w'
         go_simp
         with_reducible rfl
        rotate_left
        ·
         simp only [Act.put, List.setIfInBounds_toArray, List.set_cons_zero, List.set_cons_succ, i64_w, i32_w]
         rfl
        refine pure_ (i := 9) (N := some 23) (v := ?_) (a' := ?_) #[true, true, true, true, true, true, true, false, true, true, false, false, false, false, false, false] rfl rfl (any_of HT_.out (by kernel_rfl)) (fun _ _ _ h => h) (Or.inl ⟨by rfl, ?_⟩) ?_ ?_
        rotate_left
        ·
         intro w'
         go_simp
         with_reducible rfl
        rotate_left
        ·
         simp only [Act.put, List.setIfInBounds_toArray, List.set_cons_zero, List.set_cons_succ, i64_w, i32_w]
         rfl
        refine pure_ (i := 10) (N := some 24) (v := ?_) (a' := ?_) #[true, true, true, true, true, true, true, false, true, true, true, false, false, false, false, false] rfl rfl (any_of HT_.out (by kernel_rfl)) (fun _ _ _ h => h) (Or.inl ⟨by rfl, ?_⟩) ?_ ?_
        rotate_left
        ·
         intro w'
         go_simp
         with_reducible rfl
        rotate_left
        ·
         simp only [Act.put, List.setIfInBounds_toArray, List.set_cons_zero, List.set_cons_succ, i64_w, i32_w]
         rfl
        refine take_ (i := 7) (N := some 21) (v := ?_) (a' := ?_) #[true, true, true, true, true, true, true, true, true, true, true, false, false, false, false, false] rfl rfl (take_ofW HT_.out HW_.out (by kernel_rfl)) (fun _ _ _ h => h) (Or.inl ⟨by rfl, ?_⟩) hHeld ?_ ?_
        rotate_left
        ·
         rintro w' ⟨s0, s1, s2, s3⟩
         go_simp
         with_reducible rfl
        rotate_left
        ·
         simp only [Act.put, List.setIfInBounds_toArray, List.set_cons_zero, List.set_cons_succ, i64_w, i32_w]
         rfl
        refine take_ (i := 11) (N := some 25) (v := ?_) (a' := ?_) #[true, true, true, true, true, true, true, true, true, true, true, true, false, false, false, false] rfl rfl (take_ofW HT_.out HW_.out (by kernel_rfl)) (fun _ _ _ h => h) (Or.inl ⟨by rfl, ?_⟩) hHeld ?_ ?_
        rotate_left
        ·
         rintro w' ⟨s0, s1, s2, s3⟩
         go_simp
         with_reducible rfl
        rotate_left
        ·
         simp only [Act.put, List.setIfInBounds_toArray, List.set_cons_zero, List.set_cons_succ, i64_w, i32_w]
         rfl
        refine pure_ (i := 12) (N := some 26) (v := ?_) (a' := ?_) #[true, true, true, true, true, true, true, true, true, true, true, true, true, false, false, false] rfl rfl (any_of HT_.out (by kernel_rfl)) (fun _ _ _ h => h) (Or.inl ⟨by rfl, ?_⟩) ?_ ?_
        rotate_left
        ·
         intro w'
         go_simp
         with_reducible rfl
        rotate_left
        ·
         simp only [Act.put, List.setIfInBounds_toArray, List.set_cons_zero, List.set_cons_succ, i64_w, i32_w]
         rfl
        refine last_ (i := 13) (N := none) #[true, true, true, true, true, true, true, true, true, true, true, true, true, true, false, false] rfl rfl (one_of HT_.out (by kernel_rfl)) (by decide) (fun K hK => ?_)
        refine skip_ (w1 := ?_) (by rfl) rfl ?_ ?_
        rotate_left
        ·
         go_simp
         rfl
        refine hK.out _ _ ?_
        clear hK K
        refine pure_ (i := 14) (N := some 27) (v := ?_) (a' := ?_) #[true, true, true, true, true, true, true, true, true, true, true, true, true, true, true, false] rfl rfl (any_of HT_.out (by kernel_rfl)) (fun _ _ _ h => h) (Or.inl ⟨by rfl, ?_⟩) ?_ ?_
        rotate_left
        ·
         intro w'
         go_simp
         with_reducible rfl
        rotate_left
        ·
         simp only [Act.put, List.setIfInBounds_toArray, List.set_cons_zero, List.set_cons_succ, i64_w, i32_w]
         rfl
        refine last_ (i := 15) (N := none) #[true, true, true, true, true, true, true, true, true, true, true, true, true, true, true, true] rfl rfl (one_of HT_.out (by kernel_rfl)) (by decide) (fun K hK => ?_)
        refine skip_ (w1 := ?_) (by rfl) rfl ?_ ?_
        rotate_left
        ·
         go_simp
         rfl
        refine hK.out _ _ ?_
        clear hK K
        refine done_ (done_of HT_.out (by kernel_rfl)) ?_
        try go_wp2
        (try simp only [← hl0_1])
        go_roundg k1
        case measure => have := HK1.out; omega
        case rel => exact ⟨(y223), (wrap64 (x2_1 + 1)), (wrap64 (x3_1 - 1)), (by first | rfl | (simp; done) | (simp [*]; done)), (by first | rfl | (simp; done) | (simp [*]; done)), H', ⟨by have := HK1.out; omega⟩, ⟨by (try simp only [hl0_1]); (with_reducible repeat (first | apply Kd.R_alloc | apply Kd.R_drewN | apply Kd.R_drew)); exact HQ12.out⟩, ⟨by repeat (first | (with_reducible first | exact HK.out | apply Kept.alloc | apply Kept.drewN | apply Kept.drew | refine Kept.setCell ?_ HMgo8.out _ | refine Kept.setCell ?_ HMgo8.out _ | refine Kept.setCell ?_ HMgo8.out _ | refine Kept.setCell ?_ HMgo8.out _) | exact HK.out)⟩, ⟨by repeat (first | (with_reducible first | exact HB.out | apply below_alloc | apply pw_below_drewN | apply below_drew1 | refine below_set ?_ GB8.out | refine below_set ?_ GB8.out | refine below_set ?_ GB8.out | refine below_set ?_ GB8.out) | exact HB.out | exact Below.refl _ _)⟩⟩
       ·
        rw [if_neg c7] at H
        exact absurd H (by simp)
      ·
       rw [if_neg c6] at H
       exact absurd H (by simp)
     ·
      rw [if_neg c5] at H
      exact absurd H (by simp)
    ·
     rw [if_neg c4] at H
     exact absurd H (by simp)
   ·
    rw [if_neg c3] at H
    have c3b0 : decide (x2_1 < x3_1) = false := decide_eq_false c3
    clear c3
    obtain rfl := Option.some.inj H
    go_wp2
    first | go_end0 | ((try simp only [Exit.inBlock, Exit.then]); refine bodyPost_ret (results_none rfl _ _ _) rfl ?_)
    exact ⟨by first | rfl | (simp [errW_none, errW_some] <;> rfl) | (simp [*, errW_none, errW_some] <;> rfl), (by first | exact (by (with_reducible repeat (first | apply Kd.R_alloc | apply Kd.R_drewN | apply Kd.R_drew)); exact HO_0.out) | (simp only [hl0_1]; exact (by (with_reducible repeat (first | apply Kd.R_alloc | apply Kd.R_drewN | apply Kd.R_drew)); exact HO_0.out))), by repeat (first | (with_reducible first | exact HB.out | apply below_alloc | apply pw_below_drewN | apply below_drew1) | exact HB.out | exact Below.refl _ _), by repeat (first | (with_reducible first | exact HK.out | apply Kept.alloc | apply Kept.drewN | apply Kept.drew) | exact HK.out)⟩

/-! ### api_Pair_52: function 52 -/
def api_Pair_52.f (l0 : List (S47)) : Option ((List (S47))) := (some (([] : List (S47)) : List (S47))).bind fun y224 => (if y224.length + l0.length < 4398046511104 then (some (y224 ++ l0)) else (none))
set_option maxHeartbeats 80000000 in
set_option maxRecDepth 100000 in
theorem api_Pair_52.calls (A0 : Option Addr) (c0 : Nat) (l0 : List (S47)) (r : List (S47)) (w : World) (hr0 : Kd.C k47 w A0 l0.length l0) (hc0 : l0.length ≤ c0) (h : api_Pair_52.f l0 = some r) :
 Calls Try.prog 52 #[.slice A0 l0.length c0] w fun e w' => ∃ v0_ : Value, e = .returned (v0_) ∧ Kd.R k47 47 w' w.heap.size (fun _ => True) v0_ r ∧ Below w.heap.size w w' := by
 rcases A0 with _ | ad_
 ·
  obtain rfl : l0 = [] := by
   obtain ⟨h1, _, h2⟩ := hr0
   rcases Nat.eq_zero_or_pos l0.length with h3 | h3
   · exact List.eq_nil_of_length_eq_zero h3
   · obtain ⟨_, h4, _⟩ := h2 h3; cases h4
  simp [api_Pair_52.f] at h
  subst h
  have hnil_ := fun W => Lib.run_eql_slice_nil (P := Try.prog) W 41 47 none 0 c0 0 0 Try.underlying41
  go_enter Try.func52, Try.ntmps52
  go_wp2
  go_ret
  exact ⟨_, rfl, by first | exact Kd.R_nil _ _ _ _ _ | exact Kd.S_nil _ _ _ _ _, Below.refl _ _⟩
 have hnil_ := fun W => Lib.run_eql_slice_nil (P := Try.prog) W 41 47 (some ad_) l0.length c0 0 0 Try.underlying41
 have HR0 := Aside0.mk hr0
 have HC0 := Aside0.mk hc0
 clear hr0 hc0
 have HB := Aside0.mk (Below.refl w.heap.size w)
 have H : ((some (([] : List (S47)) : List (S47))).bind fun y224 => (if y224.length + l0.length < 4398046511104 then (some (y224 ++ l0)) else (none))) = some r := h
 clear h
 obtain ⟨y224, hy224⟩ : ∃ y_ : List (S47), y_ = (([] : List (S47))) := ⟨_, rfl⟩
 replace H : (if y224.length + l0.length < 4398046511104 then (some (y224 ++ l0)) else (none)) = some r := by first | (rw [hy224]; with_reducible exact H) | (have H2_ := (Option.bind_some _ _).symm.trans H; rw [hy224]; with_reducible exact H2_) | (have H2_ := (Option.bind_some _ _).symm.trans H; with_reducible exact H2_) | with_reducible exact H | (rw [hy224]; exact H) | exact H
 have Ny224 := Aside0.mk hy224
 clear hy224
 by_cases c2 : y224.length + l0.length < 4398046511104
 ·
  rw [if_pos c2] at H
  have LMc2 := Aside0.mk c2
  clear c2
  obtain ⟨y227, hy227⟩ : ∃ y_ : List (S47), y_ = (y224 ++ l0) := ⟨_, rfl⟩
  replace H : (some y227) = some r := by first | (rw [hy227]; with_reducible exact H) | (have H2_ := (Option.bind_some _ _).symm.trans H; rw [hy227]; with_reducible exact H2_) | (have H2_ := (Option.bind_some _ _).symm.trans H; with_reducible exact H2_) | with_reducible exact H | (rw [hy227]; exact H) | exact H
  have Ny227 := Aside0.mk hy227
  clear hy227
  obtain rfl := Option.some.inj H
  go_enter Try.func52, Try.ntmps52
  go_wp2_with (first | ((with_reducible refine gate_dst (N := 5) rfl ?_); refine Kd.R_lit k47 _ 47 ?hg (N := 5) ?hd (xs := ([] : List (S47))) (inner := []) (ok := fun _ => True) (okp := fun _ => True) ?hr ?hp (fun _ hk => hk) trivial (Below.refl _ _) (Nat.le_refl _) (by simp) ?_; (case hd => rfl); (case hg => rfl); (case hr => first | (go_simp; done) | (go_simp; rfl)); (case hp => exact (Reps.none _ _)); intro v225 w3 ho4 hb hg_ hnew_; clear hg_ hnew_; (first | rw [← Ny224.out] at ho4 | (simp only [Int.reduceToNat] at ho4; rw [← Ny224.out] at ho4)); have n0_ := Aside0.mk (Kd.R_lower ho4 (below_size (by repeat (first | (with_reducible first | exact HB.out | apply below_alloc | apply pw_below_drewN | apply below_drew1) | exact HB.out | exact Below.refl _ _)))); have n1_ := Aside0.mk (below_step (by repeat (first | (with_reducible first | exact HB.out | apply below_alloc | apply pw_below_drewN | apply below_drew1) | exact HB.out | exact Below.refl _ _)) hb); clear HB; have HO226 := n0_; have HB := n1_; clear n0_ n1_; clear hb ho4) | ((with_reducible refine gate_builtin (b := .append) (xs := #[.tmp 5, .tmp 6]) rfl ?_); at_builtin; refine Kd.R_append_rows k47 (w0 := w) w.heap.size rfl (.tmp 5) (.tmp 6) 41 47 (.agg #[(.string ⟨#[]⟩), (.string ⟨#[]⟩)]) 32 rfl Try.underlying41 info47 rfl (by decide) (by omega) v225 y224 l0 _ _ _ (fun _ => True) (fun _ => False) rfl rfl ?aO ?aR (fun _ _ h => h) (fun _ h => h.elim) ?aF ?aB ?aS ?aL ?_; (case aR => repeat (first | exact (Kd.C_below HR0.out HB.out) | (with_reducible refine Kd.C_alloc ?_ _) | (with_reducible refine Kd.C_drewN ?_ _) | (with_reducible refine Kd.C_drew ?_))); (case aB => exact (by repeat (first | (with_reducible first | exact HB.out | apply below_alloc | apply pw_below_drewN | apply below_drew1) | exact HB.out | exact Below.refl _ _))); (case aF => exact (fun _ _ => trivial)); (case aO => exact (by (with_reducible repeat (first | apply Kd.R_alloc | apply Kd.R_drewN | apply Kd.R_drew)); exact HO226.out)); (case aS => exact (below_size (by repeat (first | (with_reducible first | exact HB.out | apply below_alloc | apply pw_below_drewN | apply below_drew1) | exact HB.out | exact Below.refl _ _)))); (case aL => have := LMc2.out; omega); intro v228 w5 ho hb hg hat; rw [← Ny227.out] at ho; have n0_ := Aside0.mk (hb); have n1_ := Aside0.mk (ho); clear HB; clear HO226; have HB := n0_; have HO229 := n1_; clear n0_ n1_; clear ho hb hg hat))
  go_ret
  exact ⟨_, by first | rfl | (simp [errW_none, errW_some] <;> rfl) | (simp [*, errW_none, errW_some] <;> rfl), by (with_reducible repeat (first | apply Kd.R_alloc | apply Kd.R_drewN | apply Kd.R_drew)); exact HO229.out, by repeat (first | (with_reducible first | exact HB.out | apply below_alloc | apply pw_below_drewN | apply below_drew1) | exact HB.out | exact Below.refl _ _)⟩
 ·
  rw [if_neg c2] at H
  exact absurd H (by simp)

/-! ### merge_View: function 27 -/
mutual
def merge_View.l0 : Nat → Int → ByteArray → ByteArray → Bool → Int → List (S47) → Bool → ByteArray → List (S31) → Int → Int → Option ((List (S47)))
 | 0, _, _, _, _, _, _, _, _, _, _, _ => none
 | k + 1, x1, x2, x3, x4, x5, x13, x14, x15, x19, x20, x21 => if x21 < x20 then (if 0 ≤ x21 then (if x21 < (x19.length : Int) then (if (Op.bytesLess (((rd_T31 x19 x21).f0.f0).toList) x2.toList) = true then (merge_View.j1 k x1 x2 x3 x4 x5 x13 x14 x15 ((rd_T31 x19 x21).f0.f0) x19 x20 x21 true ((rd_T31 x19 x21).f0.f0) ((rd_T31 x19 x21).f0.f1) ((rd_T31 x19 x21).f0.f2) ((rd_T31 x19 x21).f1)) else (if x3.toList = ([] : List UInt8) then (if ((rd_T31 x19 x21).f0.f1) > x1 then (merge_View.j1 k x1 x2 x3 x4 x5 x13 x14 x15 ((rd_T31 x19 x21).f0.f0) x19 x20 x21 true ((rd_T31 x19 x21).f0.f0) ((rd_T31 x19 x21).f0.f1) ((rd_T31 x19 x21).f0.f2) ((rd_T31 x19 x21).f1)) else (if x14 = true then (merge_View.j1 k x1 x2 x3 x4 x5 x13 x14 x15 ((rd_T31 x19 x21).f0.f0) x19 x20 x21 (((rd_T31 x19 x21).f0.f0).toList == x15.toList) ((rd_T31 x19 x21).f0.f0) ((rd_T31 x19 x21).f0.f1) ((rd_T31 x19 x21).f0.f2) ((rd_T31 x19 x21).f1)) else (merge_View.j1 k x1 x2 x3 x4 x5 x13 x14 x15 ((rd_T31 x19 x21).f0.f0) x19 x20 x21 false ((rd_T31 x19 x21).f0.f0) ((rd_T31 x19 x21).f0.f1) ((rd_T31 x19 x21).f0.f2) ((rd_T31 x19 x21).f1)))) else (if ((Op.bytesLess (((rd_T31 x19 x21).f0.f0).toList) x3.toList) = true) then (if ((rd_T31 x19 x21).f0.f1) > x1 then (merge_View.j1 k x1 x2 x3 x4 x5 x13 x14 x15 ((rd_T31 x19 x21).f0.f0) x19 x20 x21 true ((rd_T31 x19 x21).f0.f0) ((rd_T31 x19 x21).f0.f1) ((rd_T31 x19 x21).f0.f2) ((rd_T31 x19 x21).f1)) else (if x14 = true then (merge_View.j1 k x1 x2 x3 x4 x5 x13 x14 x15 ((rd_T31 x19 x21).f0.f0) x19 x20 x21 (((rd_T31 x19 x21).f0.f0).toList == x15.toList) ((rd_T31 x19 x21).f0.f0) ((rd_T31 x19 x21).f0.f1) ((rd_T31 x19 x21).f0.f2) ((rd_T31 x19 x21).f1)) else (merge_View.j1 k x1 x2 x3 x4 x5 x13 x14 x15 ((rd_T31 x19 x21).f0.f0) x19 x20 x21 false ((rd_T31 x19 x21).f0.f0) ((rd_T31 x19 x21).f0.f1) ((rd_T31 x19 x21).f0.f2) ((rd_T31 x19 x21).f1)))) else (merge_View.j1 k x1 x2 x3 x4 x5 x13 x14 x15 ((rd_T31 x19 x21).f0.f0) x19 x20 x21 true ((rd_T31 x19 x21).f0.f0) ((rd_T31 x19 x21).f0.f1) ((rd_T31 x19 x21).f0.f2) ((rd_T31 x19 x21).f1))))) else (none)) else (none)) else (if x4 = true then ((api_Pair_51.f k x13).bind fun t235 => (if 0 ≤ (mx 0 (mn x5 (x13.length : Int))) then (if (mx 0 (mn x5 (x13.length : Int))) ≤ (x13.length : Int) then ((api_Pair_52.f (t235.take ((mx 0 (mn x5 (x13.length : Int))) : Int).toNat)).bind fun t240 => (some t240)) else (none)) else (none))) else (if 0 ≤ (mx 0 (mn x5 (x13.length : Int))) then (if (mx 0 (mn x5 (x13.length : Int))) ≤ (x13.length : Int) then ((api_Pair_52.f (x13.take ((mx 0 (mn x5 (x13.length : Int))) : Int).toNat)).bind fun t247 => (some t247)) else (none)) else (none)))
def merge_View.j1 : Nat → Int → ByteArray → ByteArray → Bool → Int → List (S47) → Bool → ByteArray → ByteArray → List (S31) → Int → Int → Bool → ByteArray → Int → Int → ByteArray → Option ((List (S47)))
 | 0, _, _, _, _, _, _, _, _, _, _, _, _, _, _, _, _, _ => none
 | k + 1, x1, x2, x3, x4, x5, x13, x14, x15, x18, x19, x20, x21, x54, x232000, x232001, x232002, x232003 => if x54 = true then (merge_View.l0 k x1 x2 x3 x4 x5 x13 x14 x15 x19 x20 (wrap64 (x21 + 1))) else (if x232002 = 1 then (if x13.length < 4398046511104 then (merge_View.l0 k x1 x2 x3 x4 x5 (x13 ++ [(⟨x18, x232003⟩ : S47)]) true x18 x19 x20 (wrap64 (x21 + 1))) else (none)) else (merge_View.l0 k x1 x2 x3 x4 x5 x13 true x18 x19 x20 (wrap64 (x21 + 1))))
end
def merge_View.f (k : Nat) (l0 : List (S31)) (a1 : Int) (a2 : ByteArray) (a3 : ByteArray) (a4 : Bool) (a5 : Int) : Option ((List (S47))) := merge_View.l0 k a1 a2 a3 a4 a5 ([] : List (S47)) false (⟨#[]⟩ : ByteArray) l0 (l0.length : Int) 0
theorem merge_View.mono_l : ∀ k, (∀ y0 y1 y2 y3 y4 y5 y6 y7 y8 y9 y10, LeO (merge_View.l0 k y0 y1 y2 y3 y4 y5 y6 y7 y8 y9 y10) (merge_View.l0 (k + 1) y0 y1 y2 y3 y4 y5 y6 y7 y8 y9 y10)) ∧ (∀ y0 y1 y2 y3 y4 y5 y6 y7 y8 y9 y10 y11 y12 y13 y14 y15 y16, LeO (merge_View.j1 k y0 y1 y2 y3 y4 y5 y6 y7 y8 y9 y10 y11 y12 y13 y14 y15 y16) (merge_View.j1 (k + 1) y0 y1 y2 y3 y4 y5 y6 y7 y8 y9 y10 y11 y12 y13 y14 y15 y16))
 | 0 => ⟨fun _ _ _ _ _ _ _ _ _ _ _ r h => by simp [merge_View.l0] at h, fun _ _ _ _ _ _ _ _ _ _ _ _ _ _ _ _ _ r h => by simp [merge_View.j1] at h⟩
 | k + 1 => by
  obtain ⟨ih0, ih1⟩ := merge_View.mono_l k
  refine ⟨?_, ?_⟩
  ·
   intro y0 y1 y2 y3 y4 y5 y6 y7 y8 y9 y10
   unfold merge_View.l0
   repeat' first
   | (with_reducible exact ih0 _ _ _ _ _ _ _ _ _ _ _)
   | (with_reducible exact ih1 _ _ _ _ _ _ _ _ _ _ _ _ _ _ _ _ _)
   | (with_reducible exact api_Pair_51.mono _ _)
   | (with_reducible exact LeO.refl _)
   | (with_reducible exact LeO.none _)
   | (with_reducible refine LeO.ite ?_ ?_)
   | (with_reducible refine LeO.bind ?_ (fun _ => ?_))
   | exact ih0 _ _ _ _ _ _ _ _ _ _ _
   | exact ih1 _ _ _ _ _ _ _ _ _ _ _ _ _ _ _ _ _
   | exact api_Pair_51.mono _ _
   | exact LeO.none _
   | refine LeO.ite ?_ ?_
   | refine LeO.bind ?_ (fun _ => ?_)
  ·
   intro y0 y1 y2 y3 y4 y5 y6 y7 y8 y9 y10 y11 y12 y13 y14 y15 y16
   unfold merge_View.j1
   repeat' first
   | (with_reducible exact ih0 _ _ _ _ _ _ _ _ _ _ _)
   | (with_reducible exact ih1 _ _ _ _ _ _ _ _ _ _ _ _ _ _ _ _ _)
   | (with_reducible exact api_Pair_51.mono _ _)
   | (with_reducible exact LeO.refl _)
   | (with_reducible exact LeO.none _)
   | (with_reducible refine LeO.ite ?_ ?_)
   | (with_reducible refine LeO.bind ?_ (fun _ => ?_))
   | exact ih0 _ _ _ _ _ _ _ _ _ _ _
   | exact ih1 _ _ _ _ _ _ _ _ _ _ _ _ _ _ _ _ _
   | exact api_Pair_51.mono _ _
   | exact LeO.none _
   | refine LeO.ite ?_ ?_
   | refine LeO.bind ?_ (fun _ => ?_)
theorem merge_View.mono : ∀ a0 a1 a2 a3 a4 a5 k, LeO (merge_View.f k a0 a1 a2 a3 a4 a5) (merge_View.f (k + 1) a0 a1 a2 a3 a4 a5) := by
 intro a0 a1 a2 a3 a4 a5 k
 obtain ⟨ih0, ih1⟩ := merge_View.mono_l k
 unfold merge_View.f
 repeat' first
  | (with_reducible exact ih0 _ _ _ _ _ _ _ _ _ _ _)
  | (with_reducible exact ih1 _ _ _ _ _ _ _ _ _ _ _ _ _ _ _ _ _)
  | (with_reducible exact api_Pair_51.mono _ _)
  | (with_reducible exact LeO.refl _)
  | (with_reducible exact LeO.none _)
  | (with_reducible refine LeO.ite ?_ ?_)
  | (with_reducible refine LeO.bind ?_ (fun _ => ?_))
  | exact ih0 _ _ _ _ _ _ _ _ _ _ _
  | exact ih1 _ _ _ _ _ _ _ _ _ _ _ _ _ _ _ _ _
  | exact api_Pair_51.mono _ _
  | exact LeO.none _
  | refine LeO.ite ?_ ?_
  | refine LeO.bind ?_ (fun _ => ?_)
set_option maxHeartbeats 80000000 in
set_option maxRecDepth 100000 in
theorem merge_View.calls (k : Nat) (A0 : Option Addr) (c0 : Nat) (l0 : List (S31)) (a1 : Int) (a2 : ByteArray) (a3 : ByteArray) (a4 : Bool) (a5 : Int) (r : List (S47)) (w : World) (hr0 : Kd.C k31 w A0 l0.length l0) (hc0 : l0.length ≤ c0) (h : merge_View.f k l0 a1 a2 a3 a4 a5 = some r) :
 Calls Try.prog 27 #[.slice A0 l0.length c0, .int .i64 a1, .string a2, .string a3, .bool a4, .int .i64 a5] w fun e w' => ∃ v0_ : Value, e = .returned (v0_) ∧ Kd.R k47 47 w' w.heap.size (fun _ => True) v0_ r ∧ Below w.heap.size w w' := by
 have hu31 := Try.underlying31
 have hu47 := Try.underlying47
 have HR0 := Aside0.mk hr0
 have HC0 := Aside0.mk hc0
 clear hr0 hc0
 have HB := Aside0.mk (Below.refl w.heap.size w)
 have H : (merge_View.l0 k a1 a2 a3 a4 a5 ([] : List (S47)) false (⟨#[]⟩ : ByteArray) l0 (l0.length : Int) 0) = some r := h
 clear h
 have H' := Aside0.mk H
 clear H
 go_enter Try.func27, Try.ntmps27
 go_wp2_with (first | (with_reducible refine wp_label ?_) | (with_reducible refine wp_scope_straight ?_) | (simp only [Exit.noGoto_ret, Exit.noGoto_normal, Exit.noGoto_exit]))
 try simp only [Act.put, List.setIfInBounds_toArray, List.set_cons_zero, List.set_cons_succ]
 go_loopg [13, 14, 15, 21] k (fun kq v13 v14 v15 v21 w' => ∃ (x13_1 : List (S47)) (x14_1 : Bool) (x15_1 : ByteArray) (x21_1 : Int), v14 = .bool x14_1 ∧ v15 = .string x15_1 ∧ v21 = .int .i64 x21_1 ∧ Aside0 (merge_View.l0 kq a1 a2 a3 a4 a5 x13_1 x14_1 x15_1 l0 (l0.length : Int) x21_1 = some r) ∧ Aside0 (kq ≤ k) ∧ Aside0 (Kd.R k47 47 w' w.heap.size (fun _ => True) v13 x13_1) ∧ Aside0 (Below w.heap.size w w'))
 case atStart => exact ⟨(([] : List (S47))), (false), ((⟨#[]⟩ : ByteArray)), (0), (by first | rfl | (simp; done) | (simp [*]; done)), (by first | rfl | (simp; done) | (simp [*]; done)), (by first | rfl | (simp; done) | (simp [*]; done)), H', ⟨Nat.le_refl _⟩, ⟨by first | exact Kd.R_nil _ _ _ _ _ | exact Kd.N_nil _ _ _ _ _ | exact Kd.V_nil _ _ _ _ _ | exact Kd.Q_nil _ _ _ _ _ | exact Kd.S_nil _ _ _ _ _⟩, ⟨by repeat (first | (with_reducible first | exact HB.out | apply below_alloc | apply pw_below_drewN | apply below_drew1) | exact HB.out | exact Below.refl _ _)⟩⟩
 case round =>
  clear H'
  obtain ⟨x13_1, x14_1, x15_1, x21_1, rfl, rfl, rfl, HA, HK1, HO_13, HB⟩ := hrel
  cases gk with
  | zero => exact absurd HA.out (by simp [merge_View.l0])
  | succ k1 =>
   have H := HA.out
   clear HA
   simp only [merge_View.l0] at H
   by_cases c7 : x21_1 < (l0.length : Int)
   ·
    rw [if_pos c7] at H
    have c7b0 : decide (x21_1 < (l0.length : Int)) = true := decide_eq_true c7
    clear c7
    by_cases c8 : 0 ≤ x21_1
    ·
     rw [if_pos c8] at H
     have c8b0 : decide (0 ≤ x21_1) = true := decide_eq_true c8
     clear c8
     by_cases c9 : x21_1 < (l0.length : Int)
     ·
      rw [if_pos c9] at H
      have c9b0 : decide (x21_1 < (l0.length : Int)) = true := decide_eq_true c9
      clear c9
      have HC10 := Aside0.mk H
      clear H
      have p230 : 0 ≤ (x21_1 : Int) := of_decide_eq_true (by first | (with_reducible assumption) | assumption)
      have q230 : x21_1 < (l0.length : Int) := of_decide_eq_true (by first | (with_reducible assumption) | assumption)
      obtain ⟨ad230, e230, hx230_0, hx230_1, hx230_2, hx230_3⟩ := at_T31 HR0.out x21_1 p230 q230
      cases e230
      replace hx230_0 := (HB.out.cell (World.block_lt_of_cell? w _ hx230_0)).trans hx230_0
      replace hx230_1 := (HB.out.cell (World.block_lt_of_cell? w _ hx230_1)).trans hx230_1
      replace hx230_2 := (HB.out.cell (World.block_lt_of_cell? w _ hx230_2)).trans hx230_2
      replace hx230_3 := (HB.out.cell (World.block_lt_of_cell? w _ hx230_3)).trans hx230_3
      replace p230 := eq_true p230
      replace q230 := eq_true q230
      go_upto_region 7 with (first | ((with_reducible refine gate_dst (N := 17) rfl ?_); refine box_event ?hg (N := 17) ?hd (cs := #[.string (⟨#[]⟩ : ByteArray), .int .i64 0, .int .i64 0, .string (⟨#[]⟩ : ByteArray)]) (t := 31) ?hr ?_; (case hd => rfl); (case hg => rfl); (case hr => first | (go_simp; done) | (go_simp; rfl)); intro gb231 hg w11 hbox hb; have n0_ := Aside0.mk (Kd.R_below (by (with_reducible repeat (first | apply Kd.R_alloc | apply Kd.R_drewN | apply Kd.R_drew)); exact HO_13.out) hb); have n1_ := Aside0.mk (below_step (by repeat (first | (with_reducible first | exact HB.out | apply below_alloc | apply pw_below_drewN | apply below_drew1) | exact HB.out | exact Below.refl _ _)) hb); have n2_ := Aside0.mk (hbox); have n3_ := Aside0.mk ((by rw [hg]; exact (below_size (by repeat (first | (with_reducible first | exact HB.out | apply below_alloc | apply pw_below_drewN | apply below_drew1) | exact HB.out | exact Below.refl _ _))) : w.heap.size ≤ gb231)); have n4_ := Aside0.mk ((by rw [hg]; exact (below_size (by repeat (first | (with_reducible first | exact HB.out | apply below_alloc | apply pw_below_drewN | apply below_drew1) | exact HB.out | exact Below.refl _ _))) : w.heap.size ≤ gb231)); clear HO_13; clear HB; have HO_13 := n0_; have HB := n1_; have BK231 := n2_; have GW231 := n3_; have GE231 := n4_; clear n0_ n1_ n2_ n3_ n4_; clear hb hbox hg; have hcz12_0 : w11.cell? ⟨gb231, 0, none⟩ = some (.string (⟨#[]⟩ : ByteArray)) := (blk_cell BK231.out 0).trans rfl; have hcz12_1 : w11.cell? ⟨gb231, 1, none⟩ = some (.int .i64 0) := (blk_cell BK231.out 1).trans rfl; have hcz12_2 : w11.cell? ⟨gb231, 2, none⟩ = some (.int .i64 0) := (blk_cell BK231.out 2).trans rfl; have hcz12_3 : w11.cell? ⟨gb231, 3, none⟩ = some (.string (⟨#[]⟩ : ByteArray)) := (blk_cell BK231.out 3).trans rfl; have hfz12_0 := blk_frozen BK231.out 0; have hfz12_1 := blk_frozen BK231.out 1; have hfz12_2 := blk_frozen BK231.out 2; have hfz12_3 := blk_frozen BK231.out 3))
      (try simp only [Act.put, List.setIfInBounds_toArray, List.set_cons_zero, List.set_cons_succ])
      go_cut [54] (fun v54 wc => ∃ (kq : Nat) (x54_9 : Bool), v54 = .bool x54_9 ∧ Aside0 (merge_View.j1 kq a1 a2 a3 a4 a5 x13_1 x14_1 x15_1 ((rd_T31 l0 x21_1).f0.f0) l0 (l0.length : Int) x21_1 x54_9 ((rd_T31 l0 x21_1).f0.f0) ((rd_T31 l0 x21_1).f0.f1) ((rd_T31 l0 x21_1).f0.f2) ((rd_T31 l0 x21_1).f1) = some r) ∧ Aside0 (kq ≤ k1) ∧ Aside0 (Kd.R k47 47 wc w.heap.size (fun _ => True) u13 x13_1) ∧ Aside0 (wc.heap[gb231]? = some (.cells #[.string ((rd_T31 l0 x21_1).f0.f0), .int .i64 ((rd_T31 l0 x21_1).f0.f1), .int .i64 ((rd_T31 l0 x21_1).f0.f2), .string ((rd_T31 l0 x21_1).f1)] 31 (0, 0))) ∧ Aside0 (Below w.heap.size w wc))
      case first =>
       have H := HC10.out
       clear HC10
       by_cases c13 : (Op.bytesLess (((rd_T31 l0 x21_1).f0.f0).toList) a2.toList) = true
       ·
        rw [if_pos c13] at H
        have c13b0 : (Op.bytesLess (((rd_T31 l0 x21_1).f0.f0).toList) a2.toList) = true := c13
        (try (have c13b1 : ((((rd_T31 l0 x21_1).f0.f0).toList) == a2.toList) = false := bl_ne c13))
        (try (have c13b2 : (a2.toList == (((rd_T31 l0 x21_1).f0.f0).toList)) = false := bl_ne2 c13))
        clear c13
        (first | rw [c13b0] | (simp only [i64_w, i32_w]; rw [c13b0]) | skip)
        have H' := Aside0.mk H
        clear H
        go_wp2_with (first | (with_reducible refine wp_label ?_) | (with_reducible refine wp_scope_straight ?_) | (simp only [Exit.noGoto_ret, Exit.noGoto_normal, Exit.noGoto_exit]))
        go_meet
        case rel => exact ⟨_, (true), (by first | rfl | (simp; done) | (simp [*]; done)), H', ⟨by have := HK1.out; first | omega | exact Nat.le_refl _⟩, ⟨by (with_reducible repeat (first | apply Kd.R_alloc | apply Kd.R_drewN | apply Kd.R_drew)); exact Kd.R_mono (Kd.R_far (p := ⟨gb231, 3, none⟩) (Kd.R_far (p := ⟨gb231, 2, none⟩) (Kd.R_far (p := ⟨gb231, 1, none⟩) (Kd.R_far (p := ⟨gb231, 0, none⟩) (Kd.R_types HO_13.out BK231.out (by decide)) (fun _ hk => hk.2) (.string ((rd_T31 l0 x21_1).f0.f0))) (fun _ hk => hk.2) (.int .i64 ((rd_T31 l0 x21_1).f0.f1))) (fun _ hk => hk.2) (.int .i64 ((rd_T31 l0 x21_1).f0.f2))) (fun _ hk => hk.2) (.string ((rd_T31 l0 x21_1).f1))) (fun _ hk => trivial)⟩, ⟨by (with_reducible repeat (first | refine blk_drewN ?_ _ | refine blk_drew ?_ | refine blk_alloc ?_ _)); refine blk_put (cs := #[.string ((rd_T31 l0 x21_1).f0.f0), .int .i64 ((rd_T31 l0 x21_1).f0.f1), .int .i64 ((rd_T31 l0 x21_1).f0.f2), .string (⟨#[]⟩ : ByteArray)]) ?_ 3 _ rfl; (with_reducible repeat (first | refine blk_drewN ?_ _ | refine blk_drew ?_ | refine blk_alloc ?_ _)); refine blk_put (cs := #[.string ((rd_T31 l0 x21_1).f0.f0), .int .i64 ((rd_T31 l0 x21_1).f0.f1), .int .i64 0, .string (⟨#[]⟩ : ByteArray)]) ?_ 2 _ rfl; (with_reducible repeat (first | refine blk_drewN ?_ _ | refine blk_drew ?_ | refine blk_alloc ?_ _)); refine blk_put (cs := #[.string ((rd_T31 l0 x21_1).f0.f0), .int .i64 0, .int .i64 0, .string (⟨#[]⟩ : ByteArray)]) ?_ 1 _ rfl; (with_reducible repeat (first | refine blk_drewN ?_ _ | refine blk_drew ?_ | refine blk_alloc ?_ _)); refine blk_put (cs := #[.string (⟨#[]⟩ : ByteArray), .int .i64 0, .int .i64 0, .string (⟨#[]⟩ : ByteArray)]) ?_ 0 _ rfl; (with_reducible repeat (first | refine blk_drewN ?_ _ | refine blk_drew ?_ | refine blk_alloc ?_ _)); exact BK231.out⟩, ⟨by repeat (first | (with_reducible first | exact HB.out | apply below_alloc | apply pw_below_drewN | apply below_drew1 | refine below_set ?_ GE231.out) | exact HB.out | exact Below.refl _ _)⟩⟩
       ·
        rw [if_neg c13] at H
        have c13b0 : (Op.bytesLess (((rd_T31 l0 x21_1).f0.f0).toList) a2.toList) = false := by simpa using c13
        (try (have c13b1 : ((((rd_T31 l0 x21_1).f0.f0).toList) == a2.toList) = true := bl_eq (by assumption) (by assumption)))
        (try (have c13b2 : (a2.toList == (((rd_T31 l0 x21_1).f0.f0).toList)) = true := bl_eq (by assumption) (by assumption)))
        clear c13
        (first | rw [c13b0] | (simp only [i64_w, i32_w]; rw [c13b0]) | skip)
        by_cases c14 : a3.toList = ([] : List UInt8)
        ·
         rw [if_pos c14] at H
         have c14b0 : (a3.toList == ([] : List UInt8)) = true := beq_iff_eq.mpr c14
         have c14b1 : (a3.toList != ([] : List UInt8)) = false := bne_eq_false_iff_eq.mpr c14
         clear c14
         by_cases c15 : ((rd_T31 l0 x21_1).f0.f1) > a1
         ·
          rw [if_pos c15] at H
          have c15b0 : decide (a1 < ((rd_T31 l0 x21_1).f0.f1)) = true := decide_eq_true c15
          clear c15
          have H' := Aside0.mk H
          clear H
          have hcz16_0 : w11.cell? ⟨gb231, 0, none⟩ = some (.string (⟨#[]⟩ : ByteArray)) := (blk_cell BK231.out 0).trans rfl
          have hcz16_1 : w11.cell? ⟨gb231, 1, none⟩ = some (.int .i64 0) := (blk_cell BK231.out 1).trans rfl
          have hcz16_2 : w11.cell? ⟨gb231, 2, none⟩ = some (.int .i64 0) := (blk_cell BK231.out 2).trans rfl
          have hcz16_3 : w11.cell? ⟨gb231, 3, none⟩ = some (.string (⟨#[]⟩ : ByteArray)) := (blk_cell BK231.out 3).trans rfl
          have hfz16_0 := blk_frozen BK231.out 0
          have hfz16_1 := blk_frozen BK231.out 1
          have hfz16_2 := blk_frozen BK231.out 2
          have hfz16_3 := blk_frozen BK231.out 3
          go_wp2_with (first | (with_reducible refine wp_label ?_) | (with_reducible refine wp_scope_straight ?_) | (simp only [Exit.noGoto_ret, Exit.noGoto_normal, Exit.noGoto_exit]))
          go_meet
          case rel => exact ⟨_, (true), (by first | rfl | (simp; done) | (simp [*]; done)), H', ⟨by have := HK1.out; first | omega | exact Nat.le_refl _⟩, ⟨by (with_reducible repeat (first | apply Kd.R_alloc | apply Kd.R_drewN | apply Kd.R_drew)); exact Kd.R_mono (Kd.R_far (p := ⟨gb231, 3, none⟩) (Kd.R_far (p := ⟨gb231, 2, none⟩) (Kd.R_far (p := ⟨gb231, 1, none⟩) (Kd.R_far (p := ⟨gb231, 0, none⟩) (Kd.R_types HO_13.out BK231.out (by decide)) (fun _ hk => hk.2) (.string ((rd_T31 l0 x21_1).f0.f0))) (fun _ hk => hk.2) (.int .i64 ((rd_T31 l0 x21_1).f0.f1))) (fun _ hk => hk.2) (.int .i64 ((rd_T31 l0 x21_1).f0.f2))) (fun _ hk => hk.2) (.string ((rd_T31 l0 x21_1).f1))) (fun _ hk => trivial)⟩, ⟨by (with_reducible repeat (first | refine blk_drewN ?_ _ | refine blk_drew ?_ | refine blk_alloc ?_ _)); refine blk_put (cs := #[.string ((rd_T31 l0 x21_1).f0.f0), .int .i64 ((rd_T31 l0 x21_1).f0.f1), .int .i64 ((rd_T31 l0 x21_1).f0.f2), .string (⟨#[]⟩ : ByteArray)]) ?_ 3 _ rfl; (with_reducible repeat (first | refine blk_drewN ?_ _ | refine blk_drew ?_ | refine blk_alloc ?_ _)); refine blk_put (cs := #[.string ((rd_T31 l0 x21_1).f0.f0), .int .i64 ((rd_T31 l0 x21_1).f0.f1), .int .i64 0, .string (⟨#[]⟩ : ByteArray)]) ?_ 2 _ rfl; (with_reducible repeat (first | refine blk_drewN ?_ _ | refine blk_drew ?_ | refine blk_alloc ?_ _)); refine blk_put (cs := #[.string ((rd_T31 l0 x21_1).f0.f0), .int .i64 0, .int .i64 0, .string (⟨#[]⟩ : ByteArray)]) ?_ 1 _ rfl; (with_reducible repeat (first | refine blk_drewN ?_ _ | refine blk_drew ?_ | refine blk_alloc ?_ _)); refine blk_put (cs := #[.string (⟨#[]⟩ : ByteArray), .int .i64 0, .int .i64 0, .string (⟨#[]⟩ : ByteArray)]) ?_ 0 _ rfl; (with_reducible repeat (first | refine blk_drewN ?_ _ | refine blk_drew ?_ | refine blk_alloc ?_ _)); exact BK231.out⟩, ⟨by repeat (first | (with_reducible first | exact HB.out | apply below_alloc | apply pw_below_drewN | apply below_drew1 | refine below_set ?_ GE231.out) | exact HB.out | exact Below.refl _ _)⟩⟩
         ·
          rw [if_neg c15] at H
          have c15b0 : decide (a1 < ((rd_T31 l0 x21_1).f0.f1)) = false := decide_eq_false c15
          clear c15
          by_cases c17 : x14_1 = true
          ·
           subst c17
           have H1 : (merge_View.j1 k1 a1 a2 a3 a4 a5 x13_1 true x15_1 ((rd_T31 l0 x21_1).f0.f0) l0 (l0.length : Int) x21_1 (((rd_T31 l0 x21_1).f0.f0).toList == x15_1.toList) ((rd_T31 l0 x21_1).f0.f0) ((rd_T31 l0 x21_1).f0.f1) ((rd_T31 l0 x21_1).f0.f2) ((rd_T31 l0 x21_1).f1)) = some r := by rw [if_pos rfl] at H; exact H
           clear H
           have H := H1
           clear H1
           have H' := Aside0.mk H
           clear H
           have hcz18_0 : w11.cell? ⟨gb231, 0, none⟩ = some (.string (⟨#[]⟩ : ByteArray)) := (blk_cell BK231.out 0).trans rfl
           have hcz18_1 : w11.cell? ⟨gb231, 1, none⟩ = some (.int .i64 0) := (blk_cell BK231.out 1).trans rfl
           have hcz18_2 : w11.cell? ⟨gb231, 2, none⟩ = some (.int .i64 0) := (blk_cell BK231.out 2).trans rfl
           have hcz18_3 : w11.cell? ⟨gb231, 3, none⟩ = some (.string (⟨#[]⟩ : ByteArray)) := (blk_cell BK231.out 3).trans rfl
           have hfz18_0 := blk_frozen BK231.out 0
           have hfz18_1 := blk_frozen BK231.out 1
           have hfz18_2 := blk_frozen BK231.out 2
           have hfz18_3 := blk_frozen BK231.out 3
           go_wp2_with (first | (with_reducible refine wp_label ?_) | (with_reducible refine wp_scope_straight ?_) | (simp only [Exit.noGoto_ret, Exit.noGoto_normal, Exit.noGoto_exit]))
           go_meet
           case rel => exact ⟨_, ((((rd_T31 l0 x21_1).f0.f0).toList == x15_1.toList)), (by first | rfl | (simp; done) | (simp [*]; done)), H', ⟨by have := HK1.out; first | omega | exact Nat.le_refl _⟩, ⟨by (with_reducible repeat (first | apply Kd.R_alloc | apply Kd.R_drewN | apply Kd.R_drew)); exact Kd.R_mono (Kd.R_far (p := ⟨gb231, 3, none⟩) (Kd.R_far (p := ⟨gb231, 2, none⟩) (Kd.R_far (p := ⟨gb231, 1, none⟩) (Kd.R_far (p := ⟨gb231, 0, none⟩) (Kd.R_types HO_13.out BK231.out (by decide)) (fun _ hk => hk.2) (.string ((rd_T31 l0 x21_1).f0.f0))) (fun _ hk => hk.2) (.int .i64 ((rd_T31 l0 x21_1).f0.f1))) (fun _ hk => hk.2) (.int .i64 ((rd_T31 l0 x21_1).f0.f2))) (fun _ hk => hk.2) (.string ((rd_T31 l0 x21_1).f1))) (fun _ hk => trivial)⟩, ⟨by (with_reducible repeat (first | refine blk_drewN ?_ _ | refine blk_drew ?_ | refine blk_alloc ?_ _)); refine blk_put (cs := #[.string ((rd_T31 l0 x21_1).f0.f0), .int .i64 ((rd_T31 l0 x21_1).f0.f1), .int .i64 ((rd_T31 l0 x21_1).f0.f2), .string (⟨#[]⟩ : ByteArray)]) ?_ 3 _ rfl; (with_reducible repeat (first | refine blk_drewN ?_ _ | refine blk_drew ?_ | refine blk_alloc ?_ _)); refine blk_put (cs := #[.string ((rd_T31 l0 x21_1).f0.f0), .int .i64 ((rd_T31 l0 x21_1).f0.f1), .int .i64 0, .string (⟨#[]⟩ : ByteArray)]) ?_ 2 _ rfl; (with_reducible repeat (first | refine blk_drewN ?_ _ | refine blk_drew ?_ | refine blk_alloc ?_ _)); refine blk_put (cs := #[.string ((rd_T31 l0 x21_1).f0.f0), .int .i64 0, .int .i64 0, .string (⟨#[]⟩ : ByteArray)]) ?_ 1 _ rfl; (with_reducible repeat (first | refine blk_drewN ?_ _ | refine blk_drew ?_ | refine blk_alloc ?_ _)); refine blk_put (cs := #[.string (⟨#[]⟩ : ByteArray), .int .i64 0, .int .i64 0, .string (⟨#[]⟩ : ByteArray)]) ?_ 0 _ rfl; (with_reducible repeat (first | refine blk_drewN ?_ _ | refine blk_drew ?_ | refine blk_alloc ?_ _)); exact BK231.out⟩, ⟨by repeat (first | (with_reducible first | exact HB.out | apply below_alloc | apply pw_below_drewN | apply below_drew1 | refine below_set ?_ GE231.out) | exact HB.out | exact Below.refl _ _)⟩⟩
          ·
           replace c17 := Bool.eq_false_iff.mpr c17
           subst c17
           have H1 : (merge_View.j1 k1 a1 a2 a3 a4 a5 x13_1 false x15_1 ((rd_T31 l0 x21_1).f0.f0) l0 (l0.length : Int) x21_1 false ((rd_T31 l0 x21_1).f0.f0) ((rd_T31 l0 x21_1).f0.f1) ((rd_T31 l0 x21_1).f0.f2) ((rd_T31 l0 x21_1).f1)) = some r := by rw [if_neg (show ¬ (false = true) by decide)] at H; exact H
           clear H
           have H := H1
           clear H1
           have H' := Aside0.mk H
           clear H
           have hcz19_0 : w11.cell? ⟨gb231, 0, none⟩ = some (.string (⟨#[]⟩ : ByteArray)) := (blk_cell BK231.out 0).trans rfl
           have hcz19_1 : w11.cell? ⟨gb231, 1, none⟩ = some (.int .i64 0) := (blk_cell BK231.out 1).trans rfl
           have hcz19_2 : w11.cell? ⟨gb231, 2, none⟩ = some (.int .i64 0) := (blk_cell BK231.out 2).trans rfl
           have hcz19_3 : w11.cell? ⟨gb231, 3, none⟩ = some (.string (⟨#[]⟩ : ByteArray)) := (blk_cell BK231.out 3).trans rfl
           have hfz19_0 := blk_frozen BK231.out 0
           have hfz19_1 := blk_frozen BK231.out 1
           have hfz19_2 := blk_frozen BK231.out 2
           have hfz19_3 := blk_frozen BK231.out 3
           go_wp2_with (first | (with_reducible refine wp_label ?_) | (with_reducible refine wp_scope_straight ?_) | (simp only [Exit.noGoto_ret, Exit.noGoto_normal, Exit.noGoto_exit]))
           go_meet
           case rel => exact ⟨_, (false), (by first | rfl | (simp; done) | (simp [*]; done)), H', ⟨by have := HK1.out; first | omega | exact Nat.le_refl _⟩, ⟨by (with_reducible repeat (first | apply Kd.R_alloc | apply Kd.R_drewN | apply Kd.R_drew)); exact Kd.R_mono (Kd.R_far (p := ⟨gb231, 3, none⟩) (Kd.R_far (p := ⟨gb231, 2, none⟩) (Kd.R_far (p := ⟨gb231, 1, none⟩) (Kd.R_far (p := ⟨gb231, 0, none⟩) (Kd.R_types HO_13.out BK231.out (by decide)) (fun _ hk => hk.2) (.string ((rd_T31 l0 x21_1).f0.f0))) (fun _ hk => hk.2) (.int .i64 ((rd_T31 l0 x21_1).f0.f1))) (fun _ hk => hk.2) (.int .i64 ((rd_T31 l0 x21_1).f0.f2))) (fun _ hk => hk.2) (.string ((rd_T31 l0 x21_1).f1))) (fun _ hk => trivial)⟩, ⟨by (with_reducible repeat (first | refine blk_drewN ?_ _ | refine blk_drew ?_ | refine blk_alloc ?_ _)); refine blk_put (cs := #[.string ((rd_T31 l0 x21_1).f0.f0), .int .i64 ((rd_T31 l0 x21_1).f0.f1), .int .i64 ((rd_T31 l0 x21_1).f0.f2), .string (⟨#[]⟩ : ByteArray)]) ?_ 3 _ rfl; (with_reducible repeat (first | refine blk_drewN ?_ _ | refine blk_drew ?_ | refine blk_alloc ?_ _)); refine blk_put (cs := #[.string ((rd_T31 l0 x21_1).f0.f0), .int .i64 ((rd_T31 l0 x21_1).f0.f1), .int .i64 0, .string (⟨#[]⟩ : ByteArray)]) ?_ 2 _ rfl; (with_reducible repeat (first | refine blk_drewN ?_ _ | refine blk_drew ?_ | refine blk_alloc ?_ _)); refine blk_put (cs := #[.string ((rd_T31 l0 x21_1).f0.f0), .int .i64 0, .int .i64 0, .string (⟨#[]⟩ : ByteArray)]) ?_ 1 _ rfl; (with_reducible repeat (first | refine blk_drewN ?_ _ | refine blk_drew ?_ | refine blk_alloc ?_ _)); refine blk_put (cs := #[.string (⟨#[]⟩ : ByteArray), .int .i64 0, .int .i64 0, .string (⟨#[]⟩ : ByteArray)]) ?_ 0 _ rfl; (with_reducible repeat (first | refine blk_drewN ?_ _ | refine blk_drew ?_ | refine blk_alloc ?_ _)); exact BK231.out⟩, ⟨by repeat (first | (with_reducible first | exact HB.out | apply below_alloc | apply pw_below_drewN | apply below_drew1 | refine below_set ?_ GE231.out) | exact HB.out | exact Below.refl _ _)⟩⟩
        ·
         rw [if_neg c14] at H
         have c14b0 : (a3.toList == ([] : List UInt8)) = false := beq_eq_false_iff_ne.mpr c14
         have c14b1 : (a3.toList != ([] : List UInt8)) = true := bne_iff_ne.mpr c14
         by_cases c20 : ((Op.bytesLess (((rd_T31 l0 x21_1).f0.f0).toList) a3.toList) = true)
         ·
          rw [if_pos c20] at H
          have c20b0 : (Op.bytesLess (((rd_T31 l0 x21_1).f0.f0).toList) a3.toList) = true := c20
          (try (have c20b1 : ((((rd_T31 l0 x21_1).f0.f0).toList) == a3.toList) = false := bl_ne c20))
          (try (have c20b2 : (a3.toList == (((rd_T31 l0 x21_1).f0.f0).toList)) = false := bl_ne2 c20))
          clear c20
          by_cases c21 : ((rd_T31 l0 x21_1).f0.f1) > a1
          ·
           rw [if_pos c21] at H
           have c21b0 : decide (a1 < ((rd_T31 l0 x21_1).f0.f1)) = true := decide_eq_true c21
           clear c21
           have H' := Aside0.mk H
           clear H
           have hcz22_0 : w11.cell? ⟨gb231, 0, none⟩ = some (.string (⟨#[]⟩ : ByteArray)) := (blk_cell BK231.out 0).trans rfl
           have hcz22_1 : w11.cell? ⟨gb231, 1, none⟩ = some (.int .i64 0) := (blk_cell BK231.out 1).trans rfl
           have hcz22_2 : w11.cell? ⟨gb231, 2, none⟩ = some (.int .i64 0) := (blk_cell BK231.out 2).trans rfl
           have hcz22_3 : w11.cell? ⟨gb231, 3, none⟩ = some (.string (⟨#[]⟩ : ByteArray)) := (blk_cell BK231.out 3).trans rfl
           have hfz22_0 := blk_frozen BK231.out 0
           have hfz22_1 := blk_frozen BK231.out 1
           have hfz22_2 := blk_frozen BK231.out 2
           have hfz22_3 := blk_frozen BK231.out 3
           go_wp2_with (first | (with_reducible refine wp_label ?_) | (with_reducible refine wp_scope_straight ?_) | (simp only [Exit.noGoto_ret, Exit.noGoto_normal, Exit.noGoto_exit]))
           go_meet
           case rel => exact ⟨_, (true), (by first | rfl | (simp; done) | (simp [*]; done)), H', ⟨by have := HK1.out; first | omega | exact Nat.le_refl _⟩, ⟨by (with_reducible repeat (first | apply Kd.R_alloc | apply Kd.R_drewN | apply Kd.R_drew)); exact Kd.R_mono (Kd.R_far (p := ⟨gb231, 3, none⟩) (Kd.R_far (p := ⟨gb231, 2, none⟩) (Kd.R_far (p := ⟨gb231, 1, none⟩) (Kd.R_far (p := ⟨gb231, 0, none⟩) (Kd.R_types HO_13.out BK231.out (by decide)) (fun _ hk => hk.2) (.string ((rd_T31 l0 x21_1).f0.f0))) (fun _ hk => hk.2) (.int .i64 ((rd_T31 l0 x21_1).f0.f1))) (fun _ hk => hk.2) (.int .i64 ((rd_T31 l0 x21_1).f0.f2))) (fun _ hk => hk.2) (.string ((rd_T31 l0 x21_1).f1))) (fun _ hk => trivial)⟩, ⟨by (with_reducible repeat (first | refine blk_drewN ?_ _ | refine blk_drew ?_ | refine blk_alloc ?_ _)); refine blk_put (cs := #[.string ((rd_T31 l0 x21_1).f0.f0), .int .i64 ((rd_T31 l0 x21_1).f0.f1), .int .i64 ((rd_T31 l0 x21_1).f0.f2), .string (⟨#[]⟩ : ByteArray)]) ?_ 3 _ rfl; (with_reducible repeat (first | refine blk_drewN ?_ _ | refine blk_drew ?_ | refine blk_alloc ?_ _)); refine blk_put (cs := #[.string ((rd_T31 l0 x21_1).f0.f0), .int .i64 ((rd_T31 l0 x21_1).f0.f1), .int .i64 0, .string (⟨#[]⟩ : ByteArray)]) ?_ 2 _ rfl; (with_reducible repeat (first | refine blk_drewN ?_ _ | refine blk_drew ?_ | refine blk_alloc ?_ _)); refine blk_put (cs := #[.string ((rd_T31 l0 x21_1).f0.f0), .int .i64 0, .int .i64 0, .string (⟨#[]⟩ : ByteArray)]) ?_ 1 _ rfl; (with_reducible repeat (first | refine blk_drewN ?_ _ | refine blk_drew ?_ | refine blk_alloc ?_ _)); refine blk_put (cs := #[.string (⟨#[]⟩ : ByteArray), .int .i64 0, .int .i64 0, .string (⟨#[]⟩ : ByteArray)]) ?_ 0 _ rfl; (with_reducible repeat (first | refine blk_drewN ?_ _ | refine blk_drew ?_ | refine blk_alloc ?_ _)); exact BK231.out⟩, ⟨by repeat (first | (with_reducible first | exact HB.out | apply below_alloc | apply pw_below_drewN | apply below_drew1 | refine below_set ?_ GE231.out) | exact HB.out | exact Below.refl _ _)⟩⟩
          ·
           rw [if_neg c21] at H
           have c21b0 : decide (a1 < ((rd_T31 l0 x21_1).f0.f1)) = false := decide_eq_false c21
           clear c21
           by_cases c23 : x14_1 = true
           ·
            subst c23
            have H1 : (merge_View.j1 k1 a1 a2 a3 a4 a5 x13_1 true x15_1 ((rd_T31 l0 x21_1).f0.f0) l0 (l0.length : Int) x21_1 (((rd_T31 l0 x21_1).f0.f0).toList == x15_1.toList) ((rd_T31 l0 x21_1).f0.f0) ((rd_T31 l0 x21_1).f0.f1) ((rd_T31 l0 x21_1).f0.f2) ((rd_T31 l0 x21_1).f1)) = some r := by rw [if_pos rfl] at H; exact H
            clear H
            have H := H1
            clear H1
            have H' := Aside0.mk H
            clear H
            have hcz24_0 : w11.cell? ⟨gb231, 0, none⟩ = some (.string (⟨#[]⟩ : ByteArray)) := (blk_cell BK231.out 0).trans rfl
            have hcz24_1 : w11.cell? ⟨gb231, 1, none⟩ = some (.int .i64 0) := (blk_cell BK231.out 1).trans rfl
            have hcz24_2 : w11.cell? ⟨gb231, 2, none⟩ = some (.int .i64 0) := (blk_cell BK231.out 2).trans rfl
            have hcz24_3 : w11.cell? ⟨gb231, 3, none⟩ = some (.string (⟨#[]⟩ : ByteArray)) := (blk_cell BK231.out 3).trans rfl
            have hfz24_0 := blk_frozen BK231.out 0
            have hfz24_1 := blk_frozen BK231.out 1
            have hfz24_2 := blk_frozen BK231.out 2
            have hfz24_3 := blk_frozen BK231.out 3
            go_wp2_with (first | (with_reducible refine wp_label ?_) | (with_reducible refine wp_scope_straight ?_) | (simp only [Exit.noGoto_ret, Exit.noGoto_normal, Exit.noGoto_exit]))
            go_meet
            case rel => exact ⟨_, ((((rd_T31 l0 x21_1).f0.f0).toList == x15_1.toList)), (by first | rfl | (simp; done) | (simp [*]; done)), H', ⟨by have := HK1.out; first | omega | exact Nat.le_refl _⟩, ⟨by (with_reducible repeat (first | apply Kd.R_alloc | apply Kd.R_drewN | apply Kd.R_drew)); exact Kd.R_mono (Kd.R_far (p := ⟨gb231, 3, none⟩) (Kd.R_far (p := ⟨gb231, 2, none⟩) (Kd.R_far (p := ⟨gb231, 1, none⟩) (Kd.R_far (p := ⟨gb231, 0, none⟩) (Kd.R_types HO_13.out BK231.out (by decide)) (fun _ hk => hk.2) (.string ((rd_T31 l0 x21_1).f0.f0))) (fun _ hk => hk.2) (.int .i64 ((rd_T31 l0 x21_1).f0.f1))) (fun _ hk => hk.2) (.int .i64 ((rd_T31 l0 x21_1).f0.f2))) (fun _ hk => hk.2) (.string ((rd_T31 l0 x21_1).f1))) (fun _ hk => trivial)⟩, ⟨by (with_reducible repeat (first | refine blk_drewN ?_ _ | refine blk_drew ?_ | refine blk_alloc ?_ _)); refine blk_put (cs := #[.string ((rd_T31 l0 x21_1).f0.f0), .int .i64 ((rd_T31 l0 x21_1).f0.f1), .int .i64 ((rd_T31 l0 x21_1).f0.f2), .string (⟨#[]⟩ : ByteArray)]) ?_ 3 _ rfl; (with_reducible repeat (first | refine blk_drewN ?_ _ | refine blk_drew ?_ | refine blk_alloc ?_ _)); refine blk_put (cs := #[.string ((rd_T31 l0 x21_1).f0.f0), .int .i64 ((rd_T31 l0 x21_1).f0.f1), .int .i64 0, .string (⟨#[]⟩ : ByteArray)]) ?_ 2 _ rfl; (with_reducible repeat (first | refine blk_drewN ?_ _ | refine blk_drew ?_ | refine blk_alloc ?_ _)); refine blk_put (cs := #[.string ((rd_T31 l0 x21_1).f0.f0), .int .i64 0, .int .i64 0, .string (⟨#[]⟩ : ByteArray)]) ?_ 1 _ rfl; (with_reducible repeat (first | refine blk_drewN ?_ _ | refine blk_drew ?_ | refine blk_alloc ?_ _)); refine blk_put (cs := #[.string (⟨#[]⟩ : ByteArray), .int .i64 0, .int .i64 0, .string (⟨#[]⟩ : ByteArray)]) ?_ 0 _ rfl; (with_reducible repeat (first | refine blk_drewN ?_ _ | refine blk_drew ?_ | refine blk_alloc ?_ _)); exact BK231.out⟩, ⟨by repeat (first | (with_reducible first | exact HB.out | apply below_alloc | apply pw_below_drewN | apply below_drew1 | refine below_set ?_ GE231.out) | exact HB.out | exact Below.refl _ _)⟩⟩
           ·
            replace c23 := Bool.eq_false_iff.mpr c23
            subst c23
            have H1 : (merge_View.j1 k1 a1 a2 a3 a4 a5 x13_1 false x15_1 ((rd_T31 l0 x21_1).f0.f0) l0 (l0.length : Int) x21_1 false ((rd_T31 l0 x21_1).f0.f0) ((rd_T31 l0 x21_1).f0.f1) ((rd_T31 l0 x21_1).f0.f2) ((rd_T31 l0 x21_1).f1)) = some r := by rw [if_neg (show ¬ (false = true) by decide)] at H; exact H
            clear H
            have H := H1
            clear H1
            have H' := Aside0.mk H
            clear H
            have hcz25_0 : w11.cell? ⟨gb231, 0, none⟩ = some (.string (⟨#[]⟩ : ByteArray)) := (blk_cell BK231.out 0).trans rfl
            have hcz25_1 : w11.cell? ⟨gb231, 1, none⟩ = some (.int .i64 0) := (blk_cell BK231.out 1).trans rfl
            have hcz25_2 : w11.cell? ⟨gb231, 2, none⟩ = some (.int .i64 0) := (blk_cell BK231.out 2).trans rfl
            have hcz25_3 : w11.cell? ⟨gb231, 3, none⟩ = some (.string (⟨#[]⟩ : ByteArray)) := (blk_cell BK231.out 3).trans rfl
            have hfz25_0 := blk_frozen BK231.out 0
            have hfz25_1 := blk_frozen BK231.out 1
            have hfz25_2 := blk_frozen BK231.out 2
            have hfz25_3 := blk_frozen BK231.out 3
            go_wp2_with (first | (with_reducible refine wp_label ?_) | (with_reducible refine wp_scope_straight ?_) | (simp only [Exit.noGoto_ret, Exit.noGoto_normal, Exit.noGoto_exit]))
            go_meet
            case rel => exact ⟨_, (false), (by first | rfl | (simp; done) | (simp [*]; done)), H', ⟨by have := HK1.out; first | omega | exact Nat.le_refl _⟩, ⟨by (with_reducible repeat (first | apply Kd.R_alloc | apply Kd.R_drewN | apply Kd.R_drew)); exact Kd.R_mono (Kd.R_far (p := ⟨gb231, 3, none⟩) (Kd.R_far (p := ⟨gb231, 2, none⟩) (Kd.R_far (p := ⟨gb231, 1, none⟩) (Kd.R_far (p := ⟨gb231, 0, none⟩) (Kd.R_types HO_13.out BK231.out (by decide)) (fun _ hk => hk.2) (.string ((rd_T31 l0 x21_1).f0.f0))) (fun _ hk => hk.2) (.int .i64 ((rd_T31 l0 x21_1).f0.f1))) (fun _ hk => hk.2) (.int .i64 ((rd_T31 l0 x21_1).f0.f2))) (fun _ hk => hk.2) (.string ((rd_T31 l0 x21_1).f1))) (fun _ hk => trivial)⟩, ⟨by (with_reducible repeat (first | refine blk_drewN ?_ _ | refine blk_drew ?_ | refine blk_alloc ?_ _)); refine blk_put (cs := #[.string ((rd_T31 l0 x21_1).f0.f0), .int .i64 ((rd_T31 l0 x21_1).f0.f1), .int .i64 ((rd_T31 l0 x21_1).f0.f2), .string (⟨#[]⟩ : ByteArray)]) ?_ 3 _ rfl; (with_reducible repeat (first | refine blk_drewN ?_ _ | refine blk_drew ?_ | refine blk_alloc ?_ _)); refine blk_put (cs := #[.string ((rd_T31 l0 x21_1).f0.f0), .int .i64 ((rd_T31 l0 x21_1).f0.f1), .int .i64 0, .string (⟨#[]⟩ : ByteArray)]) ?_ 2 _ rfl; (with_reducible repeat (first | refine blk_drewN ?_ _ | refine blk_drew ?_ | refine blk_alloc ?_ _)); refine blk_put (cs := #[.string ((rd_T31 l0 x21_1).f0.f0), .int .i64 0, .int .i64 0, .string (⟨#[]⟩ : ByteArray)]) ?_ 1 _ rfl; (with_reducible repeat (first | refine blk_drewN ?_ _ | refine blk_drew ?_ | refine blk_alloc ?_ _)); refine blk_put (cs := #[.string (⟨#[]⟩ : ByteArray), .int .i64 0, .int .i64 0, .string (⟨#[]⟩ : ByteArray)]) ?_ 0 _ rfl; (with_reducible repeat (first | refine blk_drewN ?_ _ | refine blk_drew ?_ | refine blk_alloc ?_ _)); exact BK231.out⟩, ⟨by repeat (first | (with_reducible first | exact HB.out | apply below_alloc | apply pw_below_drewN | apply below_drew1 | refine below_set ?_ GE231.out) | exact HB.out | exact Below.refl _ _)⟩⟩
         ·
          rw [if_neg c20] at H
          have c20b0 : (Op.bytesLess (((rd_T31 l0 x21_1).f0.f0).toList) a3.toList) = false := by simpa using c20
          (try (have c20b1 : ((((rd_T31 l0 x21_1).f0.f0).toList) == a3.toList) = true := bl_eq (by assumption) (by assumption)))
          (try (have c20b2 : (a3.toList == (((rd_T31 l0 x21_1).f0.f0).toList)) = true := bl_eq (by assumption) (by assumption)))
          clear c20
          have H' := Aside0.mk H
          clear H
          go_wp2_with (first | (with_reducible refine wp_label ?_) | (with_reducible refine wp_scope_straight ?_) | (simp only [Exit.noGoto_ret, Exit.noGoto_normal, Exit.noGoto_exit]))
          go_meet
          case rel => exact ⟨_, (true), (by first | rfl | (simp; done) | (simp [*]; done)), H', ⟨by have := HK1.out; first | omega | exact Nat.le_refl _⟩, ⟨by (with_reducible repeat (first | apply Kd.R_alloc | apply Kd.R_drewN | apply Kd.R_drew)); exact Kd.R_mono (Kd.R_far (p := ⟨gb231, 3, none⟩) (Kd.R_far (p := ⟨gb231, 2, none⟩) (Kd.R_far (p := ⟨gb231, 1, none⟩) (Kd.R_far (p := ⟨gb231, 0, none⟩) (Kd.R_types HO_13.out BK231.out (by decide)) (fun _ hk => hk.2) (.string ((rd_T31 l0 x21_1).f0.f0))) (fun _ hk => hk.2) (.int .i64 ((rd_T31 l0 x21_1).f0.f1))) (fun _ hk => hk.2) (.int .i64 ((rd_T31 l0 x21_1).f0.f2))) (fun _ hk => hk.2) (.string ((rd_T31 l0 x21_1).f1))) (fun _ hk => trivial)⟩, ⟨by (with_reducible repeat (first | refine blk_drewN ?_ _ | refine blk_drew ?_ | refine blk_alloc ?_ _)); refine blk_put (cs := #[.string ((rd_T31 l0 x21_1).f0.f0), .int .i64 ((rd_T31 l0 x21_1).f0.f1), .int .i64 ((rd_T31 l0 x21_1).f0.f2), .string (⟨#[]⟩ : ByteArray)]) ?_ 3 _ rfl; (with_reducible repeat (first | refine blk_drewN ?_ _ | refine blk_drew ?_ | refine blk_alloc ?_ _)); refine blk_put (cs := #[.string ((rd_T31 l0 x21_1).f0.f0), .int .i64 ((rd_T31 l0 x21_1).f0.f1), .int .i64 0, .string (⟨#[]⟩ : ByteArray)]) ?_ 2 _ rfl; (with_reducible repeat (first | refine blk_drewN ?_ _ | refine blk_drew ?_ | refine blk_alloc ?_ _)); refine blk_put (cs := #[.string ((rd_T31 l0 x21_1).f0.f0), .int .i64 0, .int .i64 0, .string (⟨#[]⟩ : ByteArray)]) ?_ 1 _ rfl; (with_reducible repeat (first | refine blk_drewN ?_ _ | refine blk_drew ?_ | refine blk_alloc ?_ _)); refine blk_put (cs := #[.string (⟨#[]⟩ : ByteArray), .int .i64 0, .int .i64 0, .string (⟨#[]⟩ : ByteArray)]) ?_ 0 _ rfl; (with_reducible repeat (first | refine blk_drewN ?_ _ | refine blk_drew ?_ | refine blk_alloc ?_ _)); exact BK231.out⟩, ⟨by repeat (first | (with_reducible first | exact HB.out | apply below_alloc | apply pw_below_drewN | apply below_drew1 | refine below_set ?_ GE231.out) | exact HB.out | exact Below.refl _ _)⟩⟩
      case rest =>
       as_aux_lemma =>
        clear HC10
        obtain ⟨kq, x54_9, rfl, HA, HJ9, HO_13, BK231, HB⟩ := hcut
        cases kq with
        | zero => exact absurd HA.out (by simp [merge_View.j1])
        | succ kj9 =>
         have H := HA.out
         clear HA
         simp only [merge_View.j1] at H
         by_cases c26 : x54_9 = true
         ·
          subst c26
          have H1 : (merge_View.l0 kj9 a1 a2 a3 a4 a5 x13_1 x14_1 x15_1 l0 (l0.length : Int) (wrap64 (x21_1 + 1))) = some r := by rw [if_pos rfl] at H; exact H
          clear H
          have H := H1
          clear H1
          have H' := Aside0.mk H
          clear H
          go_wp2_with (first | (with_reducible refine wp_label ?_) | (with_reducible refine wp_scope_straight ?_) | (simp only [Exit.noGoto_ret, Exit.noGoto_normal, Exit.noGoto_exit]))
          go_roundg kj9
          case measure => have := HK1.out; have := HJ9.out; omega
          case rel => exact ⟨(x13_1), (x14_1), (x15_1), (wrap64 (x21_1 + 1)), (by first | rfl | (simp; done) | (simp [*]; done)), (by first | rfl | (simp; done) | (simp [*]; done)), (by first | rfl | (simp; done) | (simp [*]; done)), H', ⟨by have := HK1.out; have := HJ9.out; omega⟩, ⟨by (with_reducible repeat (first | apply Kd.R_alloc | apply Kd.R_drewN | apply Kd.R_drew)); exact HO_13.out⟩, ⟨by repeat (first | (with_reducible first | exact HB.out | apply below_alloc | apply pw_below_drewN | apply below_drew1 | refine below_set ?_ GE231.out) | exact HB.out | exact Below.refl _ _)⟩⟩
         ·
          replace c26 := Bool.eq_false_iff.mpr c26
          subst c26
          have H1 : (if ((rd_T31 l0 x21_1).f0.f2) = 1 then (if x13_1.length < 4398046511104 then (merge_View.l0 kj9 a1 a2 a3 a4 a5 (x13_1 ++ [(⟨((rd_T31 l0 x21_1).f0.f0), ((rd_T31 l0 x21_1).f1)⟩ : S47)]) true ((rd_T31 l0 x21_1).f0.f0) l0 (l0.length : Int) (wrap64 (x21_1 + 1))) else (none)) else (merge_View.l0 kj9 a1 a2 a3 a4 a5 x13_1 true ((rd_T31 l0 x21_1).f0.f0) l0 (l0.length : Int) (wrap64 (x21_1 + 1)))) = some r := by rw [if_neg (show ¬ (false = true) by decide)] at H; exact H
          clear H
          have H := H1
          clear H1
          by_cases c27 : ((rd_T31 l0 x21_1).f0.f2) = 1
          ·
           rw [if_pos c27] at H
           have c27b0 : (((rd_T31 l0 x21_1).f0.f2) == 1) = true := beq_iff_eq.mpr c27
           have c27b1 : (((rd_T31 l0 x21_1).f0.f2) != 1) = false := bne_eq_false_iff_eq.mpr c27
           clear c27
           by_cases c28 : x13_1.length < 4398046511104
           ·
            rw [if_pos c28] at H
            have LMc28 := Aside0.mk c28
            clear c28
            obtain ⟨y232, hy232⟩ : ∃ y_ : List (S47), y_ = (x13_1 ++ [(⟨((rd_T31 l0 x21_1).f0.f0), ((rd_T31 l0 x21_1).f1)⟩ : S47)]) := ⟨_, rfl⟩
            replace H : (merge_View.l0 kj9 a1 a2 a3 a4 a5 y232 true ((rd_T31 l0 x21_1).f0.f0) l0 (l0.length : Int) (wrap64 (x21_1 + 1))) = some r := by first | (rw [hy232]; with_reducible exact H) | (have H2_ := (Option.bind_some _ _).symm.trans H; rw [hy232]; with_reducible exact H2_) | (have H2_ := (Option.bind_some _ _).symm.trans H; with_reducible exact H2_) | with_reducible exact H | (rw [hy232]; exact H) | exact H
            have Ny232 := Aside0.mk hy232
            clear hy232
            have H' := Aside0.mk H
            clear H
            have hcz29_0 : wc.cell? ⟨gb231, 0, none⟩ = some (.string ((rd_T31 l0 x21_1).f0.f0)) := (blk_cell BK231.out 0).trans rfl
            have hcz29_1 : wc.cell? ⟨gb231, 1, none⟩ = some (.int .i64 ((rd_T31 l0 x21_1).f0.f1)) := (blk_cell BK231.out 1).trans rfl
            have hcz29_2 : wc.cell? ⟨gb231, 2, none⟩ = some (.int .i64 ((rd_T31 l0 x21_1).f0.f2)) := (blk_cell BK231.out 2).trans rfl
            have hcz29_3 : wc.cell? ⟨gb231, 3, none⟩ = some (.string ((rd_T31 l0 x21_1).f1)) := (blk_cell BK231.out 3).trans rfl
            have hfz29_0 := blk_frozen BK231.out 0
            have hfz29_1 := blk_frozen BK231.out 1
            have hfz29_2 := blk_frozen BK231.out 2
            have hfz29_3 := blk_frozen BK231.out 3
            go_wp2_with (first | (first | (with_reducible refine wp_label ?_) | (with_reducible refine wp_scope_straight ?_) | (simp only [Exit.noGoto_ret, Exit.noGoto_normal, Exit.noGoto_exit])) | ((with_reducible refine gate_builtin (b := .append) (xs := #[.tmp 60, .tmp 65]) rfl ?_); at_builtin; refine Kd.R_append k47 (w0 := w) w.heap.size rfl (.tmp 60) (.tmp 65) 41 47 (.agg #[(.string ⟨#[]⟩), (.string ⟨#[]⟩)]) 32 rfl Try.underlying41 info47 rfl (by decide) (by omega) u13 x13_1 (⟨((rd_T31 l0 x21_1).f0.f0), ((rd_T31 l0 x21_1).f1)⟩ : S47) [.string ((rd_T31 l0 x21_1).f0.f0), .string ((rd_T31 l0 x21_1).f1)] (fun _ => True) (fun _ => False) rfl rfl ?aP (fun _ hk => hk.elim) ?aF ?aO ?aB ?aS ?aL ?_; (case aP => exact k47_mkM _ _ _ (⟨((rd_T31 l0 x21_1).f0.f0), ((rd_T31 l0 x21_1).f1)⟩ : S47)); (case aB => exact (by repeat (first | (with_reducible first | exact HB.out | apply below_alloc | apply pw_below_drewN | apply below_drew1 | refine below_set ?_ GE231.out) | exact HB.out | exact Below.refl _ _))); (case aF => exact (fun _ _ => trivial)); (case aO => exact (by (with_reducible repeat (first | apply Kd.R_alloc | apply Kd.R_drewN | apply Kd.R_drew)); exact HO_13.out)); (case aS => exact (below_size (by repeat (first | (with_reducible first | exact HB.out | apply below_alloc | apply pw_below_drewN | apply below_drew1 | refine below_set ?_ GE231.out) | exact HB.out | exact Below.refl _ _)))); (case aL => have := LMc28.out; omega); intro v233 w30 ho hb hg hat; rw [← Ny232.out] at ho; have n0_ := Aside0.mk (blk_grown (g := gb231) (o := .cells #[.string ((rd_T31 l0 x21_1).f0.f0), .int .i64 ((rd_T31 l0 x21_1).f0.f1), .int .i64 ((rd_T31 l0 x21_1).f0.f2), .string ((rd_T31 l0 x21_1).f1)] 31 (0, 0)) (by (with_reducible repeat (first | refine blk_drewN ?_ _ | refine blk_drew ?_ | refine blk_alloc ?_ _)); exact BK231.out) hg (Kd.R_ne HO_13.out BK231.out (by decide))); have n1_ := Aside0.mk (hb); have n2_ := Aside0.mk (ho); clear BK231; clear HB; clear HO_13; have BK231 := n0_; have HB := n1_; have HO234 := n2_; clear n0_ n1_ n2_; clear ho hb hg hat))
            go_roundg kj9
            case measure => have := HK1.out; have := HJ9.out; omega
            case rel => exact ⟨(y232), (true), (((rd_T31 l0 x21_1).f0.f0)), (wrap64 (x21_1 + 1)), (by first | rfl | (simp; done) | (simp [*]; done)), (by first | rfl | (simp; done) | (simp [*]; done)), (by first | rfl | (simp; done) | (simp [*]; done)), H', ⟨by have := HK1.out; have := HJ9.out; omega⟩, ⟨by (with_reducible repeat (first | apply Kd.R_alloc | apply Kd.R_drewN | apply Kd.R_drew)); exact HO234.out⟩, ⟨by repeat (first | (with_reducible first | exact HB.out | apply below_alloc | apply pw_below_drewN | apply below_drew1 | refine below_set ?_ GE231.out) | exact HB.out | exact Below.refl _ _)⟩⟩
           ·
            rw [if_neg c28] at H
            exact absurd H (by simp)
          ·
           rw [if_neg c27] at H
           have c27b0 : (((rd_T31 l0 x21_1).f0.f2) == 1) = false := beq_eq_false_iff_ne.mpr c27
           have c27b1 : (((rd_T31 l0 x21_1).f0.f2) != 1) = true := bne_iff_ne.mpr c27
           have H' := Aside0.mk H
           clear H
           have hcz31_0 : wc.cell? ⟨gb231, 0, none⟩ = some (.string ((rd_T31 l0 x21_1).f0.f0)) := (blk_cell BK231.out 0).trans rfl
           have hcz31_1 : wc.cell? ⟨gb231, 1, none⟩ = some (.int .i64 ((rd_T31 l0 x21_1).f0.f1)) := (blk_cell BK231.out 1).trans rfl
           have hcz31_2 : wc.cell? ⟨gb231, 2, none⟩ = some (.int .i64 ((rd_T31 l0 x21_1).f0.f2)) := (blk_cell BK231.out 2).trans rfl
           have hcz31_3 : wc.cell? ⟨gb231, 3, none⟩ = some (.string ((rd_T31 l0 x21_1).f1)) := (blk_cell BK231.out 3).trans rfl
           have hfz31_0 := blk_frozen BK231.out 0
           have hfz31_1 := blk_frozen BK231.out 1
           have hfz31_2 := blk_frozen BK231.out 2
           have hfz31_3 := blk_frozen BK231.out 3
           go_wp2_with (first | (with_reducible refine wp_label ?_) | (with_reducible refine wp_scope_straight ?_) | (simp only [Exit.noGoto_ret, Exit.noGoto_normal, Exit.noGoto_exit]))
           go_roundg kj9
           case measure => have := HK1.out; have := HJ9.out; omega
           case rel => exact ⟨(x13_1), (true), (((rd_T31 l0 x21_1).f0.f0)), (wrap64 (x21_1 + 1)), (by first | rfl | (simp; done) | (simp [*]; done)), (by first | rfl | (simp; done) | (simp [*]; done)), (by first | rfl | (simp; done) | (simp [*]; done)), H', ⟨by have := HK1.out; have := HJ9.out; omega⟩, ⟨by (with_reducible repeat (first | apply Kd.R_alloc | apply Kd.R_drewN | apply Kd.R_drew)); exact HO_13.out⟩, ⟨by repeat (first | (with_reducible first | exact HB.out | apply below_alloc | apply pw_below_drewN | apply below_drew1 | refine below_set ?_ GE231.out) | exact HB.out | exact Below.refl _ _)⟩⟩
     ·
      rw [if_neg c9] at H
      exact absurd H (by simp)
    ·
     rw [if_neg c8] at H
     exact absurd H (by simp)
   ·
    rw [if_neg c7] at H
    have c7b0 : decide (x21_1 < (l0.length : Int)) = false := decide_eq_false c7
    clear c7
    by_cases c32 : a4 = true
    ·
     subst c32
     have H1 : ((api_Pair_51.f k1 x13_1).bind fun t235 => (if 0 ≤ (mx 0 (mn a5 (x13_1.length : Int))) then (if (mx 0 (mn a5 (x13_1.length : Int))) ≤ (x13_1.length : Int) then ((api_Pair_52.f (t235.take ((mx 0 (mn a5 (x13_1.length : Int))) : Int).toNat)).bind fun t240 => (some t240)) else (none)) else (none))) = some r := by rw [if_pos rfl] at H; exact H
     clear H
     have H := H1
     clear H1
     replace H := Option.bind_eq_some_iff.mp H
     obtain ⟨t235, A330, H⟩ := H
     replace H : (if 0 ≤ (mx 0 (mn a5 (x13_1.length : Int))) then (if (mx 0 (mn a5 (x13_1.length : Int))) ≤ (x13_1.length : Int) then ((api_Pair_52.f (t235.take ((mx 0 (mn a5 (x13_1.length : Int))) : Int).toNat)).bind fun t240 => (some t240)) else (none)) else (none)) = some r := H
     have A33 := Aside0.mk A330
     clear A330
     obtain ⟨ji34, hji34⟩ : ∃ j_ : Int, (mn a5 (x13_1.length : Int)) = j_ := ⟨_, rfl⟩
     replace H : (if 0 ≤ (mx 0 (ji34)) then (if (mx 0 (ji34)) ≤ (x13_1.length : Int) then ((api_Pair_52.f (t235.take ((mx 0 (ji34)) : Int).toNat)).bind fun t240 => (some t240)) else (none)) else (none)) = some r := by first | (rw [hji34] at H; exact H) | (simp only [hji34] at H ⊢; exact H)
     (try rw [hji34] at A33)
     have hji34_ : (if (x13_1.length : Int) < a5 then (x13_1.length : Int) else a5) = ji34 := hji34
     obtain ⟨ji35, hji35⟩ : ∃ j_ : Int, (mx 0 (ji34)) = j_ := ⟨_, rfl⟩
     replace H : (if 0 ≤ (ji35) then (if (ji35) ≤ (x13_1.length : Int) then ((api_Pair_52.f (t235.take ((ji35) : Int).toNat)).bind fun t240 => (some t240)) else (none)) else (none)) = some r := by first | (rw [hji35] at H; exact H) | (simp only [hji35] at H ⊢; exact H)
     (try rw [hji35] at A33)
     have hji35_ : (if 0 < (ji34) then (ji34) else 0) = ji35 := hji35
     by_cases c36 : 0 ≤ (ji35)
     ·
      rw [if_pos c36] at H
      have c36b0 := eq_true c36
      have c36b1 : decide (0 ≤ (ji35)) = true := decide_eq_true c36
      clear c36
      by_cases c37 : (ji35) ≤ (x13_1.length : Int)
      ·
       rw [if_pos c37] at H
       have c37b0 := eq_true c37
       have c37b1 : decide ((ji35) ≤ (x13_1.length : Int)) = true := decide_eq_true c37
       clear c37
       obtain ⟨y236, hy236⟩ : ∃ y_ : List (S47), y_ = (t235.take ((ji35) : Int).toNat) := ⟨_, rfl⟩
       replace H : ((api_Pair_52.f y236).bind fun t240 => (some t240)) = some r := by first | (rw [hy236]; with_reducible exact H) | (have H2_ := (Option.bind_some _ _).symm.trans H; rw [hy236]; with_reducible exact H2_) | (have H2_ := (Option.bind_some _ _).symm.trans H; with_reducible exact H2_) | with_reducible exact H | (rw [hy236]; exact H) | exact H
       have Ny236 := Aside0.mk hy236
       clear hy236
       replace H := Option.bind_eq_some_iff.mp H
       obtain ⟨t240, A380, H⟩ := H
       replace H : (some t240) = some r := H
       have A38 := Aside0.mk A380
       clear A380
       obtain rfl := Option.some.inj H
       obtain ⟨Ao39, co39, eo39⟩ := Kd.R_slice HO_13.out
       subst eo39
       go_wp2_with (first | (first | (with_reducible refine wp_label ?_) | (with_reducible refine wp_scope_straight ?_) | (simp only [Exit.noGoto_ret, Exit.noGoto_normal, Exit.noGoto_exit])) | ((with_reducible refine gate_callee (f := 51) rfl ?_); refine goesL_ (some 70) rfl rfl Try.func51 (by kernel_rfl) rfl #[.slice Ao39 x13_1.length co39] rfl (by (try simp only [List.map_toArray, List.map_cons, List.map_nil]); first | done | rfl | (simp only [List.length_drop, List.length_take]; rfl)) ?_; (with_reducible refine (api_Pair_51.calls k1 (fun k_ => some k_ = (.slice Ao39 x13_1.length co39 : Value).ownBlock) (.slice Ao39 x13_1.length co39) x13_1 t235 w _ ?side1 ?side2 A33.out).mono ?_); (case side1 => repeat (first | (with_reducible first | exact HB.out | apply below_alloc | apply pw_below_drewN | apply below_drew1) | exact HB.out | exact Below.refl _ _)); (case side2 => exact Kd.R_tight rfl HO_13.out); rintro e w40 ⟨rfl, hy0, hb, hkp⟩; refine ⟨_, rfl, ?_⟩; have n0_ := Aside0.mk (Kd.R_reok rfl hy0 (fun k_ e_ => HO_13.out.1 k_ e_)); have n1_ := Aside0.mk (hb); clear HO_13; clear HB; have HO_13 := n0_; have HB := n1_; clear n0_ n1_; (try clear hb); (try clear hkp); (try clear hy0); have hlx41 := (Kd.R_reads' HO_13.out).1; have q41 : ((ji35) : Int) ≤ ((x13_1.length : Int) : Int) := of_decide_eq_true (by first | (with_reducible assumption) | assumption); obtain ⟨i041, hi041, _, hsz41, _⟩ := info_parts info47; have hroom41 : x13_1.length ≤ co39 := (Kd.R_reads' HO_13.out).2.1; have hroomc41 : t235.length ≤ co39 := (by rw [← hlx41]; exact hroom41); have hC41 : Kd.C k47 _ Ao39 t235.length t235 := (Kd.R_reads' HO_13.out).2.2; have hcut41 := cut_to (P := Try.prog) 41 47 .i64 Try.underlying41 hi041 Ao39 x13_1.length co39 (ji35) (of_decide_eq_true (by first | (with_reducible assumption) | assumption)) q41 hroom41; have hr41 := Kd.C_take (m := ((ji35) : Int).toNat) hC41 (by omega); have hy41 : y236.length = ((ji35) : Int).toNat := (by rw [Ny236.out, List.length_take]; omega); rw [← Ny236.out] at hr41; rw [← hy41] at hcut41; have HR239 := Aside0.mk hr41; have HC239 := Aside0.mk (show y236.length ≤ co39 from by omega); clear hr41 hC41 hroom41 hi041 hsz41 hroomc41; have KY41 := Aside0.mk hy41; clear hy41; have KE41 := Aside0.mk hlx41; have KL41 := Aside0.mk (show ((ji35) : Int).toNat ≤ t235.length from by omega); clear hlx41; replace q41 := eq_true q41) | ((with_reducible refine gate_callee (f := 52) rfl ?_); refine goesL_ (some 78) rfl rfl Try.func52 (by kernel_rfl) rfl #[.slice Ao39 y236.length co39] rfl (by (try simp only [List.map_toArray, List.map_cons, List.map_nil]); first | done | rfl | (simp only [List.length_drop, List.length_take]; rfl)) ?_; (with_reducible refine (api_Pair_52.calls _ _ y236 t240 _ ?side1 ?side2 A38.out).mono ?_); (case side1 => repeat (first | exact (by repeat (first | (with_reducible exact HR239.out) | (with_reducible refine Kd.C_alloc ?_ _) | (with_reducible refine Kd.C_drewN ?_ _) | (with_reducible refine Kd.C_drew ?_) | exact HR239.out)) | (with_reducible refine Kd.C_alloc ?_ _) | (with_reducible refine Kd.C_drewN ?_ _) | (with_reducible refine Kd.C_drew ?_))); (case side2 => exact HC239.out); rintro e w42 ⟨v241, rfl, ho0, hb⟩; refine ⟨_, rfl, ?_⟩; have n0_ := Aside0.mk (Kd.R_elder' (by (with_reducible repeat (first | apply Kd.R_alloc | apply Kd.R_drewN | apply Kd.R_drew)); exact HO_13.out) (Kd.R_base ho0) hb); have n1_ := Aside0.mk (Kd.R_lower (Kd.R_new' ho0 (Kd.R_lt (by (with_reducible repeat (first | apply Kd.R_alloc | apply Kd.R_drewN | apply Kd.R_drew)); exact HO_13.out))) (below_size (by repeat (first | (with_reducible first | exact HB.out | apply below_alloc | apply pw_below_drewN | apply below_drew1) | exact HB.out | exact Below.refl _ _)))); have n2_ := Aside0.mk (Kd.C_below (by repeat (first | (with_reducible exact HR239.out) | (with_reducible refine Kd.C_alloc ?_ _) | (with_reducible refine Kd.C_drewN ?_ _) | (with_reducible refine Kd.C_drew ?_) | exact HR239.out)) hb); have n3_ := Aside0.mk (below_step (by repeat (first | (with_reducible first | exact HB.out | apply below_alloc | apply pw_below_drewN | apply below_drew1) | exact HB.out | exact Below.refl _ _)) hb); clear HO_13; clear HR239; clear HB; have HO_13 := n0_; have HO242 := n1_; have HR239 := n2_; have HB := n3_; clear n0_ n1_ n2_ n3_; (try clear hb); (try clear hb2); (try clear hk); (try clear hi); (try clear ho0)))
       go_ret
       exact ⟨_, by first | rfl | (simp [errW_none, errW_some] <;> rfl) | (simp only [← hji34, ← hji35]; first | rfl | (simp [errW_none, errW_some] <;> rfl)) | (simp [*, errW_none, errW_some] <;> rfl), by (with_reducible repeat (first | apply Kd.R_alloc | apply Kd.R_drewN | apply Kd.R_drew)); exact Kd.R_mono HO242.out (fun _ hk => trivial), by repeat (first | (with_reducible first | exact HB.out | apply below_alloc | apply pw_below_drewN | apply below_drew1) | exact HB.out | exact Below.refl _ _)⟩
      ·
       rw [if_neg c37] at H
       exact absurd H (by simp)
     ·
      rw [if_neg c36] at H
      exact absurd H (by simp)
    ·
     replace c32 := Bool.eq_false_iff.mpr c32
     subst c32
     have H1 : (if 0 ≤ (mx 0 (mn a5 (x13_1.length : Int))) then (if (mx 0 (mn a5 (x13_1.length : Int))) ≤ (x13_1.length : Int) then ((api_Pair_52.f (x13_1.take ((mx 0 (mn a5 (x13_1.length : Int))) : Int).toNat)).bind fun t247 => (some t247)) else (none)) else (none)) = some r := by rw [if_neg (show ¬ (false = true) by decide)] at H; exact H
     clear H
     have H := H1
     clear H1
     obtain ⟨ji43, hji43⟩ : ∃ j_ : Int, (mn a5 (x13_1.length : Int)) = j_ := ⟨_, rfl⟩
     replace H : (if 0 ≤ (mx 0 (ji43)) then (if (mx 0 (ji43)) ≤ (x13_1.length : Int) then ((api_Pair_52.f (x13_1.take ((mx 0 (ji43)) : Int).toNat)).bind fun t247 => (some t247)) else (none)) else (none)) = some r := by first | (rw [hji43] at H; exact H) | (simp only [hji43] at H ⊢; exact H)
     have hji43_ : (if (x13_1.length : Int) < a5 then (x13_1.length : Int) else a5) = ji43 := hji43
     obtain ⟨ji44, hji44⟩ : ∃ j_ : Int, (mx 0 (ji43)) = j_ := ⟨_, rfl⟩
     replace H : (if 0 ≤ (ji44) then (if (ji44) ≤ (x13_1.length : Int) then ((api_Pair_52.f (x13_1.take ((ji44) : Int).toNat)).bind fun t247 => (some t247)) else (none)) else (none)) = some r := by first | (rw [hji44] at H; exact H) | (simp only [hji44] at H ⊢; exact H)
     have hji44_ : (if 0 < (ji43) then (ji43) else 0) = ji44 := hji44
     by_cases c45 : 0 ≤ (ji44)
     ·
      rw [if_pos c45] at H
      have c45b0 := eq_true c45
      have c45b1 : decide (0 ≤ (ji44)) = true := decide_eq_true c45
      clear c45
      by_cases c46 : (ji44) ≤ (x13_1.length : Int)
      ·
       rw [if_pos c46] at H
       have c46b0 := eq_true c46
       have c46b1 : decide ((ji44) ≤ (x13_1.length : Int)) = true := decide_eq_true c46
       clear c46
       obtain ⟨y243, hy243⟩ : ∃ y_ : List (S47), y_ = (x13_1.take ((ji44) : Int).toNat) := ⟨_, rfl⟩
       replace H : ((api_Pair_52.f y243).bind fun t247 => (some t247)) = some r := by first | (rw [hy243]; with_reducible exact H) | (have H2_ := (Option.bind_some _ _).symm.trans H; rw [hy243]; with_reducible exact H2_) | (have H2_ := (Option.bind_some _ _).symm.trans H; with_reducible exact H2_) | with_reducible exact H | (rw [hy243]; exact H) | exact H
       have Ny243 := Aside0.mk hy243
       clear hy243
       replace H := Option.bind_eq_some_iff.mp H
       obtain ⟨t247, A470, H⟩ := H
       replace H : (some t247) = some r := H
       have A47 := Aside0.mk A470
       clear A470
       obtain rfl := Option.some.inj H
       obtain ⟨Ao48, co48, eo48⟩ := Kd.R_slice HO_13.out
       subst eo48
       have q49 : ((ji44) : Int) ≤ ((x13_1.length : Int) : Int) := of_decide_eq_true (by first | (with_reducible assumption) | assumption)
       obtain ⟨i049, hi049, _, hsz49, _⟩ := info_parts info47
       have hroom49 : x13_1.length ≤ co48 := (Kd.R_reads' HO_13.out).2.1
       have hC49 : Kd.C k47 _ Ao48 x13_1.length x13_1 := (Kd.R_reads' HO_13.out).2.2
       have hcut49 := cut_to (P := Try.prog) 41 47 .i64 Try.underlying41 hi049 Ao48 x13_1.length co48 (ji44) (of_decide_eq_true (by first | (with_reducible assumption) | assumption)) q49 hroom49
       have hr49 := Kd.C_take (m := ((ji44) : Int).toNat) hC49 (by omega)
       have hy49 : y243.length = ((ji44) : Int).toNat := (by rw [Ny243.out, List.length_take]; omega)
       rw [← Ny243.out] at hr49
       rw [← hy49] at hcut49
       have HR246 := Aside0.mk hr49
       have HC246 := Aside0.mk (show y243.length ≤ co48 from by omega)
       clear hr49 hC49 hroom49 hi049 hsz49
       have KY49 := Aside0.mk hy49
       clear hy49
       have KL49 := Aside0.mk (show ((ji44) : Int).toNat ≤ x13_1.length from by omega)
       replace q49 := eq_true q49
       go_wp2_with (first | (first | (with_reducible refine wp_label ?_) | (with_reducible refine wp_scope_straight ?_) | (simp only [Exit.noGoto_ret, Exit.noGoto_normal, Exit.noGoto_exit])) | ((with_reducible refine gate_callee (f := 52) rfl ?_); refine goesL_ (some 78) rfl rfl Try.func52 (by kernel_rfl) rfl #[.slice Ao48 y243.length co48] rfl (by (try simp only [List.map_toArray, List.map_cons, List.map_nil]); first | done | rfl | (simp only [List.length_drop, List.length_take]; rfl)) ?_; (with_reducible refine (api_Pair_52.calls _ _ y243 t247 _ ?side1 ?side2 A47.out).mono ?_); (case side1 => repeat (first | exact (by repeat (first | (with_reducible exact HR246.out) | (with_reducible refine Kd.C_alloc ?_ _) | (with_reducible refine Kd.C_drewN ?_ _) | (with_reducible refine Kd.C_drew ?_) | exact HR246.out)) | (with_reducible refine Kd.C_alloc ?_ _) | (with_reducible refine Kd.C_drewN ?_ _) | (with_reducible refine Kd.C_drew ?_))); (case side2 => exact HC246.out); rintro e w50 ⟨v248, rfl, ho0, hb⟩; refine ⟨_, rfl, ?_⟩; have n0_ := Aside0.mk (Kd.R_elder' (by (with_reducible repeat (first | apply Kd.R_alloc | apply Kd.R_drewN | apply Kd.R_drew)); exact HO_13.out) (Kd.R_base ho0) hb); have n1_ := Aside0.mk (Kd.R_lower (Kd.R_new' ho0 (Kd.R_lt (by (with_reducible repeat (first | apply Kd.R_alloc | apply Kd.R_drewN | apply Kd.R_drew)); exact HO_13.out))) (below_size (by repeat (first | (with_reducible first | exact HB.out | apply below_alloc | apply pw_below_drewN | apply below_drew1) | exact HB.out | exact Below.refl _ _)))); have n2_ := Aside0.mk (Kd.C_below (by repeat (first | (with_reducible exact HR246.out) | (with_reducible refine Kd.C_alloc ?_ _) | (with_reducible refine Kd.C_drewN ?_ _) | (with_reducible refine Kd.C_drew ?_) | exact HR246.out)) hb); have n3_ := Aside0.mk (below_step (by repeat (first | (with_reducible first | exact HB.out | apply below_alloc | apply pw_below_drewN | apply below_drew1) | exact HB.out | exact Below.refl _ _)) hb); clear HO_13; clear HR246; clear HB; have HO_13 := n0_; have HO249 := n1_; have HR246 := n2_; have HB := n3_; clear n0_ n1_ n2_ n3_; (try clear hb); (try clear hb2); (try clear hk); (try clear hi); (try clear ho0)))
       go_ret
       exact ⟨_, by first | rfl | (simp [errW_none, errW_some] <;> rfl) | (simp only [← hji43, ← hji44]; first | rfl | (simp [errW_none, errW_some] <;> rfl)) | (simp [*, errW_none, errW_some] <;> rfl), by (with_reducible repeat (first | apply Kd.R_alloc | apply Kd.R_drewN | apply Kd.R_drew)); exact Kd.R_mono HO249.out (fun _ hk => trivial), by repeat (first | (with_reducible first | exact HB.out | apply below_alloc | apply pw_below_drewN | apply below_drew1) | exact HB.out | exact Below.refl _ _)⟩
      ·
       rw [if_neg c46] at H
       exact absurd H (by simp)
     ·
      rw [if_neg c45] at H
      exact absurd H (by simp)

/-! ### iceboxlaw15_awake: function 21 -/
def iceboxlaw15_awake.f (k : Nat)  : Option (Bool) := (some (([(⟨(⟨(⟨#[97]⟩ : ByteArray), 1, 2⟩ : S29), (⟨#[]⟩ : ByteArray)⟩ : S31)] : List (S31)) : List (S31))).bind fun y250 => ((merge_View.f k y250 5 (⟨#[]⟩ : ByteArray) (⟨#[]⟩ : ByteArray) false 9).bind fun t253 => (if (t253.length : Int) = 0 then ((merge_Merge.f k (([y250] : List (List (S31))))).bind fun t259 => (some ((t259.length : Int) == 1))) else (some false)))
theorem iceboxlaw15_awake.mono : ∀ k, LeO (iceboxlaw15_awake.f k ) (iceboxlaw15_awake.f (k + 1) ) := by
 intro  k
 unfold iceboxlaw15_awake.f
 repeat' first
  | (with_reducible exact merge_Merge.mono _ _)
  | (with_reducible exact merge_View.mono _ _ _ _ _ _ _)
  | (with_reducible exact LeO.refl _)
  | (with_reducible exact LeO.none _)
  | (with_reducible refine LeO.ite ?_ ?_)
  | (with_reducible refine LeO.bind ?_ (fun _ => ?_))
  | exact merge_Merge.mono _ _
  | exact merge_View.mono _ _ _ _ _ _ _
  | exact LeO.none _
  | refine LeO.ite ?_ ?_
  | refine LeO.bind ?_ (fun _ => ?_)
set_option maxHeartbeats 80000000 in
set_option maxRecDepth 100000 in
theorem iceboxlaw15_awake.calls (k : Nat)  (r : Bool) (w : World) (h : iceboxlaw15_awake.f k  = some r) :
 Calls Try.prog 21 #[] w fun e w' => e = .returned (.bool r) ∧ Below w.heap.size w w' := by
 have hu29 := Try.underlying29
 have hu31 := Try.underlying31
 have HB := Aside0.mk (Below.refl w.heap.size w)
 have H : ((some (([(⟨(⟨(⟨#[97]⟩ : ByteArray), 1, 2⟩ : S29), (⟨#[]⟩ : ByteArray)⟩ : S31)] : List (S31)) : List (S31))).bind fun y250 => ((merge_View.f k y250 5 (⟨#[]⟩ : ByteArray) (⟨#[]⟩ : ByteArray) false 9).bind fun t253 => (if (t253.length : Int) = 0 then ((merge_Merge.f k (([y250] : List (List (S31))))).bind fun t259 => (some ((t259.length : Int) == 1))) else (some false)))) = some r := h
 clear h
 obtain ⟨y250, hy250⟩ : ∃ y_ : List (S31), y_ = (([(⟨(⟨(⟨#[97]⟩ : ByteArray), 1, 2⟩ : S29), (⟨#[]⟩ : ByteArray)⟩ : S31)] : List (S31))) := ⟨_, rfl⟩
 replace H : ((merge_View.f k y250 5 (⟨#[]⟩ : ByteArray) (⟨#[]⟩ : ByteArray) false 9).bind fun t253 => (if (t253.length : Int) = 0 then ((merge_Merge.f k (([y250] : List (List (S31))))).bind fun t259 => (some ((t259.length : Int) == 1))) else (some false))) = some r := by first | (rw [hy250]; with_reducible exact H) | (have H2_ := (Option.bind_some _ _).symm.trans H; rw [hy250]; with_reducible exact H2_) | (have H2_ := (Option.bind_some _ _).symm.trans H; with_reducible exact H2_) | with_reducible exact H | (rw [hy250]; exact H) | exact H
 have Ny250 := Aside0.mk hy250
 clear hy250
 replace H := Option.bind_eq_some_iff.mp H
 obtain ⟨t253, A10, H⟩ := H
 replace H : (if (t253.length : Int) = 0 then ((merge_Merge.f k (([y250] : List (List (S31))))).bind fun t259 => (some ((t259.length : Int) == 1))) else (some false)) = some r := H
 have A1 := Aside0.mk A10
 clear A10
 by_cases c2 : (t253.length : Int) = 0
 ·
  rw [if_pos c2] at H
  have c2b0 : ((t253.length : Int) == 0) = true := beq_iff_eq.mpr c2
  have c2b1 : ((t253.length : Int) != 0) = false := bne_eq_false_iff_eq.mpr c2
  clear c2
  obtain ⟨y256, hy256⟩ : ∃ y_ : List (List (S31)), y_ = (([y250] : List (List (S31)))) := ⟨_, rfl⟩
  replace H : ((merge_Merge.f k y256).bind fun t259 => (some ((t259.length : Int) == 1))) = some r := by first | (rw [hy256]; with_reducible exact H) | (have H2_ := (Option.bind_some _ _).symm.trans H; rw [hy256]; with_reducible exact H2_) | (have H2_ := (Option.bind_some _ _).symm.trans H; with_reducible exact H2_) | with_reducible exact H | (rw [hy256]; exact H) | exact H
  have Ny256 := Aside0.mk hy256
  clear hy256
  replace H := Option.bind_eq_some_iff.mp H
  obtain ⟨t259, A30, H⟩ := H
  replace H : (some ((t259.length : Int) == 1)) = some r := H
  have A3 := Aside0.mk A30
  clear A30
  obtain rfl := Option.some.inj H
  go_enter Try.func21, Try.ntmps21
  go_wp2_with (first | ((with_reducible refine gate_dst (N := 4) rfl ?_); (try (refine gate_guard (by rfl) ?_; dsimp only)); refine Kd.R_lit k31 _ 31 ?hg (N := 4) ?hd (xs := ([(⟨(⟨(⟨#[97]⟩ : ByteArray), 1, 2⟩ : S29), (⟨#[]⟩ : ByteArray)⟩ : S31)] : List (S31))) (inner := [.string (⟨#[97]⟩ : ByteArray), .int .i64 1, .int .i64 2, .string (⟨#[]⟩ : ByteArray)]) (ok := fun _ => True) (okp := fun _ => True) ?hr ?hp (fun _ hk => hk) trivial (Below.refl _ _) (Nat.le_refl _) (by simp) ?_; (case hd => rfl); (case hg => rfl); (case hr => first | (go_simp; done) | (go_simp; rfl)); (case hp => exact (Reps.c4 (show Kd.M k31 _ _ _ (⟨(⟨(⟨#[97]⟩ : ByteArray), 1, 2⟩ : S29), (⟨#[]⟩ : ByteArray)⟩ : S31) [.string (⟨#[97]⟩ : ByteArray), .int .i64 1, .int .i64 2, .string (⟨#[]⟩ : ByteArray)] from (k31_mkM _ _ _ (⟨(⟨(⟨#[97]⟩ : ByteArray), 1, 2⟩ : S29), (⟨#[]⟩ : ByteArray)⟩ : S31) )) (Reps.none _ _))); intro v251 w4 ho5 hb hg_ hnew_; clear hg_ hnew_; (first | rw [← Ny250.out] at ho5 | (simp only [Int.reduceToNat] at ho5; rw [← Ny250.out] at ho5)); have n0_ := Aside0.mk (Kd.R_lower ho5 (below_size (by repeat (first | (with_reducible first | exact HB.out | apply below_alloc | apply pw_below_drewN | apply below_drew1) | exact HB.out | exact Below.refl _ _)))); have n1_ := Aside0.mk (below_step (by repeat (first | (with_reducible first | exact HB.out | apply below_alloc | apply pw_below_drewN | apply below_drew1) | exact HB.out | exact Below.refl _ _)) hb); clear HB; have HO252 := n0_; have HB := n1_; clear n0_ n1_; clear hb ho5; obtain ⟨Ao6, co6, eo6⟩ := Kd.R_slice HO252.out; subst eo6) | ((with_reducible refine gate_callee (f := 27) rfl ?_); refine goesL_ (some 6) rfl rfl Try.func27 (by kernel_rfl) rfl #[.slice Ao6 y250.length co6, .int .i64 5, .string (⟨#[]⟩ : ByteArray), .string (⟨#[]⟩ : ByteArray), .bool false, .int .i64 9] rfl (by (try simp only [List.map_toArray, List.map_cons, List.map_nil]); first | done | rfl | (simp only [List.length_drop, List.length_take]; rfl)) ?_; (with_reducible refine (merge_View.calls k _ _ y250 5 (⟨#[]⟩ : ByteArray) (⟨#[]⟩ : ByteArray) false 9 t253 _ ?side1 ?side2 A1.out).mono ?_); (case side1 => repeat (first | exact (Kd.R_reads' HO252.out).2.2 | (with_reducible refine Kd.C_alloc ?_ _) | (with_reducible refine Kd.C_drewN ?_ _) | (with_reducible refine Kd.C_drew ?_))); (case side2 => exact (Kd.R_reads' HO252.out).2.1); rintro e w7 ⟨v254, rfl, ho0, hb⟩; refine ⟨_, rfl, ?_⟩; have n0_ := Aside0.mk (Kd.R_below (by (with_reducible repeat (first | apply Kd.R_alloc | apply Kd.R_drewN | apply Kd.R_drew)); exact HO252.out) hb); have n1_ := Aside0.mk (Kd.R_lower ho0 (below_size (by repeat (first | (with_reducible first | exact HB.out | apply below_alloc | apply pw_below_drewN | apply below_drew1) | exact HB.out | exact Below.refl _ _)))); have n2_ := Aside0.mk (below_step (by repeat (first | (with_reducible first | exact HB.out | apply below_alloc | apply pw_below_drewN | apply below_drew1) | exact HB.out | exact Below.refl _ _)) hb); clear HO252; clear HB; have HO252 := n0_; have HO255 := n1_; have HB := n2_; clear n0_ n1_ n2_; (try clear hb); (try clear hb2); (try clear hk); (try clear hi); (try clear ho0); obtain ⟨Ao8, co8, eo8⟩ := Kd.R_slice HO255.out; subst eo8) | ((with_reducible refine gate_dst (N := 11) rfl ?_); (try (refine gate_guard (by rfl) ?_; dsimp only)); refine Kd.N_lit (Kd.slice 31 k31) _ 24 ?hg (N' := 11) ?hd (xs := ([y250] : List (List (S31)))) (inner := [.slice Ao6 y250.length co6]) (ok := (fun k_ => some k_ ≠ (.slice Ao8 t253.length co8 : Value).ownBlock)) (okp := (fun k_ => some k_ ≠ (.slice Ao8 t253.length co8 : Value).ownBlock)) ?hr ?hp (fun _ hk => hk) ((show ∀ k_, w7.heap.size ≤ k_ → (fun k_ => some k_ ≠ (.slice Ao8 t253.length co8 : Value).ownBlock) k_ from fun k_ hk => Kd.fresh' (Kd.R_lt (by (with_reducible repeat (first | apply Kd.R_alloc | apply Kd.R_drewN | apply Kd.R_drew)); exact HO255.out)) k_ hk) _ (Nat.le_refl _)) (Below.refl _ _) (Nat.le_refl _) (by simp) ?_; (case hd => rfl); (case hg => rfl); (case hr => first | (go_simp; done) | (go_simp; rfl)); (case hp => exact (Reps.one (show Kd.FK (Kd.slice 31 k31) _ _ y250 [.slice Ao6 y250.length co6] from (Kd.FK_slice_mk (Kd.R_reads' (Kd.R_mono (ok' := (fun k_ => some k_ ≠ (.slice Ao8 t253.length co8 : Value).ownBlock)) (Kd.R_apart' (HO252.out) (Kd.R_typed HO255.out) (by decide)) (fun k_ hk => hk.2))).2.1 (Kd.R_F (Kd.R_mono (ok' := (fun k_ => some k_ ≠ (.slice Ao8 t253.length co8 : Value).ownBlock)) (Kd.R_apart' (HO252.out) (Kd.R_typed HO255.out) (by decide)) (fun k_ hk => hk.2))))) (Reps.none _ _))); intro v257 w9 ho10 hb hg_ hnew_; clear hg_ hnew_; (first | rw [← Ny256.out] at ho10 | (simp only [Int.reduceToNat] at ho10; rw [← Ny256.out] at ho10)); have n0_ := Aside0.mk (Kd.R_below (by (with_reducible repeat (first | apply Kd.R_alloc | apply Kd.R_drewN | apply Kd.R_drew)); exact HO255.out) hb); have n1_ := Aside0.mk (Kd.N_lower ho10 (below_size (by repeat (first | (with_reducible first | exact HB.out | apply below_alloc | apply pw_below_drewN | apply below_drew1) | exact HB.out | exact Below.refl _ _)))); have n2_ := Aside0.mk (below_step (by repeat (first | (with_reducible first | exact HB.out | apply below_alloc | apply pw_below_drewN | apply below_drew1) | exact HB.out | exact Below.refl _ _)) hb); clear HO255; clear HB; clear HO252; have HO255 := n0_; have HO258 := n1_; have HB := n2_; clear n0_ n1_ n2_; clear hb ho10; obtain ⟨Ao11, co11, eo11⟩ := Kd.N_slice HO258.out; subst eo11) | (go_at_call 23; (with_reducible refine (merge_Merge.calls k _ _ y256 t259 _ ?side1 ?side2 A3.out).mono ?_); (case side1 => repeat (first | exact (Kd.N_reads' HO258.out).2.2 | (with_reducible refine Kd.C_alloc ?_ _) | (with_reducible refine Kd.C_drewN ?_ _) | (with_reducible refine Kd.C_drew ?_))); (case side2 => exact (Kd.N_reads' HO258.out).2.1); rintro e w12 ⟨v260, rfl, ho0, hb⟩; have n0_ := Aside0.mk (Kd.R_below (by (with_reducible repeat (first | apply Kd.R_alloc | apply Kd.R_drewN | apply Kd.R_drew)); exact HO255.out) hb); have n1_ := Aside0.mk (Kd.N_elder' (by (with_reducible repeat (first | apply Kd.N_alloc | apply Kd.N_drewN | apply Kd.N_drew)); exact HO258.out) (Kd.R_base ho0) hb); have n2_ := Aside0.mk (Kd.R_lower ho0 (below_size (by repeat (first | (with_reducible first | exact HB.out | apply below_alloc | apply pw_below_drewN | apply below_drew1) | exact HB.out | exact Below.refl _ _)))); have n3_ := Aside0.mk (below_step (by repeat (first | (with_reducible first | exact HB.out | apply below_alloc | apply pw_below_drewN | apply below_drew1) | exact HB.out | exact Below.refl _ _)) hb); clear HO255; clear HO258; clear HB; have HO255 := n0_; have HO258 := n1_; have HO261 := n2_; have HB := n3_; clear n0_ n1_ n2_ n3_; (try clear hb); (try clear hb2); (try clear hk); (try clear hi); (try clear ho0); obtain ⟨Ao13, co13, eo13⟩ := Kd.R_slice HO261.out; subst eo13))
  go_ret
  exact ⟨by first | rfl | (simp [errW_none, errW_some] <;> rfl) | (simp [*, errW_none, errW_some] <;> rfl), by repeat (first | (with_reducible first | exact HB.out | apply below_alloc | apply pw_below_drewN | apply below_drew1) | exact HB.out | exact Below.refl _ _)⟩
 ·
  rw [if_neg c2] at H
  have c2b0 : ((t253.length : Int) == 0) = false := beq_eq_false_iff_ne.mpr c2
  have c2b1 : ((t253.length : Int) != 0) = true := bne_iff_ne.mpr c2
  have c2b2 : ¬ (t253 = []) := fun h_ => c2 (by rw [h_]; rfl)
  obtain rfl := Option.some.inj H
  go_enter Try.func21, Try.ntmps21
  go_wp2_with (first | ((with_reducible refine gate_dst (N := 4) rfl ?_); (try (refine gate_guard (by rfl) ?_; dsimp only)); refine Kd.R_lit k31 _ 31 ?hg (N := 4) ?hd (xs := ([(⟨(⟨(⟨#[97]⟩ : ByteArray), 1, 2⟩ : S29), (⟨#[]⟩ : ByteArray)⟩ : S31)] : List (S31))) (inner := [.string (⟨#[97]⟩ : ByteArray), .int .i64 1, .int .i64 2, .string (⟨#[]⟩ : ByteArray)]) (ok := fun _ => True) (okp := fun _ => True) ?hr ?hp (fun _ hk => hk) trivial (Below.refl _ _) (Nat.le_refl _) (by simp) ?_; (case hd => rfl); (case hg => rfl); (case hr => first | (go_simp; done) | (go_simp; rfl)); (case hp => exact (Reps.c4 (show Kd.M k31 _ _ _ (⟨(⟨(⟨#[97]⟩ : ByteArray), 1, 2⟩ : S29), (⟨#[]⟩ : ByteArray)⟩ : S31) [.string (⟨#[97]⟩ : ByteArray), .int .i64 1, .int .i64 2, .string (⟨#[]⟩ : ByteArray)] from (k31_mkM _ _ _ (⟨(⟨(⟨#[97]⟩ : ByteArray), 1, 2⟩ : S29), (⟨#[]⟩ : ByteArray)⟩ : S31) )) (Reps.none _ _))); intro v251 w14 ho15 hb hg_ hnew_; clear hg_ hnew_; (first | rw [← Ny250.out] at ho15 | (simp only [Int.reduceToNat] at ho15; rw [← Ny250.out] at ho15)); have n0_ := Aside0.mk (Kd.R_lower ho15 (below_size (by repeat (first | (with_reducible first | exact HB.out | apply below_alloc | apply pw_below_drewN | apply below_drew1) | exact HB.out | exact Below.refl _ _)))); have n1_ := Aside0.mk (below_step (by repeat (first | (with_reducible first | exact HB.out | apply below_alloc | apply pw_below_drewN | apply below_drew1) | exact HB.out | exact Below.refl _ _)) hb); clear HB; have HO252 := n0_; have HB := n1_; clear n0_ n1_; clear hb ho15; obtain ⟨Ao16, co16, eo16⟩ := Kd.R_slice HO252.out; subst eo16) | ((with_reducible refine gate_callee (f := 27) rfl ?_); refine goesL_ (some 6) rfl rfl Try.func27 (by kernel_rfl) rfl #[.slice Ao16 y250.length co16, .int .i64 5, .string (⟨#[]⟩ : ByteArray), .string (⟨#[]⟩ : ByteArray), .bool false, .int .i64 9] rfl (by (try simp only [List.map_toArray, List.map_cons, List.map_nil]); first | done | rfl | (simp only [List.length_drop, List.length_take]; rfl)) ?_; (with_reducible refine (merge_View.calls k _ _ y250 5 (⟨#[]⟩ : ByteArray) (⟨#[]⟩ : ByteArray) false 9 t253 _ ?side1 ?side2 A1.out).mono ?_); (case side1 => repeat (first | exact (Kd.R_reads' HO252.out).2.2 | (with_reducible refine Kd.C_alloc ?_ _) | (with_reducible refine Kd.C_drewN ?_ _) | (with_reducible refine Kd.C_drew ?_))); (case side2 => exact (Kd.R_reads' HO252.out).2.1); rintro e w17 ⟨v254, rfl, ho0, hb⟩; refine ⟨_, rfl, ?_⟩; have n0_ := Aside0.mk (Kd.R_below (by (with_reducible repeat (first | apply Kd.R_alloc | apply Kd.R_drewN | apply Kd.R_drew)); exact HO252.out) hb); have n1_ := Aside0.mk (Kd.R_lower ho0 (below_size (by repeat (first | (with_reducible first | exact HB.out | apply below_alloc | apply pw_below_drewN | apply below_drew1) | exact HB.out | exact Below.refl _ _)))); have n2_ := Aside0.mk (below_step (by repeat (first | (with_reducible first | exact HB.out | apply below_alloc | apply pw_below_drewN | apply below_drew1) | exact HB.out | exact Below.refl _ _)) hb); clear HO252; clear HB; have HO252 := n0_; have HO255 := n1_; have HB := n2_; clear n0_ n1_ n2_; (try clear hb); (try clear hb2); (try clear hk); (try clear hi); (try clear ho0); obtain ⟨Ao18, co18, eo18⟩ := Kd.R_slice HO255.out; subst eo18))
  go_ret
  exact ⟨by first | rfl | (simp [errW_none, errW_some] <;> rfl) | (simp [*, errW_none, errW_some] <;> rfl), by repeat (first | (with_reducible first | exact HB.out | apply below_alloc | apply pw_below_drewN | apply below_drew1) | exact HB.out | exact Below.refl _ _)⟩

end Go.Proofs.Ytoomipmndapgnaa.PMergeParts
