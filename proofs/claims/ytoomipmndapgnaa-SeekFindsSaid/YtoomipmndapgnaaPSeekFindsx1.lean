/- The functions that a law reaches, as Lean functions, each with the contract that its Go code comes to just these answers. Written by a program of this claim's author (wip/mkprint.py). No conditions. -/
import Derived.Test.YtoomipmndapgnaaPSeekFindsx0
namespace Go.Proofs.Ytoomipmndapgnaa.PSeekFinds
open Go.RowKit Go.Proofs.YtoomipmndapgnaaW.PrintWords Go.Proofs.YtoomipmndapgnaaW.PrintLast Go.Proofs.YtoomipmndapgnaaW.PrintMore
attribute [local go_sem] max2_int min2_int max_two min_two max_three min_three max_four min_four   -- for this text's walks alone
set_option linter.unusedVariables false
set_option linter.unusedSimpArgs false

/-! ### iceboxref1_Digits: function 29 -/
def iceboxref1_Digits.l0 : Nat → Int → ByteArray → Option (ByteArray)
 | 0, _, _ => none
 | k + 1, x0, x3 => if x0 ≥ 10 then ((some (([(wrap64 (48 + (Int.tmod x0 10))) % 256] : List Int) : List Int)).bind fun y101 => (if (strOfNums y101).size + x3.size ≤ 9223372036854775807 then (iceboxref1_Digits.l0 k (wrap64 (Int.tdiv x0 10)) ((strOfNums y101) ++ x3)) else (none))) else ((some (([(wrap64 (48 + x0)) % 256] : List Int) : List Int)).bind fun y104 => (if (strOfNums y104).size + x3.size ≤ 9223372036854775807 then (some ((strOfNums y104) ++ x3)) else (none)))
def iceboxref1_Digits.f (k : Nat) (a0 : Int) : Option (ByteArray) := iceboxref1_Digits.l0 k a0 (⟨#[]⟩ : ByteArray)
theorem iceboxref1_Digits.mono_l : ∀ k, (∀ y0 y1, LeO (iceboxref1_Digits.l0 k y0 y1) (iceboxref1_Digits.l0 (k + 1) y0 y1))
 | 0 => fun _ _ r h => by simp [iceboxref1_Digits.l0] at h
 | k + 1 => by
  have ih0 := iceboxref1_Digits.mono_l k
  ·
   intro y0 y1
   unfold iceboxref1_Digits.l0
   repeat' first
   | (with_reducible exact ih0 _ _)
   | (with_reducible exact LeO.refl _)
   | (with_reducible exact LeO.none _)
   | (with_reducible refine LeO.ite ?_ ?_)
   | (with_reducible refine LeO.bind ?_ (fun _ => ?_))
   | exact ih0 _ _
   | exact LeO.none _
   | refine LeO.ite ?_ ?_
   | refine LeO.bind ?_ (fun _ => ?_)
theorem iceboxref1_Digits.mono : ∀ a0 k, LeO (iceboxref1_Digits.f k a0) (iceboxref1_Digits.f (k + 1) a0) := by
 intro a0 k
 have ih0 := iceboxref1_Digits.mono_l k
 unfold iceboxref1_Digits.f
 repeat' first
  | (with_reducible exact ih0 _ _)
  | (with_reducible exact LeO.refl _)
  | (with_reducible exact LeO.none _)
  | (with_reducible refine LeO.ite ?_ ?_)
  | (with_reducible refine LeO.bind ?_ (fun _ => ?_))
  | exact ih0 _ _
  | exact LeO.none _
  | refine LeO.ite ?_ ?_
  | refine LeO.bind ?_ (fun _ => ?_)
set_option maxHeartbeats 80000000 in
set_option maxRecDepth 100000 in
theorem iceboxref1_Digits.calls (k : Nat) (a0 : Int) (r : ByteArray) (w : World) (h : iceboxref1_Digits.f k a0 = some r) :
 Calls Try.prog 29 #[.int .i64 a0] w fun e w' => e = .returned (.string r) ∧ Below w.heap.size w w' := by
 have HB := Aside0.mk (Below.refl w.heap.size w)
 have H : (iceboxref1_Digits.l0 k a0 (⟨#[]⟩ : ByteArray)) = some r := h
 clear h
 have H' := Aside0.mk H
 clear H
 go_enter Try.func29, Try.ntmps29
 go_wp2
 go_loopg [0, 3] k (fun kq v0 v3 w' => ∃ (x0_1 : Int) (x3_1 : ByteArray), v0 = .int .i64 x0_1 ∧ v3 = .string x3_1 ∧ Aside0 (iceboxref1_Digits.l0 kq x0_1 x3_1 = some r) ∧ Aside0 (kq ≤ k) ∧ Aside0 (Below w.heap.size w w'))
 case atStart => exact ⟨(a0), ((⟨#[]⟩ : ByteArray)), (by first | rfl | (simp; done) | (simp [*]; done)), (by first | rfl | (simp; done) | (simp [*]; done)), H', ⟨Nat.le_refl _⟩, ⟨by repeat (first | (with_reducible first | exact HB.out | apply below_alloc | apply pw_below_drewN | apply below_drew1) | exact HB.out | exact Below.refl _ _)⟩⟩
 case round =>
  clear H'
  obtain ⟨x0_1, x3_1, rfl, rfl, HA, HK1, HB⟩ := hrel
  cases gk with
  | zero => exact absurd HA.out (by simp [iceboxref1_Digits.l0])
  | succ k1 =>
   have H := HA.out
   clear HA
   simp only [iceboxref1_Digits.l0] at H
   by_cases c2 : x0_1 ≥ 10
   ·
    rw [if_pos c2] at H
    have c2b0 : decide (10 ≤ x0_1) = true := decide_eq_true c2
    clear c2
    obtain ⟨y101, hy101⟩ : ∃ y_ : List Int, y_ = (([(wrap64 (48 + (Int.tmod x0_1 10))) % 256] : List Int)) := ⟨_, rfl⟩
    replace H : (if (strOfNums y101).size + x3_1.size ≤ 9223372036854775807 then (iceboxref1_Digits.l0 k1 (wrap64 (Int.tdiv x0_1 10)) ((strOfNums y101) ++ x3_1)) else (none)) = some r := by first | (rw [hy101]; with_reducible exact H) | (have H2_ := (Option.bind_some _ _).symm.trans H; rw [hy101]; with_reducible exact H2_) | (have H2_ := (Option.bind_some _ _).symm.trans H; with_reducible exact H2_) | with_reducible exact H | (rw [hy101]; exact H) | exact H
    have Ny101 := Aside0.mk hy101
    clear hy101
    by_cases c3 : (strOfNums y101).size + x3_1.size ≤ 9223372036854775807
    ·
     rw [if_pos c3] at H
     have c3b0 := eq_true c3
     have c3b1 : decide ((strOfNums y101).size + x3_1.size ≤ 9223372036854775807) = true := decide_eq_true c3
     try have c3b2 : (9223372036854775807 < (strOfNums y101).size + x3_1.size) = False := eq_false (Nat.not_lt.2 c3)
     have H' := Aside0.mk H
     clear H
     go_wp2_with (first | ((with_reducible refine gate_dst (N := 10) rfl ?_); refine Kd.R_lit (Kd.int .u8) _ 5 ?hg (N := 10) ?hd (xs := ([(wrap64 (48 + (Int.tmod x0_1 10))) % 256] : List Int)) (inner := [.int .u8 ((wrap64 (48 + (Int.tmod x0_1 10))) % 256)]) (ok := fun _ => True) (okp := fun _ => True) ?hr ?hp (fun _ hk => hk) trivial (Below.refl _ _) (Nat.le_refl _) (by simp) ?_; (case hd => rfl); (case hg => rfl); (case hr => first | (go_simp; done) | (go_simp; rfl)); (case hp => exact (Reps.one (show Kd.M (Kd.int .u8) _ _ _ ((wrap64 (48 + (Int.tmod x0_1 10))) % 256) [.int .u8 ((wrap64 (48 + (Int.tmod x0_1 10))) % 256)] from rfl) (Reps.none _ _))); intro v102 w4 ho5 hb hg_ hnew_; clear hg_ hnew_; (first | rw [← Ny101.out] at ho5 | (simp only [Int.reduceToNat] at ho5; rw [← Ny101.out] at ho5)); have n0_ := Aside0.mk (Kd.R_lower ho5 (below_size (by repeat (first | (with_reducible first | exact HB.out | apply below_alloc | apply pw_below_drewN | apply below_drew1) | exact HB.out | exact Below.refl _ _)))); have n1_ := Aside0.mk (below_step (by repeat (first | (with_reducible first | exact HB.out | apply below_alloc | apply pw_below_drewN | apply below_drew1) | exact HB.out | exact Below.refl _ _)) hb); clear HB; have HO103 := n0_; have HB := n1_; clear n0_ n1_; clear hb ho5; have hcv6 := own_string (P := Try.prog) Try.underlying22 Try.underlying5 Try.underlying9 (Kd.own_of_R HO103.out)))
     go_roundg k1
     case measure => have := HK1.out; omega
     case rel => exact ⟨(wrap64 (Int.tdiv x0_1 10)), ((strOfNums y101) ++ x3_1), (by first | rfl | (simp; done) | (simp [*]; done)), (by first | rfl | (simp; done) | (simp [*]; done)), H', ⟨by have := HK1.out; omega⟩, ⟨by repeat (first | (with_reducible first | exact HB.out | apply below_alloc | apply pw_below_drewN | apply below_drew1) | exact HB.out | exact Below.refl _ _)⟩⟩
    ·
     rw [if_neg c3] at H
     exact absurd H (by simp)
   ·
    rw [if_neg c2] at H
    have c2b0 : decide (10 ≤ x0_1) = false := decide_eq_false c2
    clear c2
    obtain ⟨y104, hy104⟩ : ∃ y_ : List Int, y_ = (([(wrap64 (48 + x0_1)) % 256] : List Int)) := ⟨_, rfl⟩
    replace H : (if (strOfNums y104).size + x3_1.size ≤ 9223372036854775807 then (some ((strOfNums y104) ++ x3_1)) else (none)) = some r := by first | (rw [hy104]; with_reducible exact H) | (have H2_ := (Option.bind_some _ _).symm.trans H; rw [hy104]; with_reducible exact H2_) | (have H2_ := (Option.bind_some _ _).symm.trans H; with_reducible exact H2_) | with_reducible exact H | (rw [hy104]; exact H) | exact H
    have Ny104 := Aside0.mk hy104
    clear hy104
    by_cases c7 : (strOfNums y104).size + x3_1.size ≤ 9223372036854775807
    ·
     rw [if_pos c7] at H
     have c7b0 := eq_true c7
     have c7b1 : decide ((strOfNums y104).size + x3_1.size ≤ 9223372036854775807) = true := decide_eq_true c7
     try have c7b2 : (9223372036854775807 < (strOfNums y104).size + x3_1.size) = False := eq_false (Nat.not_lt.2 c7)
     obtain rfl := Option.some.inj H
     go_wp2_with (first | ((with_reducible refine gate_dst (N := 19) rfl ?_); refine Kd.R_lit (Kd.int .u8) _ 5 ?hg (N := 19) ?hd (xs := ([(wrap64 (48 + x0_1)) % 256] : List Int)) (inner := [.int .u8 ((wrap64 (48 + x0_1)) % 256)]) (ok := fun _ => True) (okp := fun _ => True) ?hr ?hp (fun _ hk => hk) trivial (Below.refl _ _) (Nat.le_refl _) (by simp) ?_; (case hd => rfl); (case hg => rfl); (case hr => first | (go_simp; done) | (go_simp; rfl)); (case hp => exact (Reps.one (show Kd.M (Kd.int .u8) _ _ _ ((wrap64 (48 + x0_1)) % 256) [.int .u8 ((wrap64 (48 + x0_1)) % 256)] from rfl) (Reps.none _ _))); intro v105 w8 ho9 hb hg_ hnew_; clear hg_ hnew_; (first | rw [← Ny104.out] at ho9 | (simp only [Int.reduceToNat] at ho9; rw [← Ny104.out] at ho9)); have n0_ := Aside0.mk (Kd.R_lower ho9 (below_size (by repeat (first | (with_reducible first | exact HB.out | apply below_alloc | apply pw_below_drewN | apply below_drew1) | exact HB.out | exact Below.refl _ _)))); have n1_ := Aside0.mk (below_step (by repeat (first | (with_reducible first | exact HB.out | apply below_alloc | apply pw_below_drewN | apply below_drew1) | exact HB.out | exact Below.refl _ _)) hb); clear HB; have HO106 := n0_; have HB := n1_; clear n0_ n1_; clear hb ho9; have hcv10 := own_string (P := Try.prog) Try.underlying22 Try.underlying5 Try.underlying9 (Kd.own_of_R HO106.out)))
     go_ret
     exact ⟨by first | rfl | (simp [errW_none, errW_some] <;> rfl) | (simp [*, errW_none, errW_some] <;> rfl), by repeat (first | (with_reducible first | exact HB.out | apply below_alloc | apply pw_below_drewN | apply below_drew1) | exact HB.out | exact Below.refl _ _)⟩
    ·
     rw [if_neg c7] at H
     exact absurd H (by simp)

/-! ### iceboxref1_Cmp: function 31 -/
def iceboxref1_Cmp.f (a0_0 : ByteArray) (a0_1 : Int) (a0_2 : Int) (a1_0 : ByteArray) (a1_1 : Int) (a1_2 : Int) : Option (Int) := if a0_0.toList = a1_0.toList then (if a0_1 = a1_1 then (if a0_2 = a1_2 then (some 0) else (if a0_2 > a1_2 then (some (-1)) else (some 1))) else (if a0_1 > a1_1 then (some (-1)) else (some 1))) else (if (Op.bytesLess a0_0.toList a1_0.toList) = true then (some (-1)) else (some 1))
set_option maxHeartbeats 80000000 in
set_option maxRecDepth 100000 in
theorem iceboxref1_Cmp.calls (a0_0 : ByteArray) (a0_1 : Int) (a0_2 : Int) (a1_0 : ByteArray) (a1_1 : Int) (a1_2 : Int) (r : Int) (w : World) (h : iceboxref1_Cmp.f a0_0 a0_1 a0_2 a1_0 a1_1 a1_2 = some r) :
 Calls Try.prog 31 #[.agg #[.string a0_0, .int .i64 a0_1, .int .i64 a0_2], .agg #[.string a1_0, .int .i64 a1_1, .int .i64 a1_2]] w fun e w' => e = .returned (.int .i64 r) ∧ Below w.heap.size w w' := by
 have hu29 := Try.underlying29
 have HB := Aside0.mk (Below.refl w.heap.size w)
 have H : (if a0_0.toList = a1_0.toList then (if a0_1 = a1_1 then (if a0_2 = a1_2 then (some 0) else (if a0_2 > a1_2 then (some (-1)) else (some 1))) else (if a0_1 > a1_1 then (some (-1)) else (some 1))) else (if (Op.bytesLess a0_0.toList a1_0.toList) = true then (some (-1)) else (some 1))) = some r := h
 clear h
 by_cases c3 : a0_0.toList = a1_0.toList
 ·
  rw [if_pos c3] at H
  have c3b0 : (a0_0.toList == a1_0.toList) = true := beq_iff_eq.mpr c3
  have c3b1 : (a0_0.toList != a1_0.toList) = false := bne_eq_false_iff_eq.mpr c3
  clear c3
  by_cases c4 : a0_1 = a1_1
  ·
   rw [if_pos c4] at H
   have c4b0 : (a0_1 == a1_1) = true := beq_iff_eq.mpr c4
   have c4b1 : (a0_1 != a1_1) = false := bne_eq_false_iff_eq.mpr c4
   clear c4
   by_cases c5 : a0_2 = a1_2
   ·
    rw [if_pos c5] at H
    have c5b0 : (a0_2 == a1_2) = true := beq_iff_eq.mpr c5
    have c5b1 : (a0_2 != a1_2) = false := bne_eq_false_iff_eq.mpr c5
    clear c5
    obtain rfl := Option.some.inj H
    go_enter Try.func31, Try.ntmps31
    go_wp2_with (first | ((with_reducible refine gate_dst (N := 2) rfl ?_); refine box_event ?hg (N := 2) ?hd (cs := #[.string a0_0, .int .i64 a0_1, .int .i64 a0_2]) (t := 29) ?hr ?_; (case hd => rfl); (case hg => rfl); (case hr => first | (go_simp; done) | (go_simp; rfl)); intro gb107 hg w6 hbox hb; have n0_ := Aside0.mk (below_step (by repeat (first | (with_reducible first | exact HB.out | apply below_alloc | apply pw_below_drewN | apply below_drew1) | exact HB.out | exact Below.refl _ _)) hb); have n1_ := Aside0.mk (hbox); have n2_ := Aside0.mk ((by rw [hg]; exact (below_size (by repeat (first | (with_reducible first | exact HB.out | apply below_alloc | apply pw_below_drewN | apply below_drew1) | exact HB.out | exact Below.refl _ _))) : w.heap.size ≤ gb107)); have n3_ := Aside0.mk ((by rw [hg]; exact (below_size (by repeat (first | (with_reducible first | exact HB.out | apply below_alloc | apply pw_below_drewN | apply below_drew1) | exact HB.out | exact Below.refl _ _))) : w.heap.size ≤ gb107)); clear HB; have HB := n0_; have BK107 := n1_; have GW107 := n2_; have GE107 := n3_; clear n0_ n1_ n2_ n3_; clear hb hbox hg) | ((with_reducible refine gate_dst (N := 3) rfl ?_); refine box_event ?hg (N := 3) ?hd (cs := #[.string a1_0, .int .i64 a1_1, .int .i64 a1_2]) (t := 29) ?hr ?_; (case hd => rfl); (case hg => rfl); (case hr => first | (go_simp; done) | (go_simp; rfl)); intro gb108 hg w7 hbox hb; have n0_ := Aside0.mk (blk_below (g := gb107) (o := .cells #[.string a0_0, .int .i64 a0_1, .int .i64 a0_2] 29 (0, 0)) (by (with_reducible repeat (first | refine blk_drewN ?_ _ | refine blk_drew ?_ | refine blk_alloc ?_ _)); exact BK107.out) hb); have n1_ := Aside0.mk (below_step (by repeat (first | (with_reducible first | exact HB.out | apply below_alloc | apply pw_below_drewN | apply below_drew1 | refine below_set ?_ GE107.out) | exact HB.out | exact Below.refl _ _)) hb); have n2_ := Aside0.mk (hbox); have n3_ := Aside0.mk ((by rw [hg]; exact (below_size (by repeat (first | (with_reducible first | exact HB.out | apply below_alloc | apply pw_below_drewN | apply below_drew1 | refine below_set ?_ GE107.out) | exact HB.out | exact Below.refl _ _))) : w.heap.size ≤ gb108)); have n4_ := Aside0.mk ((by rw [hg]; exact (below_size (by repeat (first | (with_reducible first | exact HB.out | apply below_alloc | apply pw_below_drewN | apply below_drew1 | refine below_set ?_ GE107.out) | exact HB.out | exact Below.refl _ _))) : w.heap.size ≤ gb108)); have n5_ := Aside0.mk ((by rw [hg]; exact Nat.ne_of_lt (blk_lt (g := gb107) (o := .cells #[.string a0_0, .int .i64 a0_1, .int .i64 a0_2] 29 (0, 0)) (by (with_reducible repeat (first | refine blk_drewN ?_ _ | refine blk_drew ?_ | refine blk_alloc ?_ _)); exact BK107.out)) : gb107 ≠ gb108)); have n6_ := Aside0.mk ((by rw [hg]; exact Nat.ne_of_gt (blk_lt (g := gb107) (o := .cells #[.string a0_0, .int .i64 a0_1, .int .i64 a0_2] 29 (0, 0)) (by (with_reducible repeat (first | refine blk_drewN ?_ _ | refine blk_drew ?_ | refine blk_alloc ?_ _)); exact BK107.out)) : gb108 ≠ gb107)); clear BK107; clear HB; have BK107 := n0_; have HB := n1_; have BK108 := n2_; have GW108 := n3_; have GE108 := n4_; have NB107_108 := n5_; have NB108_107 := n6_; clear n0_ n1_ n2_ n3_ n4_ n5_ n6_; clear hb hbox hg; have hnb8 := NB107_108.out; have hnc8 := NB108_107.out; have hcz9_0 : w7.cell? ⟨gb107, 0, none⟩ = some (.string a0_0) := (blk_cell BK107.out 0).trans rfl; have hcz9_1 : w7.cell? ⟨gb107, 1, none⟩ = some (.int .i64 a0_1) := (blk_cell BK107.out 1).trans rfl; have hcz9_2 : w7.cell? ⟨gb107, 2, none⟩ = some (.int .i64 a0_2) := (blk_cell BK107.out 2).trans rfl; have hfz9_0 := blk_frozen BK107.out 0; have hfz9_1 := blk_frozen BK107.out 1; have hfz9_2 := blk_frozen BK107.out 2; have hcz10_0 : w7.cell? ⟨gb108, 0, none⟩ = some (.string a1_0) := (blk_cell BK108.out 0).trans rfl; have hcz10_1 : w7.cell? ⟨gb108, 1, none⟩ = some (.int .i64 a1_1) := (blk_cell BK108.out 1).trans rfl; have hcz10_2 : w7.cell? ⟨gb108, 2, none⟩ = some (.int .i64 a1_2) := (blk_cell BK108.out 2).trans rfl; have hfz10_0 := blk_frozen BK108.out 0; have hfz10_1 := blk_frozen BK108.out 1; have hfz10_2 := blk_frozen BK108.out 2))
    go_ret
    exact ⟨by first | rfl | (simp [errW_none, errW_some] <;> rfl) | (simp [*, errW_none, errW_some] <;> rfl), by repeat (first | (with_reducible first | exact HB.out | apply below_alloc | apply pw_below_drewN | apply below_drew1 | refine below_set ?_ GE107.out | refine below_set ?_ GE108.out) | exact HB.out | exact Below.refl _ _)⟩
   ·
    rw [if_neg c5] at H
    have c5b0 : (a0_2 == a1_2) = false := beq_eq_false_iff_ne.mpr c5
    have c5b1 : (a0_2 != a1_2) = true := bne_iff_ne.mpr c5
    by_cases c11 : a0_2 > a1_2
    ·
     rw [if_pos c11] at H
     have c11b0 : decide (a1_2 < a0_2) = true := decide_eq_true c11
     clear c11
     obtain rfl := Option.some.inj H
     go_enter Try.func31, Try.ntmps31
     go_wp2_with (first | ((with_reducible refine gate_dst (N := 2) rfl ?_); refine box_event ?hg (N := 2) ?hd (cs := #[.string a0_0, .int .i64 a0_1, .int .i64 a0_2]) (t := 29) ?hr ?_; (case hd => rfl); (case hg => rfl); (case hr => first | (go_simp; done) | (go_simp; rfl)); intro gb107 hg w12 hbox hb; have n0_ := Aside0.mk (below_step (by repeat (first | (with_reducible first | exact HB.out | apply below_alloc | apply pw_below_drewN | apply below_drew1) | exact HB.out | exact Below.refl _ _)) hb); have n1_ := Aside0.mk (hbox); have n2_ := Aside0.mk ((by rw [hg]; exact (below_size (by repeat (first | (with_reducible first | exact HB.out | apply below_alloc | apply pw_below_drewN | apply below_drew1) | exact HB.out | exact Below.refl _ _))) : w.heap.size ≤ gb107)); have n3_ := Aside0.mk ((by rw [hg]; exact (below_size (by repeat (first | (with_reducible first | exact HB.out | apply below_alloc | apply pw_below_drewN | apply below_drew1) | exact HB.out | exact Below.refl _ _))) : w.heap.size ≤ gb107)); clear HB; have HB := n0_; have BK107 := n1_; have GW107 := n2_; have GE107 := n3_; clear n0_ n1_ n2_ n3_; clear hb hbox hg) | ((with_reducible refine gate_dst (N := 3) rfl ?_); refine box_event ?hg (N := 3) ?hd (cs := #[.string a1_0, .int .i64 a1_1, .int .i64 a1_2]) (t := 29) ?hr ?_; (case hd => rfl); (case hg => rfl); (case hr => first | (go_simp; done) | (go_simp; rfl)); intro gb108 hg w13 hbox hb; have n0_ := Aside0.mk (blk_below (g := gb107) (o := .cells #[.string a0_0, .int .i64 a0_1, .int .i64 a0_2] 29 (0, 0)) (by (with_reducible repeat (first | refine blk_drewN ?_ _ | refine blk_drew ?_ | refine blk_alloc ?_ _)); exact BK107.out) hb); have n1_ := Aside0.mk (below_step (by repeat (first | (with_reducible first | exact HB.out | apply below_alloc | apply pw_below_drewN | apply below_drew1 | refine below_set ?_ GE107.out) | exact HB.out | exact Below.refl _ _)) hb); have n2_ := Aside0.mk (hbox); have n3_ := Aside0.mk ((by rw [hg]; exact (below_size (by repeat (first | (with_reducible first | exact HB.out | apply below_alloc | apply pw_below_drewN | apply below_drew1 | refine below_set ?_ GE107.out) | exact HB.out | exact Below.refl _ _))) : w.heap.size ≤ gb108)); have n4_ := Aside0.mk ((by rw [hg]; exact (below_size (by repeat (first | (with_reducible first | exact HB.out | apply below_alloc | apply pw_below_drewN | apply below_drew1 | refine below_set ?_ GE107.out) | exact HB.out | exact Below.refl _ _))) : w.heap.size ≤ gb108)); have n5_ := Aside0.mk ((by rw [hg]; exact Nat.ne_of_lt (blk_lt (g := gb107) (o := .cells #[.string a0_0, .int .i64 a0_1, .int .i64 a0_2] 29 (0, 0)) (by (with_reducible repeat (first | refine blk_drewN ?_ _ | refine blk_drew ?_ | refine blk_alloc ?_ _)); exact BK107.out)) : gb107 ≠ gb108)); have n6_ := Aside0.mk ((by rw [hg]; exact Nat.ne_of_gt (blk_lt (g := gb107) (o := .cells #[.string a0_0, .int .i64 a0_1, .int .i64 a0_2] 29 (0, 0)) (by (with_reducible repeat (first | refine blk_drewN ?_ _ | refine blk_drew ?_ | refine blk_alloc ?_ _)); exact BK107.out)) : gb108 ≠ gb107)); clear BK107; clear HB; have BK107 := n0_; have HB := n1_; have BK108 := n2_; have GW108 := n3_; have GE108 := n4_; have NB107_108 := n5_; have NB108_107 := n6_; clear n0_ n1_ n2_ n3_ n4_ n5_ n6_; clear hb hbox hg; have hnb14 := NB107_108.out; have hnc14 := NB108_107.out; have hcz15_0 : w13.cell? ⟨gb107, 0, none⟩ = some (.string a0_0) := (blk_cell BK107.out 0).trans rfl; have hcz15_1 : w13.cell? ⟨gb107, 1, none⟩ = some (.int .i64 a0_1) := (blk_cell BK107.out 1).trans rfl; have hcz15_2 : w13.cell? ⟨gb107, 2, none⟩ = some (.int .i64 a0_2) := (blk_cell BK107.out 2).trans rfl; have hfz15_0 := blk_frozen BK107.out 0; have hfz15_1 := blk_frozen BK107.out 1; have hfz15_2 := blk_frozen BK107.out 2; have hcz16_0 : w13.cell? ⟨gb108, 0, none⟩ = some (.string a1_0) := (blk_cell BK108.out 0).trans rfl; have hcz16_1 : w13.cell? ⟨gb108, 1, none⟩ = some (.int .i64 a1_1) := (blk_cell BK108.out 1).trans rfl; have hcz16_2 : w13.cell? ⟨gb108, 2, none⟩ = some (.int .i64 a1_2) := (blk_cell BK108.out 2).trans rfl; have hfz16_0 := blk_frozen BK108.out 0; have hfz16_1 := blk_frozen BK108.out 1; have hfz16_2 := blk_frozen BK108.out 2))
     go_ret
     exact ⟨by first | rfl | (simp [errW_none, errW_some] <;> rfl) | (simp [*, errW_none, errW_some] <;> rfl), by repeat (first | (with_reducible first | exact HB.out | apply below_alloc | apply pw_below_drewN | apply below_drew1 | refine below_set ?_ GE107.out | refine below_set ?_ GE108.out) | exact HB.out | exact Below.refl _ _)⟩
    ·
     rw [if_neg c11] at H
     have c11b0 : decide (a1_2 < a0_2) = false := decide_eq_false c11
     clear c11
     obtain rfl := Option.some.inj H
     go_enter Try.func31, Try.ntmps31
     go_wp2_with (first | ((with_reducible refine gate_dst (N := 2) rfl ?_); refine box_event ?hg (N := 2) ?hd (cs := #[.string a0_0, .int .i64 a0_1, .int .i64 a0_2]) (t := 29) ?hr ?_; (case hd => rfl); (case hg => rfl); (case hr => first | (go_simp; done) | (go_simp; rfl)); intro gb107 hg w17 hbox hb; have n0_ := Aside0.mk (below_step (by repeat (first | (with_reducible first | exact HB.out | apply below_alloc | apply pw_below_drewN | apply below_drew1) | exact HB.out | exact Below.refl _ _)) hb); have n1_ := Aside0.mk (hbox); have n2_ := Aside0.mk ((by rw [hg]; exact (below_size (by repeat (first | (with_reducible first | exact HB.out | apply below_alloc | apply pw_below_drewN | apply below_drew1) | exact HB.out | exact Below.refl _ _))) : w.heap.size ≤ gb107)); have n3_ := Aside0.mk ((by rw [hg]; exact (below_size (by repeat (first | (with_reducible first | exact HB.out | apply below_alloc | apply pw_below_drewN | apply below_drew1) | exact HB.out | exact Below.refl _ _))) : w.heap.size ≤ gb107)); clear HB; have HB := n0_; have BK107 := n1_; have GW107 := n2_; have GE107 := n3_; clear n0_ n1_ n2_ n3_; clear hb hbox hg) | ((with_reducible refine gate_dst (N := 3) rfl ?_); refine box_event ?hg (N := 3) ?hd (cs := #[.string a1_0, .int .i64 a1_1, .int .i64 a1_2]) (t := 29) ?hr ?_; (case hd => rfl); (case hg => rfl); (case hr => first | (go_simp; done) | (go_simp; rfl)); intro gb108 hg w18 hbox hb; have n0_ := Aside0.mk (blk_below (g := gb107) (o := .cells #[.string a0_0, .int .i64 a0_1, .int .i64 a0_2] 29 (0, 0)) (by (with_reducible repeat (first | refine blk_drewN ?_ _ | refine blk_drew ?_ | refine blk_alloc ?_ _)); exact BK107.out) hb); have n1_ := Aside0.mk (below_step (by repeat (first | (with_reducible first | exact HB.out | apply below_alloc | apply pw_below_drewN | apply below_drew1 | refine below_set ?_ GE107.out) | exact HB.out | exact Below.refl _ _)) hb); have n2_ := Aside0.mk (hbox); have n3_ := Aside0.mk ((by rw [hg]; exact (below_size (by repeat (first | (with_reducible first | exact HB.out | apply below_alloc | apply pw_below_drewN | apply below_drew1 | refine below_set ?_ GE107.out) | exact HB.out | exact Below.refl _ _))) : w.heap.size ≤ gb108)); have n4_ := Aside0.mk ((by rw [hg]; exact (below_size (by repeat (first | (with_reducible first | exact HB.out | apply below_alloc | apply pw_below_drewN | apply below_drew1 | refine below_set ?_ GE107.out) | exact HB.out | exact Below.refl _ _))) : w.heap.size ≤ gb108)); have n5_ := Aside0.mk ((by rw [hg]; exact Nat.ne_of_lt (blk_lt (g := gb107) (o := .cells #[.string a0_0, .int .i64 a0_1, .int .i64 a0_2] 29 (0, 0)) (by (with_reducible repeat (first | refine blk_drewN ?_ _ | refine blk_drew ?_ | refine blk_alloc ?_ _)); exact BK107.out)) : gb107 ≠ gb108)); have n6_ := Aside0.mk ((by rw [hg]; exact Nat.ne_of_gt (blk_lt (g := gb107) (o := .cells #[.string a0_0, .int .i64 a0_1, .int .i64 a0_2] 29 (0, 0)) (by (with_reducible repeat (first | refine blk_drewN ?_ _ | refine blk_drew ?_ | refine blk_alloc ?_ _)); exact BK107.out)) : gb108 ≠ gb107)); clear BK107; clear HB; have BK107 := n0_; have HB := n1_; have BK108 := n2_; have GW108 := n3_; have GE108 := n4_; have NB107_108 := n5_; have NB108_107 := n6_; clear n0_ n1_ n2_ n3_ n4_ n5_ n6_; clear hb hbox hg; have hnb19 := NB107_108.out; have hnc19 := NB108_107.out; have hcz20_0 : w18.cell? ⟨gb107, 0, none⟩ = some (.string a0_0) := (blk_cell BK107.out 0).trans rfl; have hcz20_1 : w18.cell? ⟨gb107, 1, none⟩ = some (.int .i64 a0_1) := (blk_cell BK107.out 1).trans rfl; have hcz20_2 : w18.cell? ⟨gb107, 2, none⟩ = some (.int .i64 a0_2) := (blk_cell BK107.out 2).trans rfl; have hfz20_0 := blk_frozen BK107.out 0; have hfz20_1 := blk_frozen BK107.out 1; have hfz20_2 := blk_frozen BK107.out 2; have hcz21_0 : w18.cell? ⟨gb108, 0, none⟩ = some (.string a1_0) := (blk_cell BK108.out 0).trans rfl; have hcz21_1 : w18.cell? ⟨gb108, 1, none⟩ = some (.int .i64 a1_1) := (blk_cell BK108.out 1).trans rfl; have hcz21_2 : w18.cell? ⟨gb108, 2, none⟩ = some (.int .i64 a1_2) := (blk_cell BK108.out 2).trans rfl; have hfz21_0 := blk_frozen BK108.out 0; have hfz21_1 := blk_frozen BK108.out 1; have hfz21_2 := blk_frozen BK108.out 2))
     go_ret
     exact ⟨by first | rfl | (simp [errW_none, errW_some] <;> rfl) | (simp [*, errW_none, errW_some] <;> rfl), by repeat (first | (with_reducible first | exact HB.out | apply below_alloc | apply pw_below_drewN | apply below_drew1 | refine below_set ?_ GE107.out | refine below_set ?_ GE108.out) | exact HB.out | exact Below.refl _ _)⟩
  ·
   rw [if_neg c4] at H
   have c4b0 : (a0_1 == a1_1) = false := beq_eq_false_iff_ne.mpr c4
   have c4b1 : (a0_1 != a1_1) = true := bne_iff_ne.mpr c4
   by_cases c22 : a0_1 > a1_1
   ·
    rw [if_pos c22] at H
    have c22b0 : decide (a1_1 < a0_1) = true := decide_eq_true c22
    clear c22
    obtain rfl := Option.some.inj H
    go_enter Try.func31, Try.ntmps31
    go_wp2_with (first | ((with_reducible refine gate_dst (N := 2) rfl ?_); refine box_event ?hg (N := 2) ?hd (cs := #[.string a0_0, .int .i64 a0_1, .int .i64 a0_2]) (t := 29) ?hr ?_; (case hd => rfl); (case hg => rfl); (case hr => first | (go_simp; done) | (go_simp; rfl)); intro gb107 hg w23 hbox hb; have n0_ := Aside0.mk (below_step (by repeat (first | (with_reducible first | exact HB.out | apply below_alloc | apply pw_below_drewN | apply below_drew1) | exact HB.out | exact Below.refl _ _)) hb); have n1_ := Aside0.mk (hbox); have n2_ := Aside0.mk ((by rw [hg]; exact (below_size (by repeat (first | (with_reducible first | exact HB.out | apply below_alloc | apply pw_below_drewN | apply below_drew1) | exact HB.out | exact Below.refl _ _))) : w.heap.size ≤ gb107)); have n3_ := Aside0.mk ((by rw [hg]; exact (below_size (by repeat (first | (with_reducible first | exact HB.out | apply below_alloc | apply pw_below_drewN | apply below_drew1) | exact HB.out | exact Below.refl _ _))) : w.heap.size ≤ gb107)); clear HB; have HB := n0_; have BK107 := n1_; have GW107 := n2_; have GE107 := n3_; clear n0_ n1_ n2_ n3_; clear hb hbox hg) | ((with_reducible refine gate_dst (N := 3) rfl ?_); refine box_event ?hg (N := 3) ?hd (cs := #[.string a1_0, .int .i64 a1_1, .int .i64 a1_2]) (t := 29) ?hr ?_; (case hd => rfl); (case hg => rfl); (case hr => first | (go_simp; done) | (go_simp; rfl)); intro gb108 hg w24 hbox hb; have n0_ := Aside0.mk (blk_below (g := gb107) (o := .cells #[.string a0_0, .int .i64 a0_1, .int .i64 a0_2] 29 (0, 0)) (by (with_reducible repeat (first | refine blk_drewN ?_ _ | refine blk_drew ?_ | refine blk_alloc ?_ _)); exact BK107.out) hb); have n1_ := Aside0.mk (below_step (by repeat (first | (with_reducible first | exact HB.out | apply below_alloc | apply pw_below_drewN | apply below_drew1 | refine below_set ?_ GE107.out) | exact HB.out | exact Below.refl _ _)) hb); have n2_ := Aside0.mk (hbox); have n3_ := Aside0.mk ((by rw [hg]; exact (below_size (by repeat (first | (with_reducible first | exact HB.out | apply below_alloc | apply pw_below_drewN | apply below_drew1 | refine below_set ?_ GE107.out) | exact HB.out | exact Below.refl _ _))) : w.heap.size ≤ gb108)); have n4_ := Aside0.mk ((by rw [hg]; exact (below_size (by repeat (first | (with_reducible first | exact HB.out | apply below_alloc | apply pw_below_drewN | apply below_drew1 | refine below_set ?_ GE107.out) | exact HB.out | exact Below.refl _ _))) : w.heap.size ≤ gb108)); have n5_ := Aside0.mk ((by rw [hg]; exact Nat.ne_of_lt (blk_lt (g := gb107) (o := .cells #[.string a0_0, .int .i64 a0_1, .int .i64 a0_2] 29 (0, 0)) (by (with_reducible repeat (first | refine blk_drewN ?_ _ | refine blk_drew ?_ | refine blk_alloc ?_ _)); exact BK107.out)) : gb107 ≠ gb108)); have n6_ := Aside0.mk ((by rw [hg]; exact Nat.ne_of_gt (blk_lt (g := gb107) (o := .cells #[.string a0_0, .int .i64 a0_1, .int .i64 a0_2] 29 (0, 0)) (by (with_reducible repeat (first | refine blk_drewN ?_ _ | refine blk_drew ?_ | refine blk_alloc ?_ _)); exact BK107.out)) : gb108 ≠ gb107)); clear BK107; clear HB; have BK107 := n0_; have HB := n1_; have BK108 := n2_; have GW108 := n3_; have GE108 := n4_; have NB107_108 := n5_; have NB108_107 := n6_; clear n0_ n1_ n2_ n3_ n4_ n5_ n6_; clear hb hbox hg; have hnb25 := NB107_108.out; have hnc25 := NB108_107.out; have hcz26_0 : w24.cell? ⟨gb107, 0, none⟩ = some (.string a0_0) := (blk_cell BK107.out 0).trans rfl; have hcz26_1 : w24.cell? ⟨gb107, 1, none⟩ = some (.int .i64 a0_1) := (blk_cell BK107.out 1).trans rfl; have hcz26_2 : w24.cell? ⟨gb107, 2, none⟩ = some (.int .i64 a0_2) := (blk_cell BK107.out 2).trans rfl; have hfz26_0 := blk_frozen BK107.out 0; have hfz26_1 := blk_frozen BK107.out 1; have hfz26_2 := blk_frozen BK107.out 2; have hcz27_0 : w24.cell? ⟨gb108, 0, none⟩ = some (.string a1_0) := (blk_cell BK108.out 0).trans rfl; have hcz27_1 : w24.cell? ⟨gb108, 1, none⟩ = some (.int .i64 a1_1) := (blk_cell BK108.out 1).trans rfl; have hcz27_2 : w24.cell? ⟨gb108, 2, none⟩ = some (.int .i64 a1_2) := (blk_cell BK108.out 2).trans rfl; have hfz27_0 := blk_frozen BK108.out 0; have hfz27_1 := blk_frozen BK108.out 1; have hfz27_2 := blk_frozen BK108.out 2))
    go_ret
    exact ⟨by first | rfl | (simp [errW_none, errW_some] <;> rfl) | (simp [*, errW_none, errW_some] <;> rfl), by repeat (first | (with_reducible first | exact HB.out | apply below_alloc | apply pw_below_drewN | apply below_drew1 | refine below_set ?_ GE107.out | refine below_set ?_ GE108.out) | exact HB.out | exact Below.refl _ _)⟩
   ·
    rw [if_neg c22] at H
    have c22b0 : decide (a1_1 < a0_1) = false := decide_eq_false c22
    clear c22
    obtain rfl := Option.some.inj H
    go_enter Try.func31, Try.ntmps31
    go_wp2_with (first | ((with_reducible refine gate_dst (N := 2) rfl ?_); refine box_event ?hg (N := 2) ?hd (cs := #[.string a0_0, .int .i64 a0_1, .int .i64 a0_2]) (t := 29) ?hr ?_; (case hd => rfl); (case hg => rfl); (case hr => first | (go_simp; done) | (go_simp; rfl)); intro gb107 hg w28 hbox hb; have n0_ := Aside0.mk (below_step (by repeat (first | (with_reducible first | exact HB.out | apply below_alloc | apply pw_below_drewN | apply below_drew1) | exact HB.out | exact Below.refl _ _)) hb); have n1_ := Aside0.mk (hbox); have n2_ := Aside0.mk ((by rw [hg]; exact (below_size (by repeat (first | (with_reducible first | exact HB.out | apply below_alloc | apply pw_below_drewN | apply below_drew1) | exact HB.out | exact Below.refl _ _))) : w.heap.size ≤ gb107)); have n3_ := Aside0.mk ((by rw [hg]; exact (below_size (by repeat (first | (with_reducible first | exact HB.out | apply below_alloc | apply pw_below_drewN | apply below_drew1) | exact HB.out | exact Below.refl _ _))) : w.heap.size ≤ gb107)); clear HB; have HB := n0_; have BK107 := n1_; have GW107 := n2_; have GE107 := n3_; clear n0_ n1_ n2_ n3_; clear hb hbox hg) | ((with_reducible refine gate_dst (N := 3) rfl ?_); refine box_event ?hg (N := 3) ?hd (cs := #[.string a1_0, .int .i64 a1_1, .int .i64 a1_2]) (t := 29) ?hr ?_; (case hd => rfl); (case hg => rfl); (case hr => first | (go_simp; done) | (go_simp; rfl)); intro gb108 hg w29 hbox hb; have n0_ := Aside0.mk (blk_below (g := gb107) (o := .cells #[.string a0_0, .int .i64 a0_1, .int .i64 a0_2] 29 (0, 0)) (by (with_reducible repeat (first | refine blk_drewN ?_ _ | refine blk_drew ?_ | refine blk_alloc ?_ _)); exact BK107.out) hb); have n1_ := Aside0.mk (below_step (by repeat (first | (with_reducible first | exact HB.out | apply below_alloc | apply pw_below_drewN | apply below_drew1 | refine below_set ?_ GE107.out) | exact HB.out | exact Below.refl _ _)) hb); have n2_ := Aside0.mk (hbox); have n3_ := Aside0.mk ((by rw [hg]; exact (below_size (by repeat (first | (with_reducible first | exact HB.out | apply below_alloc | apply pw_below_drewN | apply below_drew1 | refine below_set ?_ GE107.out) | exact HB.out | exact Below.refl _ _))) : w.heap.size ≤ gb108)); have n4_ := Aside0.mk ((by rw [hg]; exact (below_size (by repeat (first | (with_reducible first | exact HB.out | apply below_alloc | apply pw_below_drewN | apply below_drew1 | refine below_set ?_ GE107.out) | exact HB.out | exact Below.refl _ _))) : w.heap.size ≤ gb108)); have n5_ := Aside0.mk ((by rw [hg]; exact Nat.ne_of_lt (blk_lt (g := gb107) (o := .cells #[.string a0_0, .int .i64 a0_1, .int .i64 a0_2] 29 (0, 0)) (by (with_reducible repeat (first | refine blk_drewN ?_ _ | refine blk_drew ?_ | refine blk_alloc ?_ _)); exact BK107.out)) : gb107 ≠ gb108)); have n6_ := Aside0.mk ((by rw [hg]; exact Nat.ne_of_gt (blk_lt (g := gb107) (o := .cells #[.string a0_0, .int .i64 a0_1, .int .i64 a0_2] 29 (0, 0)) (by (with_reducible repeat (first | refine blk_drewN ?_ _ | refine blk_drew ?_ | refine blk_alloc ?_ _)); exact BK107.out)) : gb108 ≠ gb107)); clear BK107; clear HB; have BK107 := n0_; have HB := n1_; have BK108 := n2_; have GW108 := n3_; have GE108 := n4_; have NB107_108 := n5_; have NB108_107 := n6_; clear n0_ n1_ n2_ n3_ n4_ n5_ n6_; clear hb hbox hg; have hnb30 := NB107_108.out; have hnc30 := NB108_107.out; have hcz31_0 : w29.cell? ⟨gb107, 0, none⟩ = some (.string a0_0) := (blk_cell BK107.out 0).trans rfl; have hcz31_1 : w29.cell? ⟨gb107, 1, none⟩ = some (.int .i64 a0_1) := (blk_cell BK107.out 1).trans rfl; have hcz31_2 : w29.cell? ⟨gb107, 2, none⟩ = some (.int .i64 a0_2) := (blk_cell BK107.out 2).trans rfl; have hfz31_0 := blk_frozen BK107.out 0; have hfz31_1 := blk_frozen BK107.out 1; have hfz31_2 := blk_frozen BK107.out 2; have hcz32_0 : w29.cell? ⟨gb108, 0, none⟩ = some (.string a1_0) := (blk_cell BK108.out 0).trans rfl; have hcz32_1 : w29.cell? ⟨gb108, 1, none⟩ = some (.int .i64 a1_1) := (blk_cell BK108.out 1).trans rfl; have hcz32_2 : w29.cell? ⟨gb108, 2, none⟩ = some (.int .i64 a1_2) := (blk_cell BK108.out 2).trans rfl; have hfz32_0 := blk_frozen BK108.out 0; have hfz32_1 := blk_frozen BK108.out 1; have hfz32_2 := blk_frozen BK108.out 2))
    go_ret
    exact ⟨by first | rfl | (simp [errW_none, errW_some] <;> rfl) | (simp [*, errW_none, errW_some] <;> rfl), by repeat (first | (with_reducible first | exact HB.out | apply below_alloc | apply pw_below_drewN | apply below_drew1 | refine below_set ?_ GE107.out | refine below_set ?_ GE108.out) | exact HB.out | exact Below.refl _ _)⟩
 ·
  rw [if_neg c3] at H
  have c3b0 : (a0_0.toList == a1_0.toList) = false := beq_eq_false_iff_ne.mpr c3
  have c3b1 : (a0_0.toList != a1_0.toList) = true := bne_iff_ne.mpr c3
  by_cases c33 : (Op.bytesLess a0_0.toList a1_0.toList) = true
  ·
   rw [if_pos c33] at H
   have c33b0 : (Op.bytesLess a0_0.toList a1_0.toList) = true := c33
   (try (have c33b1 : (a0_0.toList == a1_0.toList) = false := bl_ne c33))
   (try (have c33b2 : (a1_0.toList == a0_0.toList) = false := bl_ne2 c33))
   clear c33
   obtain rfl := Option.some.inj H
   go_enter Try.func31, Try.ntmps31
   go_wp2_with (first | ((with_reducible refine gate_dst (N := 2) rfl ?_); refine box_event ?hg (N := 2) ?hd (cs := #[.string a0_0, .int .i64 a0_1, .int .i64 a0_2]) (t := 29) ?hr ?_; (case hd => rfl); (case hg => rfl); (case hr => first | (go_simp; done) | (go_simp; rfl)); intro gb107 hg w34 hbox hb; have n0_ := Aside0.mk (below_step (by repeat (first | (with_reducible first | exact HB.out | apply below_alloc | apply pw_below_drewN | apply below_drew1) | exact HB.out | exact Below.refl _ _)) hb); have n1_ := Aside0.mk (hbox); have n2_ := Aside0.mk ((by rw [hg]; exact (below_size (by repeat (first | (with_reducible first | exact HB.out | apply below_alloc | apply pw_below_drewN | apply below_drew1) | exact HB.out | exact Below.refl _ _))) : w.heap.size ≤ gb107)); have n3_ := Aside0.mk ((by rw [hg]; exact (below_size (by repeat (first | (with_reducible first | exact HB.out | apply below_alloc | apply pw_below_drewN | apply below_drew1) | exact HB.out | exact Below.refl _ _))) : w.heap.size ≤ gb107)); clear HB; have HB := n0_; have BK107 := n1_; have GW107 := n2_; have GE107 := n3_; clear n0_ n1_ n2_ n3_; clear hb hbox hg) | ((with_reducible refine gate_dst (N := 3) rfl ?_); refine box_event ?hg (N := 3) ?hd (cs := #[.string a1_0, .int .i64 a1_1, .int .i64 a1_2]) (t := 29) ?hr ?_; (case hd => rfl); (case hg => rfl); (case hr => first | (go_simp; done) | (go_simp; rfl)); intro gb108 hg w35 hbox hb; have n0_ := Aside0.mk (blk_below (g := gb107) (o := .cells #[.string a0_0, .int .i64 a0_1, .int .i64 a0_2] 29 (0, 0)) (by (with_reducible repeat (first | refine blk_drewN ?_ _ | refine blk_drew ?_ | refine blk_alloc ?_ _)); exact BK107.out) hb); have n1_ := Aside0.mk (below_step (by repeat (first | (with_reducible first | exact HB.out | apply below_alloc | apply pw_below_drewN | apply below_drew1 | refine below_set ?_ GE107.out) | exact HB.out | exact Below.refl _ _)) hb); have n2_ := Aside0.mk (hbox); have n3_ := Aside0.mk ((by rw [hg]; exact (below_size (by repeat (first | (with_reducible first | exact HB.out | apply below_alloc | apply pw_below_drewN | apply below_drew1 | refine below_set ?_ GE107.out) | exact HB.out | exact Below.refl _ _))) : w.heap.size ≤ gb108)); have n4_ := Aside0.mk ((by rw [hg]; exact (below_size (by repeat (first | (with_reducible first | exact HB.out | apply below_alloc | apply pw_below_drewN | apply below_drew1 | refine below_set ?_ GE107.out) | exact HB.out | exact Below.refl _ _))) : w.heap.size ≤ gb108)); have n5_ := Aside0.mk ((by rw [hg]; exact Nat.ne_of_lt (blk_lt (g := gb107) (o := .cells #[.string a0_0, .int .i64 a0_1, .int .i64 a0_2] 29 (0, 0)) (by (with_reducible repeat (first | refine blk_drewN ?_ _ | refine blk_drew ?_ | refine blk_alloc ?_ _)); exact BK107.out)) : gb107 ≠ gb108)); have n6_ := Aside0.mk ((by rw [hg]; exact Nat.ne_of_gt (blk_lt (g := gb107) (o := .cells #[.string a0_0, .int .i64 a0_1, .int .i64 a0_2] 29 (0, 0)) (by (with_reducible repeat (first | refine blk_drewN ?_ _ | refine blk_drew ?_ | refine blk_alloc ?_ _)); exact BK107.out)) : gb108 ≠ gb107)); clear BK107; clear HB; have BK107 := n0_; have HB := n1_; have BK108 := n2_; have GW108 := n3_; have GE108 := n4_; have NB107_108 := n5_; have NB108_107 := n6_; clear n0_ n1_ n2_ n3_ n4_ n5_ n6_; clear hb hbox hg; have hnb36 := NB107_108.out; have hnc36 := NB108_107.out; have hcz37_0 : w35.cell? ⟨gb107, 0, none⟩ = some (.string a0_0) := (blk_cell BK107.out 0).trans rfl; have hcz37_1 : w35.cell? ⟨gb107, 1, none⟩ = some (.int .i64 a0_1) := (blk_cell BK107.out 1).trans rfl; have hcz37_2 : w35.cell? ⟨gb107, 2, none⟩ = some (.int .i64 a0_2) := (blk_cell BK107.out 2).trans rfl; have hfz37_0 := blk_frozen BK107.out 0; have hfz37_1 := blk_frozen BK107.out 1; have hfz37_2 := blk_frozen BK107.out 2; have hcz38_0 : w35.cell? ⟨gb108, 0, none⟩ = some (.string a1_0) := (blk_cell BK108.out 0).trans rfl; have hcz38_1 : w35.cell? ⟨gb108, 1, none⟩ = some (.int .i64 a1_1) := (blk_cell BK108.out 1).trans rfl; have hcz38_2 : w35.cell? ⟨gb108, 2, none⟩ = some (.int .i64 a1_2) := (blk_cell BK108.out 2).trans rfl; have hfz38_0 := blk_frozen BK108.out 0; have hfz38_1 := blk_frozen BK108.out 1; have hfz38_2 := blk_frozen BK108.out 2))
   go_ret
   exact ⟨by first | rfl | (simp [errW_none, errW_some] <;> rfl) | (simp [*, errW_none, errW_some] <;> rfl), by repeat (first | (with_reducible first | exact HB.out | apply below_alloc | apply pw_below_drewN | apply below_drew1 | refine below_set ?_ GE107.out | refine below_set ?_ GE108.out) | exact HB.out | exact Below.refl _ _)⟩
  ·
   rw [if_neg c33] at H
   have c33b0 : (Op.bytesLess a0_0.toList a1_0.toList) = false := by simpa using c33
   (try (have c33b1 : (a0_0.toList == a1_0.toList) = true := bl_eq (by assumption) (by assumption)))
   (try (have c33b2 : (a1_0.toList == a0_0.toList) = true := bl_eq (by assumption) (by assumption)))
   clear c33
   obtain rfl := Option.some.inj H
   go_enter Try.func31, Try.ntmps31
   go_wp2_with (first | ((with_reducible refine gate_dst (N := 2) rfl ?_); refine box_event ?hg (N := 2) ?hd (cs := #[.string a0_0, .int .i64 a0_1, .int .i64 a0_2]) (t := 29) ?hr ?_; (case hd => rfl); (case hg => rfl); (case hr => first | (go_simp; done) | (go_simp; rfl)); intro gb107 hg w39 hbox hb; have n0_ := Aside0.mk (below_step (by repeat (first | (with_reducible first | exact HB.out | apply below_alloc | apply pw_below_drewN | apply below_drew1) | exact HB.out | exact Below.refl _ _)) hb); have n1_ := Aside0.mk (hbox); have n2_ := Aside0.mk ((by rw [hg]; exact (below_size (by repeat (first | (with_reducible first | exact HB.out | apply below_alloc | apply pw_below_drewN | apply below_drew1) | exact HB.out | exact Below.refl _ _))) : w.heap.size ≤ gb107)); have n3_ := Aside0.mk ((by rw [hg]; exact (below_size (by repeat (first | (with_reducible first | exact HB.out | apply below_alloc | apply pw_below_drewN | apply below_drew1) | exact HB.out | exact Below.refl _ _))) : w.heap.size ≤ gb107)); clear HB; have HB := n0_; have BK107 := n1_; have GW107 := n2_; have GE107 := n3_; clear n0_ n1_ n2_ n3_; clear hb hbox hg) | ((with_reducible refine gate_dst (N := 3) rfl ?_); refine box_event ?hg (N := 3) ?hd (cs := #[.string a1_0, .int .i64 a1_1, .int .i64 a1_2]) (t := 29) ?hr ?_; (case hd => rfl); (case hg => rfl); (case hr => first | (go_simp; done) | (go_simp; rfl)); intro gb108 hg w40 hbox hb; have n0_ := Aside0.mk (blk_below (g := gb107) (o := .cells #[.string a0_0, .int .i64 a0_1, .int .i64 a0_2] 29 (0, 0)) (by (with_reducible repeat (first | refine blk_drewN ?_ _ | refine blk_drew ?_ | refine blk_alloc ?_ _)); exact BK107.out) hb); have n1_ := Aside0.mk (below_step (by repeat (first | (with_reducible first | exact HB.out | apply below_alloc | apply pw_below_drewN | apply below_drew1 | refine below_set ?_ GE107.out) | exact HB.out | exact Below.refl _ _)) hb); have n2_ := Aside0.mk (hbox); have n3_ := Aside0.mk ((by rw [hg]; exact (below_size (by repeat (first | (with_reducible first | exact HB.out | apply below_alloc | apply pw_below_drewN | apply below_drew1 | refine below_set ?_ GE107.out) | exact HB.out | exact Below.refl _ _))) : w.heap.size ≤ gb108)); have n4_ := Aside0.mk ((by rw [hg]; exact (below_size (by repeat (first | (with_reducible first | exact HB.out | apply below_alloc | apply pw_below_drewN | apply below_drew1 | refine below_set ?_ GE107.out) | exact HB.out | exact Below.refl _ _))) : w.heap.size ≤ gb108)); have n5_ := Aside0.mk ((by rw [hg]; exact Nat.ne_of_lt (blk_lt (g := gb107) (o := .cells #[.string a0_0, .int .i64 a0_1, .int .i64 a0_2] 29 (0, 0)) (by (with_reducible repeat (first | refine blk_drewN ?_ _ | refine blk_drew ?_ | refine blk_alloc ?_ _)); exact BK107.out)) : gb107 ≠ gb108)); have n6_ := Aside0.mk ((by rw [hg]; exact Nat.ne_of_gt (blk_lt (g := gb107) (o := .cells #[.string a0_0, .int .i64 a0_1, .int .i64 a0_2] 29 (0, 0)) (by (with_reducible repeat (first | refine blk_drewN ?_ _ | refine blk_drew ?_ | refine blk_alloc ?_ _)); exact BK107.out)) : gb108 ≠ gb107)); clear BK107; clear HB; have BK107 := n0_; have HB := n1_; have BK108 := n2_; have GW108 := n3_; have GE108 := n4_; have NB107_108 := n5_; have NB108_107 := n6_; clear n0_ n1_ n2_ n3_ n4_ n5_ n6_; clear hb hbox hg; have hnb41 := NB107_108.out; have hnc41 := NB108_107.out; have hcz42_0 : w40.cell? ⟨gb107, 0, none⟩ = some (.string a0_0) := (blk_cell BK107.out 0).trans rfl; have hcz42_1 : w40.cell? ⟨gb107, 1, none⟩ = some (.int .i64 a0_1) := (blk_cell BK107.out 1).trans rfl; have hcz42_2 : w40.cell? ⟨gb107, 2, none⟩ = some (.int .i64 a0_2) := (blk_cell BK107.out 2).trans rfl; have hfz42_0 := blk_frozen BK107.out 0; have hfz42_1 := blk_frozen BK107.out 1; have hfz42_2 := blk_frozen BK107.out 2; have hcz43_0 : w40.cell? ⟨gb108, 0, none⟩ = some (.string a1_0) := (blk_cell BK108.out 0).trans rfl; have hcz43_1 : w40.cell? ⟨gb108, 1, none⟩ = some (.int .i64 a1_1) := (blk_cell BK108.out 1).trans rfl; have hcz43_2 : w40.cell? ⟨gb108, 2, none⟩ = some (.int .i64 a1_2) := (blk_cell BK108.out 2).trans rfl; have hfz43_0 := blk_frozen BK108.out 0; have hfz43_1 := blk_frozen BK108.out 1; have hfz43_2 := blk_frozen BK108.out 2))
   go_ret
   exact ⟨by first | rfl | (simp [errW_none, errW_some] <;> rfl) | (simp [*, errW_none, errW_some] <;> rfl), by repeat (first | (with_reducible first | exact HB.out | apply below_alloc | apply pw_below_drewN | apply below_drew1 | refine below_set ?_ GE107.out | refine below_set ?_ GE108.out) | exact HB.out | exact Below.refl _ _)⟩

/-! ### iceboxref1_Number: function 68 -/
def iceboxref1_Number.f (a0 : Int) : Option (Bool) := if a0 ≥ 0 then (some (decide (a0 ≤ 9007199254740992))) else (some false)
set_option maxHeartbeats 80000000 in
set_option maxRecDepth 100000 in
theorem iceboxref1_Number.calls (a0 : Int) (r : Bool) (w : World) (h : iceboxref1_Number.f a0 = some r) :
 Calls Try.prog 68 #[.int .i64 a0] w fun e w' => e = .returned (.bool r) ∧ Drawn0 w w' := by
 have H : (if a0 ≥ 0 then (some (decide (a0 ≤ 9007199254740992))) else (some false)) = some r := h
 clear h
 by_cases c2 : a0 ≥ 0
 ·
  rw [if_pos c2] at H
  have c2b0 : decide (0 ≤ a0) = true := decide_eq_true c2
  clear c2
  obtain rfl := Option.some.inj H
  go_enter Try.func68, Try.ntmps68
  go_wp2
  go_ret
  exact ⟨by first | rfl | (simp; done) | (simp [*]; done), by repeat (first | exact Drawn0.refl _ | apply Drawn0.step)⟩
 ·
  rw [if_neg c2] at H
  have c2b0 : decide (0 ≤ a0) = false := decide_eq_false c2
  clear c2
  obtain rfl := Option.some.inj H
  go_enter Try.func68, Try.ntmps68
  go_wp2
  go_ret
  exact ⟨by first | rfl | (simp; done) | (simp [*]; done), by repeat (first | exact Drawn0.refl _ | apply Drawn0.step)⟩

/-! ### iceboxref1_MayKey: function 63 -/
def iceboxref1_MayKey.f (a0_0 : ByteArray) (a0_1 : Int) (a0_2 : Int) : Option (Bool) := if (a0_0.size : Int) ≤ 64 then ((iceboxref1_Number.f a0_1).bind fun t110 => (if t110 = true then (if a0_2 = 1 then (some true) else (some (a0_2 == 2))) else (some false))) else (some false)
set_option maxHeartbeats 80000000 in
set_option maxRecDepth 100000 in
theorem iceboxref1_MayKey.calls (a0_0 : ByteArray) (a0_1 : Int) (a0_2 : Int) (r : Bool) (w : World) (h : iceboxref1_MayKey.f a0_0 a0_1 a0_2 = some r) :
 Calls Try.prog 63 #[.agg #[.string a0_0, .int .i64 a0_1, .int .i64 a0_2]] w fun e w' => e = .returned (.bool r) ∧ Below w.heap.size w w' := by
 have hu29 := Try.underlying29
 have HB := Aside0.mk (Below.refl w.heap.size w)
 have H : (if (a0_0.size : Int) ≤ 64 then ((iceboxref1_Number.f a0_1).bind fun t110 => (if t110 = true then (if a0_2 = 1 then (some true) else (some (a0_2 == 2))) else (some false))) else (some false)) = some r := h
 clear h
 by_cases c2 : (a0_0.size : Int) ≤ 64
 ·
  rw [if_pos c2] at H
  have c2b0 : decide ((a0_0.size : Int) ≤ 64) = true := decide_eq_true c2
  have c2b1 : decide (a0_0.size ≤ 64) = true := decide_eq_true (by omega)
  clear c2
  replace H := Option.bind_eq_some_iff.mp H
  obtain ⟨t110, A30, H⟩ := H
  replace H : (if t110 = true then (if a0_2 = 1 then (some true) else (some (a0_2 == 2))) else (some false)) = some r := H
  have A3 := Aside0.mk A30
  clear A30
  by_cases c4 : t110 = true
  ·
   subst c4
   have H1 : (if a0_2 = 1 then (some true) else (some (a0_2 == 2))) = some r := by rw [if_pos rfl] at H; exact H
   clear H
   have H := H1
   clear H1
   by_cases c5 : a0_2 = 1
   ·
    rw [if_pos c5] at H
    have c5b0 : (a0_2 == 1) = true := beq_iff_eq.mpr c5
    have c5b1 : (a0_2 != 1) = false := bne_eq_false_iff_eq.mpr c5
    clear c5
    obtain rfl := Option.some.inj H
    go_enter Try.func63, Try.ntmps63
    go_wp2_with (first | ((with_reducible refine gate_dst (N := 1) rfl ?_); refine box_event ?hg (N := 1) ?hd (cs := #[.string a0_0, .int .i64 a0_1, .int .i64 a0_2]) (t := 29) ?hr ?_; (case hd => rfl); (case hg => rfl); (case hr => first | (go_simp; done) | (go_simp; rfl)); intro gb109 hg w6 hbox hb; have n0_ := Aside0.mk (below_step (by repeat (first | (with_reducible first | exact HB.out | apply below_alloc | apply pw_below_drewN | apply below_drew1) | exact HB.out | exact Below.refl _ _)) hb); have n1_ := Aside0.mk (hbox); have n2_ := Aside0.mk ((by rw [hg]; exact (below_size (by repeat (first | (with_reducible first | exact HB.out | apply below_alloc | apply pw_below_drewN | apply below_drew1) | exact HB.out | exact Below.refl _ _))) : w.heap.size ≤ gb109)); have n3_ := Aside0.mk ((by rw [hg]; exact (below_size (by repeat (first | (with_reducible first | exact HB.out | apply below_alloc | apply pw_below_drewN | apply below_drew1) | exact HB.out | exact Below.refl _ _))) : w.heap.size ≤ gb109)); clear HB; have HB := n0_; have BK109 := n1_; have GW109 := n2_; have GE109 := n3_; clear n0_ n1_ n2_ n3_; clear hb hbox hg; have hcz7_0 : w6.cell? ⟨gb109, 0, none⟩ = some (.string a0_0) := (blk_cell BK109.out 0).trans rfl; have hcz7_1 : w6.cell? ⟨gb109, 1, none⟩ = some (.int .i64 a0_1) := (blk_cell BK109.out 1).trans rfl; have hcz7_2 : w6.cell? ⟨gb109, 2, none⟩ = some (.int .i64 a0_2) := (blk_cell BK109.out 2).trans rfl; have hfz7_0 := blk_frozen BK109.out 0; have hfz7_1 := blk_frozen BK109.out 1; have hfz7_2 := blk_frozen BK109.out 2) | (go_at_call 68; (with_reducible refine (iceboxref1_Number.calls a0_1 true _ A3.out).mono ?_); rintro e w' ⟨rfl, ⟨nd, rfl⟩⟩))
    go_ret
    exact ⟨by first | rfl | (simp [errW_none, errW_some] <;> rfl) | (simp [*, errW_none, errW_some] <;> rfl), by repeat (first | (with_reducible first | exact HB.out | apply below_alloc | apply pw_below_drewN | apply below_drew1 | refine below_set ?_ GE109.out) | exact HB.out | exact Below.refl _ _)⟩
   ·
    rw [if_neg c5] at H
    have c5b0 : (a0_2 == 1) = false := beq_eq_false_iff_ne.mpr c5
    have c5b1 : (a0_2 != 1) = true := bne_iff_ne.mpr c5
    obtain rfl := Option.some.inj H
    go_enter Try.func63, Try.ntmps63
    go_wp2_with (first | ((with_reducible refine gate_dst (N := 1) rfl ?_); refine box_event ?hg (N := 1) ?hd (cs := #[.string a0_0, .int .i64 a0_1, .int .i64 a0_2]) (t := 29) ?hr ?_; (case hd => rfl); (case hg => rfl); (case hr => first | (go_simp; done) | (go_simp; rfl)); intro gb109 hg w8 hbox hb; have n0_ := Aside0.mk (below_step (by repeat (first | (with_reducible first | exact HB.out | apply below_alloc | apply pw_below_drewN | apply below_drew1) | exact HB.out | exact Below.refl _ _)) hb); have n1_ := Aside0.mk (hbox); have n2_ := Aside0.mk ((by rw [hg]; exact (below_size (by repeat (first | (with_reducible first | exact HB.out | apply below_alloc | apply pw_below_drewN | apply below_drew1) | exact HB.out | exact Below.refl _ _))) : w.heap.size ≤ gb109)); have n3_ := Aside0.mk ((by rw [hg]; exact (below_size (by repeat (first | (with_reducible first | exact HB.out | apply below_alloc | apply pw_below_drewN | apply below_drew1) | exact HB.out | exact Below.refl _ _))) : w.heap.size ≤ gb109)); clear HB; have HB := n0_; have BK109 := n1_; have GW109 := n2_; have GE109 := n3_; clear n0_ n1_ n2_ n3_; clear hb hbox hg; have hcz9_0 : w8.cell? ⟨gb109, 0, none⟩ = some (.string a0_0) := (blk_cell BK109.out 0).trans rfl; have hcz9_1 : w8.cell? ⟨gb109, 1, none⟩ = some (.int .i64 a0_1) := (blk_cell BK109.out 1).trans rfl; have hcz9_2 : w8.cell? ⟨gb109, 2, none⟩ = some (.int .i64 a0_2) := (blk_cell BK109.out 2).trans rfl; have hfz9_0 := blk_frozen BK109.out 0; have hfz9_1 := blk_frozen BK109.out 1; have hfz9_2 := blk_frozen BK109.out 2) | (go_at_call 68; (with_reducible refine (iceboxref1_Number.calls a0_1 true _ A3.out).mono ?_); rintro e w' ⟨rfl, ⟨nd, rfl⟩⟩))
    go_ret
    exact ⟨by first | rfl | (simp [errW_none, errW_some] <;> rfl) | (simp [*, errW_none, errW_some] <;> rfl), by repeat (first | (with_reducible first | exact HB.out | apply below_alloc | apply pw_below_drewN | apply below_drew1 | refine below_set ?_ GE109.out) | exact HB.out | exact Below.refl _ _)⟩
  ·
   replace c4 := Bool.eq_false_iff.mpr c4
   subst c4
   have H1 : (some false) = some r := by rw [if_neg (show ¬ (false = true) by decide)] at H; exact H
   clear H
   have H := H1
   clear H1
   obtain rfl := Option.some.inj H
   go_enter Try.func63, Try.ntmps63
   go_wp2_with (first | ((with_reducible refine gate_dst (N := 1) rfl ?_); refine box_event ?hg (N := 1) ?hd (cs := #[.string a0_0, .int .i64 a0_1, .int .i64 a0_2]) (t := 29) ?hr ?_; (case hd => rfl); (case hg => rfl); (case hr => first | (go_simp; done) | (go_simp; rfl)); intro gb109 hg w10 hbox hb; have n0_ := Aside0.mk (below_step (by repeat (first | (with_reducible first | exact HB.out | apply below_alloc | apply pw_below_drewN | apply below_drew1) | exact HB.out | exact Below.refl _ _)) hb); have n1_ := Aside0.mk (hbox); have n2_ := Aside0.mk ((by rw [hg]; exact (below_size (by repeat (first | (with_reducible first | exact HB.out | apply below_alloc | apply pw_below_drewN | apply below_drew1) | exact HB.out | exact Below.refl _ _))) : w.heap.size ≤ gb109)); have n3_ := Aside0.mk ((by rw [hg]; exact (below_size (by repeat (first | (with_reducible first | exact HB.out | apply below_alloc | apply pw_below_drewN | apply below_drew1) | exact HB.out | exact Below.refl _ _))) : w.heap.size ≤ gb109)); clear HB; have HB := n0_; have BK109 := n1_; have GW109 := n2_; have GE109 := n3_; clear n0_ n1_ n2_ n3_; clear hb hbox hg; have hcz11_0 : w10.cell? ⟨gb109, 0, none⟩ = some (.string a0_0) := (blk_cell BK109.out 0).trans rfl; have hcz11_1 : w10.cell? ⟨gb109, 1, none⟩ = some (.int .i64 a0_1) := (blk_cell BK109.out 1).trans rfl; have hcz11_2 : w10.cell? ⟨gb109, 2, none⟩ = some (.int .i64 a0_2) := (blk_cell BK109.out 2).trans rfl; have hfz11_0 := blk_frozen BK109.out 0; have hfz11_1 := blk_frozen BK109.out 1; have hfz11_2 := blk_frozen BK109.out 2) | (go_at_call 68; (with_reducible refine (iceboxref1_Number.calls a0_1 false _ A3.out).mono ?_); rintro e w' ⟨rfl, ⟨nd, rfl⟩⟩))
   go_ret
   exact ⟨by first | rfl | (simp [errW_none, errW_some] <;> rfl) | (simp [*, errW_none, errW_some] <;> rfl), by repeat (first | (with_reducible first | exact HB.out | apply below_alloc | apply pw_below_drewN | apply below_drew1 | refine below_set ?_ GE109.out) | exact HB.out | exact Below.refl _ _)⟩
 ·
  rw [if_neg c2] at H
  have c2b0 : decide ((a0_0.size : Int) ≤ 64) = false := decide_eq_false c2
  have c2b1 : decide (a0_0.size ≤ 64) = false := decide_eq_false (by omega)
  clear c2
  obtain rfl := Option.some.inj H
  go_enter Try.func63, Try.ntmps63
  go_wp2_with (first | ((with_reducible refine gate_dst (N := 1) rfl ?_); refine box_event ?hg (N := 1) ?hd (cs := #[.string a0_0, .int .i64 a0_1, .int .i64 a0_2]) (t := 29) ?hr ?_; (case hd => rfl); (case hg => rfl); (case hr => first | (go_simp; done) | (go_simp; rfl)); intro gb109 hg w12 hbox hb; have n0_ := Aside0.mk (below_step (by repeat (first | (with_reducible first | exact HB.out | apply below_alloc | apply pw_below_drewN | apply below_drew1) | exact HB.out | exact Below.refl _ _)) hb); have n1_ := Aside0.mk (hbox); have n2_ := Aside0.mk ((by rw [hg]; exact (below_size (by repeat (first | (with_reducible first | exact HB.out | apply below_alloc | apply pw_below_drewN | apply below_drew1) | exact HB.out | exact Below.refl _ _))) : w.heap.size ≤ gb109)); have n3_ := Aside0.mk ((by rw [hg]; exact (below_size (by repeat (first | (with_reducible first | exact HB.out | apply below_alloc | apply pw_below_drewN | apply below_drew1) | exact HB.out | exact Below.refl _ _))) : w.heap.size ≤ gb109)); clear HB; have HB := n0_; have BK109 := n1_; have GW109 := n2_; have GE109 := n3_; clear n0_ n1_ n2_ n3_; clear hb hbox hg; have hcz13_0 : w12.cell? ⟨gb109, 0, none⟩ = some (.string a0_0) := (blk_cell BK109.out 0).trans rfl; have hcz13_1 : w12.cell? ⟨gb109, 1, none⟩ = some (.int .i64 a0_1) := (blk_cell BK109.out 1).trans rfl; have hcz13_2 : w12.cell? ⟨gb109, 2, none⟩ = some (.int .i64 a0_2) := (blk_cell BK109.out 2).trans rfl; have hfz13_0 := blk_frozen BK109.out 0; have hfz13_1 := blk_frozen BK109.out 1; have hfz13_2 := blk_frozen BK109.out 2))
  go_ret
  exact ⟨by first | rfl | (simp [errW_none, errW_some] <;> rfl) | (simp [*, errW_none, errW_some] <;> rfl), by repeat (first | (with_reducible first | exact HB.out | apply below_alloc | apply pw_below_drewN | apply below_drew1 | refine below_set ?_ GE109.out) | exact HB.out | exact Below.refl _ _)⟩

/-! ### iceboxref1_MayEntry: function 57 -/
def iceboxref1_MayEntry.f (a0_0 : ByteArray) (a0_1 : Int) (a0_2 : Int) (a0_3 : ByteArray) : Option (Bool) := (iceboxref1_MayKey.f a0_0 a0_1 a0_2).bind fun t112 => (if t112 = true then (if (a0_3.size : Int) ≤ 512 then (if a0_2 = 1 then (some true) else (some (a0_3.toList == ([] : List UInt8)))) else (some false)) else (some false))
set_option maxHeartbeats 80000000 in
set_option maxRecDepth 100000 in
theorem iceboxref1_MayEntry.calls (a0_0 : ByteArray) (a0_1 : Int) (a0_2 : Int) (a0_3 : ByteArray) (r : Bool) (w : World) (h : iceboxref1_MayEntry.f a0_0 a0_1 a0_2 a0_3 = some r) :
 Calls Try.prog 57 #[.agg #[.string a0_0, .int .i64 a0_1, .int .i64 a0_2, .string a0_3]] w fun e w' => e = .returned (.bool r) ∧ Below w.heap.size w w' := by
 have hu31 := Try.underlying31
 have hu29 := Try.underlying29
 have HB := Aside0.mk (Below.refl w.heap.size w)
 have H : ((iceboxref1_MayKey.f a0_0 a0_1 a0_2).bind fun t112 => (if t112 = true then (if (a0_3.size : Int) ≤ 512 then (if a0_2 = 1 then (some true) else (some (a0_3.toList == ([] : List UInt8)))) else (some false)) else (some false))) = some r := h
 clear h
 replace H := Option.bind_eq_some_iff.mp H
 obtain ⟨t112, A20, H⟩ := H
 replace H : (if t112 = true then (if (a0_3.size : Int) ≤ 512 then (if a0_2 = 1 then (some true) else (some (a0_3.toList == ([] : List UInt8)))) else (some false)) else (some false)) = some r := H
 have A2 := Aside0.mk A20
 clear A20
 by_cases c3 : t112 = true
 ·
  subst c3
  have H1 : (if (a0_3.size : Int) ≤ 512 then (if a0_2 = 1 then (some true) else (some (a0_3.toList == ([] : List UInt8)))) else (some false)) = some r := by rw [if_pos rfl] at H; exact H
  clear H
  have H := H1
  clear H1
  by_cases c4 : (a0_3.size : Int) ≤ 512
  ·
   rw [if_pos c4] at H
   have c4b0 : decide ((a0_3.size : Int) ≤ 512) = true := decide_eq_true c4
   have c4b1 : decide (a0_3.size ≤ 512) = true := decide_eq_true (by omega)
   clear c4
   by_cases c5 : a0_2 = 1
   ·
    rw [if_pos c5] at H
    have c5b0 : (a0_2 == 1) = true := beq_iff_eq.mpr c5
    have c5b1 : (a0_2 != 1) = false := bne_eq_false_iff_eq.mpr c5
    clear c5
    obtain rfl := Option.some.inj H
    go_enter Try.func57, Try.ntmps57
    go_wp2_with (first | ((with_reducible refine gate_dst (N := 1) rfl ?_); (try (refine gate_guard (by rfl) ?_; dsimp only)); refine box_event ?hg (N := 1) ?hd (cs := #[.string a0_0, .int .i64 a0_1, .int .i64 a0_2, .string a0_3]) (t := 31) ?hr ?_; (case hd => rfl); (case hg => rfl); (case hr => first | (go_simp; done) | (go_simp; rfl)); intro gb111 hg w6 hbox hb; have n0_ := Aside0.mk (below_step (by repeat (first | (with_reducible first | exact HB.out | apply below_alloc | apply pw_below_drewN | apply below_drew1) | exact HB.out | exact Below.refl _ _)) hb); have n1_ := Aside0.mk (hbox); have n2_ := Aside0.mk ((by rw [hg]; exact (below_size (by repeat (first | (with_reducible first | exact HB.out | apply below_alloc | apply pw_below_drewN | apply below_drew1) | exact HB.out | exact Below.refl _ _))) : w.heap.size ≤ gb111)); have n3_ := Aside0.mk ((by rw [hg]; exact (below_size (by repeat (first | (with_reducible first | exact HB.out | apply below_alloc | apply pw_below_drewN | apply below_drew1) | exact HB.out | exact Below.refl _ _))) : w.heap.size ≤ gb111)); clear HB; have HB := n0_; have BK111 := n1_; have GW111 := n2_; have GE111 := n3_; clear n0_ n1_ n2_ n3_; clear hb hbox hg; have hcz7_0 : w6.cell? ⟨gb111, 0, none⟩ = some (.string a0_0) := (blk_cell BK111.out 0).trans rfl; have hcz7_1 : w6.cell? ⟨gb111, 1, none⟩ = some (.int .i64 a0_1) := (blk_cell BK111.out 1).trans rfl; have hcz7_2 : w6.cell? ⟨gb111, 2, none⟩ = some (.int .i64 a0_2) := (blk_cell BK111.out 2).trans rfl; have hcz7_3 : w6.cell? ⟨gb111, 3, none⟩ = some (.string a0_3) := (blk_cell BK111.out 3).trans rfl; have hfz7_0 := blk_frozen BK111.out 0; have hfz7_1 := blk_frozen BK111.out 1; have hfz7_2 := blk_frozen BK111.out 2; have hfz7_3 := blk_frozen BK111.out 3) | ((with_reducible refine gate_callee (f := 63) rfl ?_); refine goesL_ (some 5) rfl rfl Try.func63 (by kernel_rfl) rfl #[.agg #[.string a0_0, .int .i64 a0_1, .int .i64 a0_2]] rfl (by (try simp only [List.map_toArray, List.map_cons, List.map_nil]); first | done | rfl | (simp only [List.length_drop, List.length_take]; rfl)) ?_; (with_reducible refine (iceboxref1_MayKey.calls a0_0 a0_1 a0_2 true _ A2.out).mono ?_); rintro e w8 ⟨rfl, hb⟩; refine ⟨_, rfl, ?_⟩; have n0_ := Aside0.mk (blk_below (g := gb111) (o := .cells #[.string a0_0, .int .i64 a0_1, .int .i64 a0_2, .string a0_3] 31 (0, 0)) (by (with_reducible repeat (first | refine blk_drewN ?_ _ | refine blk_drew ?_ | refine blk_alloc ?_ _)); exact BK111.out) hb); have n1_ := Aside0.mk (below_step (by repeat (first | (with_reducible first | exact HB.out | apply below_alloc | apply pw_below_drewN | apply below_drew1 | refine below_set ?_ GE111.out) | exact HB.out | exact Below.refl _ _)) hb); clear BK111; clear HB; have BK111 := n0_; have HB := n1_; clear n0_ n1_; (try clear hb); (try clear hb2); (try clear hk); (try clear hi); have hcz9_0 : w8.cell? ⟨gb111, 0, none⟩ = some (.string a0_0) := (blk_cell BK111.out 0).trans rfl; have hcz9_1 : w8.cell? ⟨gb111, 1, none⟩ = some (.int .i64 a0_1) := (blk_cell BK111.out 1).trans rfl; have hcz9_2 : w8.cell? ⟨gb111, 2, none⟩ = some (.int .i64 a0_2) := (blk_cell BK111.out 2).trans rfl; have hcz9_3 : w8.cell? ⟨gb111, 3, none⟩ = some (.string a0_3) := (blk_cell BK111.out 3).trans rfl; have hfz9_0 := blk_frozen BK111.out 0; have hfz9_1 := blk_frozen BK111.out 1; have hfz9_2 := blk_frozen BK111.out 2; have hfz9_3 := blk_frozen BK111.out 3))
    go_ret
    exact ⟨by first | rfl | (simp [errW_none, errW_some] <;> rfl) | (simp [*, errW_none, errW_some] <;> rfl), by repeat (first | (with_reducible first | exact HB.out | apply below_alloc | apply pw_below_drewN | apply below_drew1 | refine below_set ?_ GE111.out) | exact HB.out | exact Below.refl _ _)⟩
   ·
    rw [if_neg c5] at H
    have c5b0 : (a0_2 == 1) = false := beq_eq_false_iff_ne.mpr c5
    have c5b1 : (a0_2 != 1) = true := bne_iff_ne.mpr c5
    obtain rfl := Option.some.inj H
    go_enter Try.func57, Try.ntmps57
    go_wp2_with (first | ((with_reducible refine gate_dst (N := 1) rfl ?_); (try (refine gate_guard (by rfl) ?_; dsimp only)); refine box_event ?hg (N := 1) ?hd (cs := #[.string a0_0, .int .i64 a0_1, .int .i64 a0_2, .string a0_3]) (t := 31) ?hr ?_; (case hd => rfl); (case hg => rfl); (case hr => first | (go_simp; done) | (go_simp; rfl)); intro gb111 hg w10 hbox hb; have n0_ := Aside0.mk (below_step (by repeat (first | (with_reducible first | exact HB.out | apply below_alloc | apply pw_below_drewN | apply below_drew1) | exact HB.out | exact Below.refl _ _)) hb); have n1_ := Aside0.mk (hbox); have n2_ := Aside0.mk ((by rw [hg]; exact (below_size (by repeat (first | (with_reducible first | exact HB.out | apply below_alloc | apply pw_below_drewN | apply below_drew1) | exact HB.out | exact Below.refl _ _))) : w.heap.size ≤ gb111)); have n3_ := Aside0.mk ((by rw [hg]; exact (below_size (by repeat (first | (with_reducible first | exact HB.out | apply below_alloc | apply pw_below_drewN | apply below_drew1) | exact HB.out | exact Below.refl _ _))) : w.heap.size ≤ gb111)); clear HB; have HB := n0_; have BK111 := n1_; have GW111 := n2_; have GE111 := n3_; clear n0_ n1_ n2_ n3_; clear hb hbox hg; have hcz11_0 : w10.cell? ⟨gb111, 0, none⟩ = some (.string a0_0) := (blk_cell BK111.out 0).trans rfl; have hcz11_1 : w10.cell? ⟨gb111, 1, none⟩ = some (.int .i64 a0_1) := (blk_cell BK111.out 1).trans rfl; have hcz11_2 : w10.cell? ⟨gb111, 2, none⟩ = some (.int .i64 a0_2) := (blk_cell BK111.out 2).trans rfl; have hcz11_3 : w10.cell? ⟨gb111, 3, none⟩ = some (.string a0_3) := (blk_cell BK111.out 3).trans rfl; have hfz11_0 := blk_frozen BK111.out 0; have hfz11_1 := blk_frozen BK111.out 1; have hfz11_2 := blk_frozen BK111.out 2; have hfz11_3 := blk_frozen BK111.out 3) | ((with_reducible refine gate_callee (f := 63) rfl ?_); refine goesL_ (some 5) rfl rfl Try.func63 (by kernel_rfl) rfl #[.agg #[.string a0_0, .int .i64 a0_1, .int .i64 a0_2]] rfl (by (try simp only [List.map_toArray, List.map_cons, List.map_nil]); first | done | rfl | (simp only [List.length_drop, List.length_take]; rfl)) ?_; (with_reducible refine (iceboxref1_MayKey.calls a0_0 a0_1 a0_2 true _ A2.out).mono ?_); rintro e w12 ⟨rfl, hb⟩; refine ⟨_, rfl, ?_⟩; have n0_ := Aside0.mk (blk_below (g := gb111) (o := .cells #[.string a0_0, .int .i64 a0_1, .int .i64 a0_2, .string a0_3] 31 (0, 0)) (by (with_reducible repeat (first | refine blk_drewN ?_ _ | refine blk_drew ?_ | refine blk_alloc ?_ _)); exact BK111.out) hb); have n1_ := Aside0.mk (below_step (by repeat (first | (with_reducible first | exact HB.out | apply below_alloc | apply pw_below_drewN | apply below_drew1 | refine below_set ?_ GE111.out) | exact HB.out | exact Below.refl _ _)) hb); clear BK111; clear HB; have BK111 := n0_; have HB := n1_; clear n0_ n1_; (try clear hb); (try clear hb2); (try clear hk); (try clear hi); have hcz13_0 : w12.cell? ⟨gb111, 0, none⟩ = some (.string a0_0) := (blk_cell BK111.out 0).trans rfl; have hcz13_1 : w12.cell? ⟨gb111, 1, none⟩ = some (.int .i64 a0_1) := (blk_cell BK111.out 1).trans rfl; have hcz13_2 : w12.cell? ⟨gb111, 2, none⟩ = some (.int .i64 a0_2) := (blk_cell BK111.out 2).trans rfl; have hcz13_3 : w12.cell? ⟨gb111, 3, none⟩ = some (.string a0_3) := (blk_cell BK111.out 3).trans rfl; have hfz13_0 := blk_frozen BK111.out 0; have hfz13_1 := blk_frozen BK111.out 1; have hfz13_2 := blk_frozen BK111.out 2; have hfz13_3 := blk_frozen BK111.out 3))
    go_ret
    exact ⟨by first | rfl | (simp [errW_none, errW_some] <;> rfl) | (simp [*, errW_none, errW_some] <;> rfl), by repeat (first | (with_reducible first | exact HB.out | apply below_alloc | apply pw_below_drewN | apply below_drew1 | refine below_set ?_ GE111.out) | exact HB.out | exact Below.refl _ _)⟩
  ·
   rw [if_neg c4] at H
   have c4b0 : decide ((a0_3.size : Int) ≤ 512) = false := decide_eq_false c4
   have c4b1 : decide (a0_3.size ≤ 512) = false := decide_eq_false (by omega)
   clear c4
   obtain rfl := Option.some.inj H
   go_enter Try.func57, Try.ntmps57
   go_wp2_with (first | ((with_reducible refine gate_dst (N := 1) rfl ?_); (try (refine gate_guard (by rfl) ?_; dsimp only)); refine box_event ?hg (N := 1) ?hd (cs := #[.string a0_0, .int .i64 a0_1, .int .i64 a0_2, .string a0_3]) (t := 31) ?hr ?_; (case hd => rfl); (case hg => rfl); (case hr => first | (go_simp; done) | (go_simp; rfl)); intro gb111 hg w14 hbox hb; have n0_ := Aside0.mk (below_step (by repeat (first | (with_reducible first | exact HB.out | apply below_alloc | apply pw_below_drewN | apply below_drew1) | exact HB.out | exact Below.refl _ _)) hb); have n1_ := Aside0.mk (hbox); have n2_ := Aside0.mk ((by rw [hg]; exact (below_size (by repeat (first | (with_reducible first | exact HB.out | apply below_alloc | apply pw_below_drewN | apply below_drew1) | exact HB.out | exact Below.refl _ _))) : w.heap.size ≤ gb111)); have n3_ := Aside0.mk ((by rw [hg]; exact (below_size (by repeat (first | (with_reducible first | exact HB.out | apply below_alloc | apply pw_below_drewN | apply below_drew1) | exact HB.out | exact Below.refl _ _))) : w.heap.size ≤ gb111)); clear HB; have HB := n0_; have BK111 := n1_; have GW111 := n2_; have GE111 := n3_; clear n0_ n1_ n2_ n3_; clear hb hbox hg; have hcz15_0 : w14.cell? ⟨gb111, 0, none⟩ = some (.string a0_0) := (blk_cell BK111.out 0).trans rfl; have hcz15_1 : w14.cell? ⟨gb111, 1, none⟩ = some (.int .i64 a0_1) := (blk_cell BK111.out 1).trans rfl; have hcz15_2 : w14.cell? ⟨gb111, 2, none⟩ = some (.int .i64 a0_2) := (blk_cell BK111.out 2).trans rfl; have hcz15_3 : w14.cell? ⟨gb111, 3, none⟩ = some (.string a0_3) := (blk_cell BK111.out 3).trans rfl; have hfz15_0 := blk_frozen BK111.out 0; have hfz15_1 := blk_frozen BK111.out 1; have hfz15_2 := blk_frozen BK111.out 2; have hfz15_3 := blk_frozen BK111.out 3) | ((with_reducible refine gate_callee (f := 63) rfl ?_); refine goesL_ (some 5) rfl rfl Try.func63 (by kernel_rfl) rfl #[.agg #[.string a0_0, .int .i64 a0_1, .int .i64 a0_2]] rfl (by (try simp only [List.map_toArray, List.map_cons, List.map_nil]); first | done | rfl | (simp only [List.length_drop, List.length_take]; rfl)) ?_; (with_reducible refine (iceboxref1_MayKey.calls a0_0 a0_1 a0_2 true _ A2.out).mono ?_); rintro e w16 ⟨rfl, hb⟩; refine ⟨_, rfl, ?_⟩; have n0_ := Aside0.mk (blk_below (g := gb111) (o := .cells #[.string a0_0, .int .i64 a0_1, .int .i64 a0_2, .string a0_3] 31 (0, 0)) (by (with_reducible repeat (first | refine blk_drewN ?_ _ | refine blk_drew ?_ | refine blk_alloc ?_ _)); exact BK111.out) hb); have n1_ := Aside0.mk (below_step (by repeat (first | (with_reducible first | exact HB.out | apply below_alloc | apply pw_below_drewN | apply below_drew1 | refine below_set ?_ GE111.out) | exact HB.out | exact Below.refl _ _)) hb); clear BK111; clear HB; have BK111 := n0_; have HB := n1_; clear n0_ n1_; (try clear hb); (try clear hb2); (try clear hk); (try clear hi); have hcz17_0 : w16.cell? ⟨gb111, 0, none⟩ = some (.string a0_0) := (blk_cell BK111.out 0).trans rfl; have hcz17_1 : w16.cell? ⟨gb111, 1, none⟩ = some (.int .i64 a0_1) := (blk_cell BK111.out 1).trans rfl; have hcz17_2 : w16.cell? ⟨gb111, 2, none⟩ = some (.int .i64 a0_2) := (blk_cell BK111.out 2).trans rfl; have hcz17_3 : w16.cell? ⟨gb111, 3, none⟩ = some (.string a0_3) := (blk_cell BK111.out 3).trans rfl; have hfz17_0 := blk_frozen BK111.out 0; have hfz17_1 := blk_frozen BK111.out 1; have hfz17_2 := blk_frozen BK111.out 2; have hfz17_3 := blk_frozen BK111.out 3))
   go_ret
   exact ⟨by first | rfl | (simp [errW_none, errW_some] <;> rfl) | (simp [*, errW_none, errW_some] <;> rfl), by repeat (first | (with_reducible first | exact HB.out | apply below_alloc | apply pw_below_drewN | apply below_drew1 | refine below_set ?_ GE111.out) | exact HB.out | exact Below.refl _ _)⟩
 ·
  replace c3 := Bool.eq_false_iff.mpr c3
  subst c3
  have H1 : (some false) = some r := by rw [if_neg (show ¬ (false = true) by decide)] at H; exact H
  clear H
  have H := H1
  clear H1
  obtain rfl := Option.some.inj H
  go_enter Try.func57, Try.ntmps57
  go_wp2_with (first | ((with_reducible refine gate_dst (N := 1) rfl ?_); (try (refine gate_guard (by rfl) ?_; dsimp only)); refine box_event ?hg (N := 1) ?hd (cs := #[.string a0_0, .int .i64 a0_1, .int .i64 a0_2, .string a0_3]) (t := 31) ?hr ?_; (case hd => rfl); (case hg => rfl); (case hr => first | (go_simp; done) | (go_simp; rfl)); intro gb111 hg w18 hbox hb; have n0_ := Aside0.mk (below_step (by repeat (first | (with_reducible first | exact HB.out | apply below_alloc | apply pw_below_drewN | apply below_drew1) | exact HB.out | exact Below.refl _ _)) hb); have n1_ := Aside0.mk (hbox); have n2_ := Aside0.mk ((by rw [hg]; exact (below_size (by repeat (first | (with_reducible first | exact HB.out | apply below_alloc | apply pw_below_drewN | apply below_drew1) | exact HB.out | exact Below.refl _ _))) : w.heap.size ≤ gb111)); have n3_ := Aside0.mk ((by rw [hg]; exact (below_size (by repeat (first | (with_reducible first | exact HB.out | apply below_alloc | apply pw_below_drewN | apply below_drew1) | exact HB.out | exact Below.refl _ _))) : w.heap.size ≤ gb111)); clear HB; have HB := n0_; have BK111 := n1_; have GW111 := n2_; have GE111 := n3_; clear n0_ n1_ n2_ n3_; clear hb hbox hg; have hcz19_0 : w18.cell? ⟨gb111, 0, none⟩ = some (.string a0_0) := (blk_cell BK111.out 0).trans rfl; have hcz19_1 : w18.cell? ⟨gb111, 1, none⟩ = some (.int .i64 a0_1) := (blk_cell BK111.out 1).trans rfl; have hcz19_2 : w18.cell? ⟨gb111, 2, none⟩ = some (.int .i64 a0_2) := (blk_cell BK111.out 2).trans rfl; have hcz19_3 : w18.cell? ⟨gb111, 3, none⟩ = some (.string a0_3) := (blk_cell BK111.out 3).trans rfl; have hfz19_0 := blk_frozen BK111.out 0; have hfz19_1 := blk_frozen BK111.out 1; have hfz19_2 := blk_frozen BK111.out 2; have hfz19_3 := blk_frozen BK111.out 3) | ((with_reducible refine gate_callee (f := 63) rfl ?_); refine goesL_ (some 5) rfl rfl Try.func63 (by kernel_rfl) rfl #[.agg #[.string a0_0, .int .i64 a0_1, .int .i64 a0_2]] rfl (by (try simp only [List.map_toArray, List.map_cons, List.map_nil]); first | done | rfl | (simp only [List.length_drop, List.length_take]; rfl)) ?_; (with_reducible refine (iceboxref1_MayKey.calls a0_0 a0_1 a0_2 false _ A2.out).mono ?_); rintro e w20 ⟨rfl, hb⟩; refine ⟨_, rfl, ?_⟩; have n0_ := Aside0.mk (blk_below (g := gb111) (o := .cells #[.string a0_0, .int .i64 a0_1, .int .i64 a0_2, .string a0_3] 31 (0, 0)) (by (with_reducible repeat (first | refine blk_drewN ?_ _ | refine blk_drew ?_ | refine blk_alloc ?_ _)); exact BK111.out) hb); have n1_ := Aside0.mk (below_step (by repeat (first | (with_reducible first | exact HB.out | apply below_alloc | apply pw_below_drewN | apply below_drew1 | refine below_set ?_ GE111.out) | exact HB.out | exact Below.refl _ _)) hb); clear BK111; clear HB; have BK111 := n0_; have HB := n1_; clear n0_ n1_; (try clear hb); (try clear hb2); (try clear hk); (try clear hi)))
  go_ret
  exact ⟨by first | rfl | (simp [errW_none, errW_some] <;> rfl) | (simp [*, errW_none, errW_some] <;> rfl), by repeat (first | (with_reducible first | exact HB.out | apply below_alloc | apply pw_below_drewN | apply below_drew1 | refine below_set ?_ GE111.out) | exact HB.out | exact Below.refl _ _)⟩

-- NOT PRINTED: function 41 (iceboxref10_Mem_Add)

/-! ### iceboxlaw12_Make: function 15 -/
theorem Mem_eqA29 (d : Nat) (w : World) (x0 y0 : ByteArray) (x1 y1 : Int) (x2 y2 : Int) :
 (Op.equalIn (d + 2) 29 (.agg #[.string x0, .int .i64 x1, .int .i64 x2]) (.agg #[.string y0, .int .i64 y1, .int .i64 y2])).run Try.prog w = .ok (x0.toList == y0.toList && (x1 == y1 && (x2 == y2))) w := by
 refine eqA_of Try.underlying29 (by kernel_rfl) ?_
 refine eqf_cons (by rfl) (by go_simp; rfl) (by go_simp; rfl) (by go_simp) ?_
 refine eqf_cons (by rfl) (by go_simp; rfl) (by go_simp; rfl) (by go_simp) ?_
 exact eqf_last (by rfl) (by go_simp; rfl) (by go_simp; rfl) (by go_simp)
attribute [local go_sem high] Mem_eqA29
theorem Mem_facts {g gb : Nat} {V : Value} {u v : ByteArray} {s d : Int} {wx wa : World} (hb : Below wx.heap.size wx wa) (hg : wx.heap[g]? = some (.cells #[V] 61 (0, 0))) (he : wx.heap[gb]? = some (.cells #[.string u, .int .i64 s, .int .i64 d, .string v] 31 (0, 0))) :
 wa.cell? ⟨g, 0, none⟩ = some V ∧ wa.frozen? ⟨g, 0, none⟩ = false ∧ wa.cell? ⟨gb, 0, none⟩ = some (.string u) ∧ wa.cell? ⟨gb, 1, none⟩ = some (.int .i64 s) ∧ wa.cell? ⟨gb, 2, none⟩ = some (.int .i64 d) ∧ wa.cell? ⟨gb, 3, none⟩ = some (.string v) :=
 ⟨(blk_cell (blk_below hg hb) 0).trans rfl, blk_frozen (blk_below hg hb) 0, (blk_cell (blk_below he hb) 0).trans rfl, (blk_cell (blk_below he hb) 1).trans rfl, (blk_cell (blk_below he hb) 2).trans rfl, (blk_cell (blk_below he hb) 3).trans rfl⟩
def Mem_same (x : S31) (u : ByteArray) (s d : Int) : Bool := (x.f0.f0.toList == u.toList && (x.f0.f1 == s && (x.f0.f2 == d)))
def Mem_below (x : S31) (u : ByteArray) (s d : Int) : Bool := decide (((iceboxref1_Cmp.f x.f0.f0 x.f0.f1 x.f0.f2 u s d).getD 0) < 0)
theorem Mem_cmp (x : S31) (u : ByteArray) (s d : Int) : ∃ t, iceboxref1_Cmp.f x.f0.f0 x.f0.f1 x.f0.f2 u s d = some t ∧ (Mem_below x u s d = decide (t < 0)) := by
 have : ∃ t, iceboxref1_Cmp.f x.f0.f0 x.f0.f1 x.f0.f2 u s d = some t := by
  unfold iceboxref1_Cmp.f; repeat' split
  all_goals exact ⟨_, rfl⟩
 obtain ⟨t, h⟩ := this
 exact ⟨t, h, by unfold Mem_below; rw [h]; rfl⟩
def Mem_at (u : ByteArray) (s d : Int) : List S31 → Nat
 | [] => 0
 | x :: L => if Mem_below x u s d = true then Mem_at u s d L + 1 else 0
theorem rd31e (L : List S31) (k : Nat) (h : k < L.length) : rd_T31 L (k : Int) = L[k] := by
 unfold rd_T31
 rw [Int.toNat_natCast, List.getD_eq_getElem?_getD, List.getElem?_eq_getElem h]; rfl
theorem Mem_at_le (u : ByteArray) (s d : Int) : ∀ L, Mem_at u s d L ≤ L.length
 | [] => Nat.le_refl _
 | x :: L => by rw [Mem_at]; have := Mem_at_le u s d L; split <;> simp <;> omega
theorem Mem_at_lt (u : ByteArray) (s d : Int) : ∀ (L : List S31) (k : Nat), k < Mem_at u s d L → Mem_below (rd_T31 L (k : Int)) u s d = true
 | [], k, h => by simp [Mem_at] at h
 | x :: L, 0, h => by
  rw [Mem_at] at h
  by_cases c : Mem_below x u s d = true
  · exact c
  · rw [if_neg c] at h; omega
 | x :: L, k + 1, h => by
  rw [Mem_at] at h
  by_cases c : Mem_below x u s d = true
  ·
   rw [if_pos c] at h
   have := Mem_at_lt u s d L k (by omega)
   have hk : k < L.length := by have := Mem_at_le u s d L; omega
   rw [rd31e (x :: L) (k + 1) (by simp; omega)]
   rw [rd31e L k hk] at this; exact this
  · rw [if_neg c] at h; omega
theorem Mem_at_eq (u : ByteArray) (s d : Int) : ∀ (L : List S31), Mem_at u s d L < L.length → Mem_below (rd_T31 L (Mem_at u s d L : Int)) u s d = false
 | [], h => by simp [Mem_at] at h
 | x :: L, h => by
  by_cases c : Mem_below x u s d = true
  ·
   have e : Mem_at u s d (x :: L) = Mem_at u s d L + 1 := by rw [Mem_at, if_pos c]
   rw [e] at h ⊢
   simp only [List.length_cons] at h
   have := Mem_at_eq u s d L (by omega)
   rw [rd31e (x :: L) _ (by simp; omega)]
   rw [rd31e L _ (by omega)] at this; exact this
  ·
   have e : Mem_at u s d (x :: L) = 0 := by rw [Mem_at, if_neg c]
   rw [e, rd31e (x :: L) 0 (by simp)]
   exact Bool.eq_false_iff.2 c
set_option maxHeartbeats 4000000 in
set_option maxRecDepth 100000 in
theorem add_no (g : Nat) (u : ByteArray) (s d : Int) (v : ByteArray) (w : World) (h : iceboxref1_MayEntry.f u s d v = some false) :
 Calls Try.prog 41 #[.pointer (some ⟨g, 0, none⟩), .agg #[.string u, .int .i64 s, .int .i64 d, .string v]] w fun e w' => e = .returned (.bool false) ∧ Below w.heap.size w w' := by
 have hu31 := Try.underlying31
 have hu29 := Try.underlying29
 have H := Aside0.mk h
 clear h
 go_enter Try.func41, Try.ntmps41
 go_wp2_with (first | (go_at_call 57; refine (iceboxref1_MayEntry.calls u s d v false _ H.out).mono ?_; rintro e w' ⟨rfl, hb⟩; have HB1 := Aside0.mk hb; clear hb))
 go_ret
 exact ⟨rfl, below_then (below_alloc (Below.refl _ _) _) (by simp) HB1.out⟩
set_option maxHeartbeats 4000000 in
set_option maxRecDepth 100000 in
theorem add_eq (g : Nat) (vL : Value) (L : List S31) (u : ByteArray) (s d : Int) (v : ByteArray) (w0 w : World) (hB : Below w0.heap.size w0 w)
 (hg : w.heap[g]? = some (.cells #[vL] 61 (0, 0))) (hg0 : w0.heap.size ≤ g) (hR : Kd.R k31 31 w w0.heap.size (fun _ => True) vL L) (h : iceboxref1_MayEntry.f u s d v = some true) (hat : Mem_at u s d L < L.length) (hn : L.length < 2932031007401) (hs : Mem_same (rd_T31 L (Mem_at u s d L : Int)) u s d = true) :
 Calls Try.prog 41 #[.pointer (some ⟨g, 0, none⟩), .agg #[.string u, .int .i64 s, .int .i64 d, .string v]] w fun e w' => e = .returned (.bool false) ∧ Below w.heap.size w w' := by
 have hu31 := Try.underlying31
 have hu29 := Try.underlying29
 have H := Aside0.mk h
 clear h
 have HB := Aside0.mk hB
 clear hB
 obtain ⟨A, c, rfl, hc, hC⟩ := Kd.R_reads hR
 have HR := Aside0.mk hR
 clear hR
 have HC := Aside0.mk hC
 clear hC
 have Hg := Aside0.mk hg
 clear hg
 have Hc := Aside0.mk hc
 clear hc
 have hglt : g < w.heap.size := blk_lt Hg.out
 go_enter Try.func41, Try.ntmps41
 go_wp2_with (first | (go_at_call 57; refine (iceboxref1_MayEntry.calls u s d v true _ H.out).mono ?_; rintro e w1 ⟨rfl, hb⟩; have HB1 := Aside0.mk hb; clear hb))
 have HE1 := Aside0.mk (blk_below (heap_alloc_new w (.cells #[.string u, .int .i64 s, .int .i64 d, .string v] 31)) HB1.out)
 have HW1 := Aside0.mk (below_then (below_alloc (Below.refl w.heap.size w) (.cells #[.string u, .int .i64 s, .int .i64 d, .string v] 31)) (by simp) HB1.out)
 clear HB1
 go_loopw [5] (fun v wr => ∃ k : Nat, k ≤ Mem_at u s d L ∧ v = .int .i64 k ∧ Aside0 (Below w1.heap.size w1 wr)) (fun v _ => L.length - (intOf v).toNat)
 case atStart => exact ⟨0, Nat.zero_le _, rfl, ⟨Below.refl _ _⟩⟩
 case round =>
  obtain ⟨k, hk, rfl, HBr⟩ := hrel
  have hgr := blk_below (blk_below Hg.out HW1.out) HBr.out
  have her := blk_below HE1.out HBr.out
  have hCr := Kd.C_below (Kd.C_below HC.out HW1.out) HBr.out
  obtain ⟨t, ht, hb⟩ := Mem_cmp (rd_T31 L (k : Int)) u s d
  have hlt : k < L.length := by omega
  obtain ⟨ad, rfl, x0, x1, x2, x3⟩ := at_T31 hCr (k : Int) (by omega) (by omega)
  rw [Int.toNat_natCast] at x0 x1 x2 x3
  have HT := Aside0.mk ht
  clear ht
  have p0 : (0 : Int) ≤ (k : Int) := by omega
  have p1 : (k : Int) < (L.length : Int) := by omega
  have p2 : (k : Int) < 2932031007402 := by omega
  have y0 : wr.cell? ⟨g, 0, none⟩ = some (.slice (some ad) L.length c) := (blk_cell hgr 0).trans rfl
  have z0 : wr.cell? ⟨w.heap.size, 0, none⟩ = some (.string u) := (blk_cell her 0).trans rfl
  have z1 : wr.cell? ⟨w.heap.size, 1, none⟩ = some (.int .i64 s) := (blk_cell her 1).trans rfl
  have z2 : wr.cell? ⟨w.heap.size, 2, none⟩ = some (.int .i64 d) := (blk_cell her 2).trans rfl
  have q0 : decide ((k : Int) < (L.length : Int)) = true := decide_eq_true p1
  have q1 : decide (k < L.length) = true := decide_eq_true hlt
  have Hgr := Aside0.mk hgr
  have Her := Aside0.mk her
  have HCr := Aside0.mk hCr
  clear hgr her hCr
  rcases Nat.lt_or_ge k (Mem_at u s d L) with hka | hka
  ·
   have ht0 : decide (t < 0) = true := by rw [← hb]; exact Mem_at_lt u s d L k hka
   clear hb
   go_wp2
   go_region_held3 (fun w' => w'.cell? ⟨g, 0, none⟩ = some (.slice (some ad) L.length c) ∧ w'.cell? ⟨w.heap.size, 0, none⟩ = some (.string u) ∧ w'.cell? ⟨w.heap.size, 1, none⟩ = some (.int .i64 s) ∧ w'.cell? ⟨w.heap.size, 2, none⟩ = some (.int .i64 d) ∧ w'.cell? (ad.add (k * 4)) = some (.string (rd_T31 L k).f0.f0) ∧ w'.cell? ⟨(ad.add (k * 4)).block, (ad.add (k * 4)).off + 1, none⟩ = some (.int .i64 (rd_T31 L k).f0.f1) ∧ w'.cell? ⟨(ad.add (k * 4)).block, (ad.add (k * 4)).off + 2, none⟩ = some (.int .i64 (rd_T31 L k).f0.f2) ∧ Below wr.heap.size wr w')
    ((repeat' apply And.intro) <;> (first | assumption | exact below_drew (Below.refl _ _) | exact Below.refl _ _ | exact below_step (below_drew (Below.refl _ _)) hb2 | exact pw_cell_below (by assumption) (by assumption) | go_keep))
    (first | (go_at_call 31; refine (iceboxref1_Cmp.calls _ _ _ _ _ _ t _ HT.out).mono ?_; rintro e w2 ⟨rfl, hb2⟩))
   go_wp2
   go_roundw
   case rel => exact ⟨k + 1, by omega, by go_num, ⟨below_step HBr.out (by assumption : w2.cell? ⟨g, 0, none⟩ = some (.slice (some ad) L.length c) ∧ w2.cell? ⟨w.heap.size, 0, none⟩ = some (.string u) ∧ w2.cell? ⟨w.heap.size, 1, none⟩ = some (.int .i64 s) ∧ w2.cell? ⟨w.heap.size, 2, none⟩ = some (.int .i64 d) ∧ _ ∧ _ ∧ _ ∧ Below wr.heap.size wr w2).2.2.2.2.2.2.2⟩⟩
   case measure => simp [intOf]; omega
  ·
   have e0 : Mem_at u s d L = k := by omega
   have ht0 : decide (t < 0) = false := by rw [← hb, ← e0]; exact Mem_at_eq u s d L hat
   have E0 := Aside0.mk e0
   rw [e0] at hs
   have hs1 : ((rd_T31 L (k : Int)).f0.f0.toList == u.toList && ((rd_T31 L (k : Int)).f0.f1 == s && ((rd_T31 L (k : Int)).f0.f2 == d))) = true := hs
   clear hs
   clear hb e0
   go_wp2
   go_region_held3 (fun w' => w'.cell? ⟨g, 0, none⟩ = some (.slice (some ad) L.length c) ∧ w'.cell? ⟨w.heap.size, 0, none⟩ = some (.string u) ∧ w'.cell? ⟨w.heap.size, 1, none⟩ = some (.int .i64 s) ∧ w'.cell? ⟨w.heap.size, 2, none⟩ = some (.int .i64 d) ∧ w'.cell? (ad.add (k * 4)) = some (.string (rd_T31 L k).f0.f0) ∧ w'.cell? ⟨(ad.add (k * 4)).block, (ad.add (k * 4)).off + 1, none⟩ = some (.int .i64 (rd_T31 L k).f0.f1) ∧ w'.cell? ⟨(ad.add (k * 4)).block, (ad.add (k * 4)).off + 2, none⟩ = some (.int .i64 (rd_T31 L k).f0.f2) ∧ Below wr.heap.size wr w')
    ((repeat' apply And.intro) <;> (first | assumption | exact below_drew (Below.refl _ _) | exact Below.refl _ _ | exact below_step (below_drew (Below.refl _ _)) hb2 | exact pw_cell_below (by assumption) (by assumption) | go_keep))
    (first | (go_at_call 31; refine (iceboxref1_Cmp.calls _ _ _ _ _ _ t _ HT.out).mono ?_; rintro e w2 ⟨rfl, hb2⟩))
   go_wp2
   obtain ⟨Y0, Z0, Z1, Z2, X0, X1, X2, HB2⟩ := (by assumption : w2.cell? ⟨g, 0, none⟩ = some (.slice (some ad) L.length c) ∧ _)
   clear x0 x1 x2 x3 y0 z0 z1 z2 hb2
   have HWr2 := Aside0.mk (below_step HBr.out HB2)
   clear HB2 HBr
   go_region_held3 (fun w' => w'.cell? ⟨g, 0, none⟩ = some (.slice (some ad) L.length c) ∧ w'.cell? ⟨w.heap.size, 0, none⟩ = some (.string u) ∧ w'.cell? ⟨w.heap.size, 1, none⟩ = some (.int .i64 s) ∧ w'.cell? ⟨w.heap.size, 2, none⟩ = some (.int .i64 d) ∧ w'.cell? (ad.add (k * 4)) = some (.string (rd_T31 L k).f0.f0) ∧ w'.cell? ⟨(ad.add (k * 4)).block, (ad.add (k * 4)).off + 1, none⟩ = some (.int .i64 (rd_T31 L k).f0.f1) ∧ w'.cell? ⟨(ad.add (k * 4)).block, (ad.add (k * 4)).off + 2, none⟩ = some (.int .i64 (rd_T31 L k).f0.f2))
    (go_keep) (fail)
   clear hn p2
   go_wp2
   go_ret
   exact ⟨rfl, below_drew (below_then HW1.out HW1.out.size HWr2.out)⟩
set_option maxHeartbeats 4000000 in
set_option maxRecDepth 100000 in
theorem add_in (g : Nat) (vL : Value) (L : List S31) (u : ByteArray) (s d : Int) (v : ByteArray) (w0 w : World) (hB : Below w0.heap.size w0 w)
 (hg : w.heap[g]? = some (.cells #[vL] 61 (0, 0))) (hg0 : w0.heap.size ≤ g) (hR : Kd.R k31 31 w w0.heap.size (fun _ => True) vL L) (h : iceboxref1_MayEntry.f u s d v = some true) (hat : Mem_at u s d L < L.length) (hn : L.length < 2932031007401) (hs : Mem_same (rd_T31 L (Mem_at u s d L : Int)) u s d = false) :
 Calls Try.prog 41 #[.pointer (some ⟨g, 0, none⟩), .agg #[.string u, .int .i64 s, .int .i64 d, .string v]] w fun e w' => ∃ v4 : Value, e = .returned (.bool true) ∧ w'.heap[g]? = some (.cells #[v4] 61 (0, 0)) ∧ Kd.R k31 31 w' w0.heap.size (fun _ => True) v4 (L.take (Mem_at u s d L) ++ [(⟨⟨u, s, d⟩, v⟩ : S31)] ++ L.drop (Mem_at u s d L)) ∧ Below w0.heap.size w0 w' := by
 have hu31 := Try.underlying31
 have hu29 := Try.underlying29
 have H := Aside0.mk h
 clear h
 have HB := Aside0.mk hB
 clear hB
 obtain ⟨A, c, rfl, hc, hC⟩ := Kd.R_reads hR
 have HR := Aside0.mk hR
 clear hR
 have HC := Aside0.mk hC
 clear hC
 have Hg := Aside0.mk hg
 clear hg
 have Hc := Aside0.mk hc
 clear hc
 have hglt : g < w.heap.size := blk_lt Hg.out
 go_enter Try.func41, Try.ntmps41
 go_wp2_with (first | (go_at_call 57; refine (iceboxref1_MayEntry.calls u s d v true _ H.out).mono ?_; rintro e w1 ⟨rfl, hb⟩; have HB1 := Aside0.mk hb; clear hb))
 have HE1 := Aside0.mk (blk_below (heap_alloc_new w (.cells #[.string u, .int .i64 s, .int .i64 d, .string v] 31)) HB1.out)
 have HW1 := Aside0.mk (below_then (below_alloc (Below.refl w.heap.size w) (.cells #[.string u, .int .i64 s, .int .i64 d, .string v] 31)) (by simp) HB1.out)
 clear HB1
 go_loopw [5] (fun v wr => ∃ k : Nat, k ≤ Mem_at u s d L ∧ v = .int .i64 k ∧ Aside0 (Below w1.heap.size w1 wr)) (fun v _ => L.length - (intOf v).toNat)
 case atStart => exact ⟨0, Nat.zero_le _, rfl, ⟨Below.refl _ _⟩⟩
 case round =>
  obtain ⟨k, hk, rfl, HBr⟩ := hrel
  have hgr := blk_below (blk_below Hg.out HW1.out) HBr.out
  have her := blk_below HE1.out HBr.out
  have hCr := Kd.C_below (Kd.C_below HC.out HW1.out) HBr.out
  obtain ⟨t, ht, hb⟩ := Mem_cmp (rd_T31 L (k : Int)) u s d
  have hlt : k < L.length := by omega
  obtain ⟨ad, rfl, x0, x1, x2, x3⟩ := at_T31 hCr (k : Int) (by omega) (by omega)
  rw [Int.toNat_natCast] at x0 x1 x2 x3
  have HT := Aside0.mk ht
  clear ht
  have p0 : (0 : Int) ≤ (k : Int) := by omega
  have p1 : (k : Int) < (L.length : Int) := by omega
  have p2 : (k : Int) < 2932031007402 := by omega
  have y0 : wr.cell? ⟨g, 0, none⟩ = some (.slice (some ad) L.length c) := (blk_cell hgr 0).trans rfl
  have z0 : wr.cell? ⟨w.heap.size, 0, none⟩ = some (.string u) := (blk_cell her 0).trans rfl
  have z1 : wr.cell? ⟨w.heap.size, 1, none⟩ = some (.int .i64 s) := (blk_cell her 1).trans rfl
  have z2 : wr.cell? ⟨w.heap.size, 2, none⟩ = some (.int .i64 d) := (blk_cell her 2).trans rfl
  have q0 : decide ((k : Int) < (L.length : Int)) = true := decide_eq_true p1
  have q1 : decide (k < L.length) = true := decide_eq_true hlt
  have Hgr := Aside0.mk hgr
  have Her := Aside0.mk her
  have HCr := Aside0.mk hCr
  clear hgr her hCr
  rcases Nat.lt_or_ge k (Mem_at u s d L) with hka | hka
  ·
   have ht0 : decide (t < 0) = true := by rw [← hb]; exact Mem_at_lt u s d L k hka
   clear hb
   go_wp2
   go_region_held3 (fun w' => w'.cell? ⟨g, 0, none⟩ = some (.slice (some ad) L.length c) ∧ w'.cell? ⟨w.heap.size, 0, none⟩ = some (.string u) ∧ w'.cell? ⟨w.heap.size, 1, none⟩ = some (.int .i64 s) ∧ w'.cell? ⟨w.heap.size, 2, none⟩ = some (.int .i64 d) ∧ w'.cell? (ad.add (k * 4)) = some (.string (rd_T31 L k).f0.f0) ∧ w'.cell? ⟨(ad.add (k * 4)).block, (ad.add (k * 4)).off + 1, none⟩ = some (.int .i64 (rd_T31 L k).f0.f1) ∧ w'.cell? ⟨(ad.add (k * 4)).block, (ad.add (k * 4)).off + 2, none⟩ = some (.int .i64 (rd_T31 L k).f0.f2) ∧ Below wr.heap.size wr w')
    ((repeat' apply And.intro) <;> (first | assumption | exact below_drew (Below.refl _ _) | exact Below.refl _ _ | exact below_step (below_drew (Below.refl _ _)) hb2 | exact pw_cell_below (by assumption) (by assumption) | go_keep))
    (first | (go_at_call 31; refine (iceboxref1_Cmp.calls _ _ _ _ _ _ t _ HT.out).mono ?_; rintro e w2 ⟨rfl, hb2⟩))
   go_wp2
   go_roundw
   case rel => exact ⟨k + 1, by omega, by go_num, ⟨below_step HBr.out (by assumption : w2.cell? ⟨g, 0, none⟩ = some (.slice (some ad) L.length c) ∧ w2.cell? ⟨w.heap.size, 0, none⟩ = some (.string u) ∧ w2.cell? ⟨w.heap.size, 1, none⟩ = some (.int .i64 s) ∧ w2.cell? ⟨w.heap.size, 2, none⟩ = some (.int .i64 d) ∧ _ ∧ _ ∧ _ ∧ Below wr.heap.size wr w2).2.2.2.2.2.2.2⟩⟩
   case measure => simp [intOf]; omega
  ·
   have e0 : Mem_at u s d L = k := by omega
   have ht0 : decide (t < 0) = false := by rw [← hb, ← e0]; exact Mem_at_eq u s d L hat
   have E0 := Aside0.mk e0
   rw [e0] at hs
   have hs1 : ((rd_T31 L (k : Int)).f0.f0.toList == u.toList && ((rd_T31 L (k : Int)).f0.f1 == s && ((rd_T31 L (k : Int)).f0.f2 == d))) = false := hs
   clear hs
   clear hb e0
   go_wp2
   go_region_held3 (fun w' => w'.cell? ⟨g, 0, none⟩ = some (.slice (some ad) L.length c) ∧ w'.cell? ⟨w.heap.size, 0, none⟩ = some (.string u) ∧ w'.cell? ⟨w.heap.size, 1, none⟩ = some (.int .i64 s) ∧ w'.cell? ⟨w.heap.size, 2, none⟩ = some (.int .i64 d) ∧ w'.cell? (ad.add (k * 4)) = some (.string (rd_T31 L k).f0.f0) ∧ w'.cell? ⟨(ad.add (k * 4)).block, (ad.add (k * 4)).off + 1, none⟩ = some (.int .i64 (rd_T31 L k).f0.f1) ∧ w'.cell? ⟨(ad.add (k * 4)).block, (ad.add (k * 4)).off + 2, none⟩ = some (.int .i64 (rd_T31 L k).f0.f2) ∧ Below wr.heap.size wr w')
    ((repeat' apply And.intro) <;> (first | assumption | exact below_drew (Below.refl _ _) | exact Below.refl _ _ | exact below_step (below_drew (Below.refl _ _)) hb2 | exact pw_cell_below (by assumption) (by assumption) | go_keep))
    (first | (go_at_call 31; refine (iceboxref1_Cmp.calls _ _ _ _ _ _ t _ HT.out).mono ?_; rintro e w2 ⟨rfl, hb2⟩))
   go_wp2
   obtain ⟨Y0, Z0, Z1, Z2, X0, X1, X2, HB2⟩ := (by assumption : w2.cell? ⟨g, 0, none⟩ = some (.slice (some ad) L.length c) ∧ _)
   clear x0 x1 x2 x3 y0 z0 z1 z2 hb2
   have HWr2 := Aside0.mk (below_step HBr.out HB2)
   clear HB2 HBr
   go_region_held3 (fun w' => w'.cell? ⟨g, 0, none⟩ = some (.slice (some ad) L.length c) ∧ w'.cell? ⟨w.heap.size, 0, none⟩ = some (.string u) ∧ w'.cell? ⟨w.heap.size, 1, none⟩ = some (.int .i64 s) ∧ w'.cell? ⟨w.heap.size, 2, none⟩ = some (.int .i64 d) ∧ w'.cell? (ad.add (k * 4)) = some (.string (rd_T31 L k).f0.f0) ∧ w'.cell? ⟨(ad.add (k * 4)).block, (ad.add (k * 4)).off + 1, none⟩ = some (.int .i64 (rd_T31 L k).f0.f1) ∧ w'.cell? ⟨(ad.add (k * 4)).block, (ad.add (k * 4)).off + 2, none⟩ = some (.int .i64 (rd_T31 L k).f0.f2))
    (go_keep) (fail)
   have HN := Aside0.mk hn
   clear hs1 Y0 Z0 Z1 Z2 X0 X1 X2 q0 q1 p2 hn
   have HWx := Aside0.mk (below_drew (below_then HW1.out HW1.out.size HWr2.out))
   have HEx := Aside0.mk (show (w2.drew).heap[w.heap.size]? = some (.cells #[.string u, .int .i64 s, .int .i64 d, .string v] 31 (0, 0)) from blk_below HE1.out (below_drew HWr2.out))
   clear HWr2
   generalize w2.drew = wx at HWx HEx ⊢
   have hgx := blk_below Hg.out HWx.out
   have hCx := Kd.C_below HC.out HWx.out
   have HSz := Aside0.mk HWx.out.size
   obtain ⟨i0, hi0, _, hsz0, _⟩ := info_parts info31
   have hcut1 := cut_to (P := Try.prog) 24 31 .i64 Try.underlying24 hi0 (some ad) L.length c (k : Int) (by omega) (by omega) Hc.out
   have hcut2 := cut_from (P := Try.prog) 24 31 .i64 Try.underlying24 hi0 4 hsz0 (some ad) L.length c (k : Int) (by omega) (by omega)
   rw [Int.toNat_natCast] at hcut1 hcut2
   have hT : Kd.C k31 wx (some ad) k (L.take k) := by
    have h0 := Kd.C_take (m := k) hCx (by omega)
    rw [List.length_take, Nat.min_eq_left (by omega)] at h0
    exact h0
   have hD : Kd.C k31 wx (if c = k then (some ad) else (some ad).map (·.add (k * 4))) (L.length - k) (L.drop k) := by
    have h0 := Kd.C_drop (m := k) (c := c) hCx (by omega) Hc.out
    rw [List.length_drop] at h0
    exact h0
   generalize (if c = k then (some ad) else (some ad).map (·.add (k * 4))) = A2 at hcut2 hD
   have HT1 := Aside0.mk hT
   have HD1 := Aside0.mk hD
   have HGx := Aside0.mk hgx
   obtain ⟨Y0, YF, Z0, Z1, Z2, Z3⟩ := Mem_facts (Below.refl _ _) hgx HEx.out
   have lk : k ≤ L.length := by omega
   clear hT hD hgx hCx hi0 hsz0
   go_wp2_with (first
    | ((with_reducible refine gate_dst (N := 53) rfl ?_); refine Kd.R_lit k31 (w0 := wx) wx.heap.size 31 ?hg (N := 53) ?hd (xs := ([] : List S31)) (inner := []) (ok := fun _ => True) (okp := fun _ => True) ?hr ?hp (fun _ hk => hk) trivial (Below.refl _ _) (Nat.le_refl _) (by simp) ?_; (case hd => rfl); (case hg => rfl); (case hr => first | (go_simp; done) | (go_simp; rfl)); (case hp => exact (Reps.none _ _)); intro v1 wa ho1 hb1 hg1 hn1; have O1 := Aside0.mk ho1; have B1 := Aside0.mk hb1; clear Y0 YF Z0 Z1 Z2 Z3 hg1 hn1 ho1; obtain ⟨Y0, YF, Z0, Z1, Z2, Z3⟩ := Mem_facts hb1 HGx.out HEx.out; clear hb1)
    | ((with_reducible refine gate_builtin (b := .append) (xs := #[.tmp 53, .tmp 59]) rfl ?_); at_builtin; refine Kd.R_append_rows k31 (w0 := wx) wx.heap.size rfl (.tmp 53) (.tmp 59) 24 31 (.agg #[(.string ⟨#[]⟩), (.int .i64 0), (.int .i64 0), (.string ⟨#[]⟩)]) 48 rfl Try.underlying24 info31 rfl (by decide) (by decide) v1 [] (L.take k) _ _ _ (fun _ => True) (fun _ => False) rfl rfl O1.out (Kd.C_below HT1.out B1.out) (fun _ _ h => h) (fun _ h => h.elim) (fun _ _ => trivial) B1.out B1.out.size (by have := HN.out; simp; omega) ?_; intro v2 wb ho hb hg hat; have O2 := Aside0.mk ho; have B2 := Aside0.mk hb; clear Y0 YF Z0 Z1 Z2 Z3 hg hat ho O1 B1; obtain ⟨Y0, YF, Z0, Z1, Z2, Z3⟩ := Mem_facts hb HGx.out HEx.out; clear hb)
    | ((with_reducible refine gate_builtin (b := .append) (xs := #[.tmp 61, .tmp 63]) rfl ?_); at_builtin; refine Kd.R_append k31 (w0 := wx) wx.heap.size rfl (.tmp 61) (.tmp 63) 24 31 (.agg #[(.string ⟨#[]⟩), (.int .i64 0), (.int .i64 0), (.string ⟨#[]⟩)]) 48 rfl Try.underlying24 info31 rfl (by decide) (by decide) v2 ([] ++ L.take k) (⟨⟨u, s, d⟩, v⟩ : S31) [.string u, .int .i64 s, .int .i64 d, .string v] (fun _ => True) (fun _ => False) rfl rfl (k31_mkM _ _ _ (⟨⟨u, s, d⟩, v⟩ : S31)) (fun _ hk => hk.elim) (fun _ _ => trivial) O2.out B2.out B2.out.size (by have := HN.out; simp; omega) ?_; intro v3 wc ho hb hg hat; have O3 := Aside0.mk ho; have B3 := Aside0.mk hb; clear Y0 YF Z0 Z1 Z2 Z3 hg hat ho O2 B2; obtain ⟨Y0, YF, Z0, Z1, Z2, Z3⟩ := Mem_facts hb HGx.out HEx.out; clear hb)
    | ((with_reducible refine gate_builtin (b := .append) (xs := #[.tmp 66, .tmp 72]) rfl ?_); at_builtin; refine Kd.R_append_rows k31 (w0 := wx) wx.heap.size rfl (.tmp 66) (.tmp 72) 24 31 (.agg #[(.string ⟨#[]⟩), (.int .i64 0), (.int .i64 0), (.string ⟨#[]⟩)]) 48 rfl Try.underlying24 info31 rfl (by decide) (by decide) v3 ([] ++ L.take k ++ [(⟨⟨u, s, d⟩, v⟩ : S31)]) (L.drop k) _ _ _ (fun _ => True) (fun _ => False) rfl rfl O3.out (Kd.C_below HD1.out B3.out) (fun _ _ h => h) (fun _ h => h.elim) (fun _ _ => trivial) B3.out B3.out.size (by have := HN.out; simp; omega) ?_; intro v4 wd ho hb hg hat; obtain ⟨A4, c4, e4⟩ := Kd.R_slice ho; subst e4; have O4 := Aside0.mk ho; have B4 := Aside0.mk hb; clear Y0 YF Z0 Z1 Z2 Z3 hg hat ho O3 B3; obtain ⟨Y0, YF, Z0, Z1, Z2, Z3⟩ := Mem_facts hb HGx.out HEx.out; clear hb))
   go_ret
   have hgd := blk_below HGx.out B4.out
   refine ⟨_, rfl, (blk_set hgd 0 _).trans rfl, ?_, ?_⟩
   ·
    rw [E0.out]
    have h4 := Kd.R_lower (base' := w0.heap.size) O4.out (Nat.le_trans HB.out.size HWx.out.size)
    have e4 : ([] ++ L.take k ++ [(⟨⟨u, s, d⟩, v⟩ : S31)] ++ L.drop k).length = k + (L.length - k + 1) := by simp; omega
    rw [e4] at h4
    exact Kd.R_set h4 hgd (by decide) 0 _
   · exact (below_then HB.out HB.out.size (below_then HWx.out HWx.out.size B4.out)).setCell hg0 _
set_option maxHeartbeats 4000000 in
set_option maxRecDepth 100000 in
theorem add_end (g : Nat) (vL : Value) (L : List S31) (u : ByteArray) (s d : Int) (v : ByteArray) (w0 w : World) (hB : Below w0.heap.size w0 w)
 (hg : w.heap[g]? = some (.cells #[vL] 61 (0, 0))) (hg0 : w0.heap.size ≤ g) (hR : Kd.R k31 31 w w0.heap.size (fun _ => True) vL L) (h : iceboxref1_MayEntry.f u s d v = some true) (hat : Mem_at u s d L = L.length) (hn : L.length < 2932031007401) :
 Calls Try.prog 41 #[.pointer (some ⟨g, 0, none⟩), .agg #[.string u, .int .i64 s, .int .i64 d, .string v]] w fun e w' => ∃ v4 : Value, e = .returned (.bool true) ∧ w'.heap[g]? = some (.cells #[v4] 61 (0, 0)) ∧ Kd.R k31 31 w' w0.heap.size (fun _ => True) v4 (L.take (Mem_at u s d L) ++ [(⟨⟨u, s, d⟩, v⟩ : S31)] ++ L.drop (Mem_at u s d L)) ∧ Below w0.heap.size w0 w' := by
 have hu31 := Try.underlying31
 have hu29 := Try.underlying29
 have H := Aside0.mk h
 clear h
 have HB := Aside0.mk hB
 clear hB
 obtain ⟨A, c, rfl, hc, hC⟩ := Kd.R_reads hR
 have HR := Aside0.mk hR
 clear hR
 have HC := Aside0.mk hC
 clear hC
 have Hg := Aside0.mk hg
 clear hg
 have Hc := Aside0.mk hc
 clear hc
 have hglt : g < w.heap.size := blk_lt Hg.out
 go_enter Try.func41, Try.ntmps41
 go_wp2_with (first | (go_at_call 57; refine (iceboxref1_MayEntry.calls u s d v true _ H.out).mono ?_; rintro e w1 ⟨rfl, hb⟩; have HB1 := Aside0.mk hb; clear hb))
 have HE1 := Aside0.mk (blk_below (heap_alloc_new w (.cells #[.string u, .int .i64 s, .int .i64 d, .string v] 31)) HB1.out)
 have HW1 := Aside0.mk (below_then (below_alloc (Below.refl w.heap.size w) (.cells #[.string u, .int .i64 s, .int .i64 d, .string v] 31)) (by simp) HB1.out)
 clear HB1
 go_loopw [5] (fun v wr => ∃ k : Nat, k ≤ Mem_at u s d L ∧ v = .int .i64 k ∧ Aside0 (Below w1.heap.size w1 wr)) (fun v _ => L.length - (intOf v).toNat)
 case atStart => exact ⟨0, Nat.zero_le _, rfl, ⟨Below.refl _ _⟩⟩
 case round =>
  obtain ⟨k, hk, rfl, HBr⟩ := hrel
  have hgr := blk_below (blk_below Hg.out HW1.out) HBr.out
  have her := blk_below HE1.out HBr.out
  have hCr := Kd.C_below (Kd.C_below HC.out HW1.out) HBr.out
  rcases Nat.lt_or_ge k L.length with hkl | hkl
  ·
   have hka : k < Mem_at u s d L := by omega
   obtain ⟨t, ht, hb⟩ := Mem_cmp (rd_T31 L (k : Int)) u s d
   have hlt : k < L.length := by omega
   obtain ⟨ad, rfl, x0, x1, x2, x3⟩ := at_T31 hCr (k : Int) (by omega) (by omega)
   rw [Int.toNat_natCast] at x0 x1 x2 x3
   have HT := Aside0.mk ht
   clear ht
   have p0 : (0 : Int) ≤ (k : Int) := by omega
   have p1 : (k : Int) < (L.length : Int) := by omega
   have p2 : (k : Int) < 2932031007402 := by omega
   have y0 : wr.cell? ⟨g, 0, none⟩ = some (.slice (some ad) L.length c) := (blk_cell hgr 0).trans rfl
   have z0 : wr.cell? ⟨w.heap.size, 0, none⟩ = some (.string u) := (blk_cell her 0).trans rfl
   have z1 : wr.cell? ⟨w.heap.size, 1, none⟩ = some (.int .i64 s) := (blk_cell her 1).trans rfl
   have z2 : wr.cell? ⟨w.heap.size, 2, none⟩ = some (.int .i64 d) := (blk_cell her 2).trans rfl
   have q0 : decide ((k : Int) < (L.length : Int)) = true := decide_eq_true p1
   have q1 : decide (k < L.length) = true := decide_eq_true hlt
   have Hgr := Aside0.mk hgr
   have Her := Aside0.mk her
   have HCr := Aside0.mk hCr
   clear hgr her hCr
   have ht0 : decide (t < 0) = true := by rw [← hb]; exact Mem_at_lt u s d L k hka
   clear hb
   go_wp2
   go_region_held3 (fun w' => w'.cell? ⟨g, 0, none⟩ = some (.slice (some ad) L.length c) ∧ w'.cell? ⟨w.heap.size, 0, none⟩ = some (.string u) ∧ w'.cell? ⟨w.heap.size, 1, none⟩ = some (.int .i64 s) ∧ w'.cell? ⟨w.heap.size, 2, none⟩ = some (.int .i64 d) ∧ w'.cell? (ad.add (k * 4)) = some (.string (rd_T31 L k).f0.f0) ∧ w'.cell? ⟨(ad.add (k * 4)).block, (ad.add (k * 4)).off + 1, none⟩ = some (.int .i64 (rd_T31 L k).f0.f1) ∧ w'.cell? ⟨(ad.add (k * 4)).block, (ad.add (k * 4)).off + 2, none⟩ = some (.int .i64 (rd_T31 L k).f0.f2) ∧ Below wr.heap.size wr w')
    ((repeat' apply And.intro) <;> (first | assumption | exact below_drew (Below.refl _ _) | exact Below.refl _ _ | exact below_step (below_drew (Below.refl _ _)) hb2 | exact pw_cell_below (by assumption) (by assumption) | go_keep))
    (first | (go_at_call 31; refine (iceboxref1_Cmp.calls _ _ _ _ _ _ t _ HT.out).mono ?_; rintro e w2 ⟨rfl, hb2⟩))
   go_wp2
   go_roundw
   case rel => exact ⟨k + 1, by omega, by go_num, ⟨below_step HBr.out (by assumption : w2.cell? ⟨g, 0, none⟩ = some (.slice (some ad) L.length c) ∧ w2.cell? ⟨w.heap.size, 0, none⟩ = some (.string u) ∧ w2.cell? ⟨w.heap.size, 1, none⟩ = some (.int .i64 s) ∧ w2.cell? ⟨w.heap.size, 2, none⟩ = some (.int .i64 d) ∧ _ ∧ _ ∧ _ ∧ Below wr.heap.size wr w2).2.2.2.2.2.2.2⟩⟩
   case measure => simp [intOf]; omega
  ·
   have e0 : Mem_at u s d L = k := by omega
   have e1 : k = L.length := by omega
   have E0 := Aside0.mk e0
   have y0 : wr.cell? ⟨g, 0, none⟩ = some (.slice A L.length c) := (blk_cell hgr 0).trans rfl
   have p0 : (0 : Int) ≤ (k : Int) := by omega
   have q0 : decide ((k : Int) < (L.length : Int)) = false := decide_eq_false (by omega)
   have q1 : decide (k < L.length) = false := decide_eq_false (by omega)
   have lk0 : k ≤ L.length := by omega
   have E1 := Aside0.mk e1
   clear hgr her hCr e0 e1 hkl hk hat
   go_wp2
   go_quiet (fail)
   obtain ⟨nq_, rfl⟩ : ∃ x : Nat, x = nq := ⟨nq, rfl⟩
   go_wp2
   go_quiet (fail)
   have HN := Aside0.mk hn
   clear hn q0 q1
   clear y0
   obtain ⟨wx, hwx⟩ : ∃ wx : World, wx = ((wr.drewN nq_).drewN nq) := ⟨_, rfl⟩
   rw [← hwx]
   have HWx := Aside0.mk (show Below w.heap.size w wx from by rw [hwx]; exact pw_below_drewN (pw_below_drewN (below_then HW1.out HW1.out.size HBr.out) _) _)
   have HEx := Aside0.mk (show wx.heap[w.heap.size]? = some (.cells #[.string u, .int .i64 s, .int .i64 d, .string v] 31 (0, 0)) from by rw [hwx]; exact blk_below HE1.out (pw_below_drewN (pw_below_drewN HBr.out _) _))
   clear hwx HBr
   have hgx := blk_below Hg.out HWx.out
   have hCx := Kd.C_below HC.out HWx.out
   have HSz := Aside0.mk HWx.out.size
   obtain ⟨i0, hi0, _, hsz0, _⟩ := info_parts info31
   have hcut1 := cut_to (P := Try.prog) 24 31 .i64 Try.underlying24 hi0 A L.length c (k : Int) (by omega) (by omega) Hc.out
   have hcut2 := cut_from (P := Try.prog) 24 31 .i64 Try.underlying24 hi0 4 hsz0 A L.length c (k : Int) (by omega) (by omega)
   rw [Int.toNat_natCast] at hcut1 hcut2
   have hT : Kd.C k31 wx A k (L.take k) := by
    have h0 := Kd.C_take (m := k) hCx (by omega)
    rw [List.length_take, Nat.min_eq_left (by omega)] at h0
    exact h0
   have hD : Kd.C k31 wx (if c = k then A else A.map (·.add (k * 4))) (L.length - k) (L.drop k) := by
    have h0 := Kd.C_drop (m := k) (c := c) hCx (by omega) Hc.out
    rw [List.length_drop] at h0
    exact h0
   generalize (if c = k then A else A.map (·.add (k * 4))) = A2 at hcut2 hD
   have HT1 := Aside0.mk hT
   have HD1 := Aside0.mk hD
   have HGx := Aside0.mk hgx
   obtain ⟨Y0, YF, Z0, Z1, Z2, Z3⟩ := Mem_facts (Below.refl _ _) hgx HEx.out
   have lk := lk0
   clear hT hD hgx hCx hi0 hsz0
   go_wp2_with (first
    | ((with_reducible refine gate_dst (N := 53) rfl ?_); refine Kd.R_lit k31 (w0 := wx) wx.heap.size 31 ?hg (N := 53) ?hd (xs := ([] : List S31)) (inner := []) (ok := fun _ => True) (okp := fun _ => True) ?hr ?hp (fun _ hk => hk) trivial (Below.refl _ _) (Nat.le_refl _) (by simp) ?_; (case hd => rfl); (case hg => rfl); (case hr => first | (go_simp; done) | (go_simp; rfl)); (case hp => exact (Reps.none _ _)); intro v1 wa ho1 hb1 hg1 hn1; have O1 := Aside0.mk ho1; have B1 := Aside0.mk hb1; clear Y0 YF Z0 Z1 Z2 Z3 hg1 hn1 ho1; obtain ⟨Y0, YF, Z0, Z1, Z2, Z3⟩ := Mem_facts hb1 HGx.out HEx.out; clear hb1)
    | ((with_reducible refine gate_builtin (b := .append) (xs := #[.tmp 53, .tmp 59]) rfl ?_); at_builtin; refine Kd.R_append_rows k31 (w0 := wx) wx.heap.size rfl (.tmp 53) (.tmp 59) 24 31 (.agg #[(.string ⟨#[]⟩), (.int .i64 0), (.int .i64 0), (.string ⟨#[]⟩)]) 48 rfl Try.underlying24 info31 rfl (by decide) (by decide) v1 [] (L.take k) _ _ _ (fun _ => True) (fun _ => False) rfl rfl O1.out (Kd.C_below HT1.out B1.out) (fun _ _ h => h) (fun _ h => h.elim) (fun _ _ => trivial) B1.out B1.out.size (by have := HN.out; simp; omega) ?_; intro v2 wb ho hb hg hat; have O2 := Aside0.mk ho; have B2 := Aside0.mk hb; clear Y0 YF Z0 Z1 Z2 Z3 hg hat ho O1 B1; obtain ⟨Y0, YF, Z0, Z1, Z2, Z3⟩ := Mem_facts hb HGx.out HEx.out; clear hb)
    | ((with_reducible refine gate_builtin (b := .append) (xs := #[.tmp 61, .tmp 63]) rfl ?_); at_builtin; refine Kd.R_append k31 (w0 := wx) wx.heap.size rfl (.tmp 61) (.tmp 63) 24 31 (.agg #[(.string ⟨#[]⟩), (.int .i64 0), (.int .i64 0), (.string ⟨#[]⟩)]) 48 rfl Try.underlying24 info31 rfl (by decide) (by decide) v2 ([] ++ L.take k) (⟨⟨u, s, d⟩, v⟩ : S31) [.string u, .int .i64 s, .int .i64 d, .string v] (fun _ => True) (fun _ => False) rfl rfl (k31_mkM _ _ _ (⟨⟨u, s, d⟩, v⟩ : S31)) (fun _ hk => hk.elim) (fun _ _ => trivial) O2.out B2.out B2.out.size (by have := HN.out; simp; omega) ?_; intro v3 wc ho hb hg hat; have O3 := Aside0.mk ho; have B3 := Aside0.mk hb; clear Y0 YF Z0 Z1 Z2 Z3 hg hat ho O2 B2; obtain ⟨Y0, YF, Z0, Z1, Z2, Z3⟩ := Mem_facts hb HGx.out HEx.out; clear hb)
    | ((with_reducible refine gate_builtin (b := .append) (xs := #[.tmp 66, .tmp 72]) rfl ?_); at_builtin; refine Kd.R_append_rows k31 (w0 := wx) wx.heap.size rfl (.tmp 66) (.tmp 72) 24 31 (.agg #[(.string ⟨#[]⟩), (.int .i64 0), (.int .i64 0), (.string ⟨#[]⟩)]) 48 rfl Try.underlying24 info31 rfl (by decide) (by decide) v3 ([] ++ L.take k ++ [(⟨⟨u, s, d⟩, v⟩ : S31)]) (L.drop k) _ _ _ (fun _ => True) (fun _ => False) rfl rfl O3.out (Kd.C_below HD1.out B3.out) (fun _ _ h => h) (fun _ h => h.elim) (fun _ _ => trivial) B3.out B3.out.size (by have := HN.out; simp; omega) ?_; intro v4 wd ho hb hg hat; obtain ⟨A4, c4, e4⟩ := Kd.R_slice ho; subst e4; have O4 := Aside0.mk ho; have B4 := Aside0.mk hb; clear Y0 YF Z0 Z1 Z2 Z3 hg hat ho O3 B3; obtain ⟨Y0, YF, Z0, Z1, Z2, Z3⟩ := Mem_facts hb HGx.out HEx.out; clear hb))
   go_ret
   have hgd := blk_below HGx.out B4.out
   refine ⟨_, rfl, (blk_set hgd 0 _).trans rfl, ?_, ?_⟩
   ·
    rw [E0.out]
    have h4 := Kd.R_lower (base' := w0.heap.size) O4.out (Nat.le_trans HB.out.size HWx.out.size)
    have e4 : ([] ++ L.take k ++ [(⟨⟨u, s, d⟩, v⟩ : S31)] ++ L.drop k).length = k + (L.length - k + 1) := by simp; omega
    rw [e4] at h4
    exact Kd.R_set h4 hgd (by decide) 0 _
   · exact (below_then HB.out HB.out.size (below_then HWx.out HWx.out.size B4.out)).setCell hg0 _
def Mem_add (L : List S31) (u : ByteArray) (s d : Int) (v : ByteArray) : Option (List S31) :=
 (iceboxref1_MayEntry.f u s d v).bind fun t => if t = true then (if L.length < 2932031007401 then (if Mem_at u s d L < L.length then (if Mem_same (rd_T31 L (Mem_at u s d L : Int)) u s d = true then some L else some (L.take (Mem_at u s d L) ++ [(⟨⟨u, s, d⟩, v⟩ : S31)] ++ L.drop (Mem_at u s d L))) else some (L.take (Mem_at u s d L) ++ [(⟨⟨u, s, d⟩, v⟩ : S31)] ++ L.drop (Mem_at u s d L))) else none) else some L
def MemIs (w0 w : World) (g : Nat) (L : List S31) : Prop := ∃ v, w.heap[g]? = some (.cells #[v] 61 (0, 0)) ∧ w0.heap.size ≤ g ∧ Kd.R k31 31 w w0.heap.size (fun _ => True) v L ∧ Below w0.heap.size w0 w
theorem MemIs.below {w0 w w1 : World} {g : Nat} {L : List S31} (h : MemIs w0 w g L) (hb : Below w.heap.size w w1) : MemIs w0 w1 g L := by
 obtain ⟨v, h1, h2, h3, h4⟩ := h
 exact ⟨v, blk_below h1 hb, h2, Kd.R_below h3 hb, below_then h4 h4.size hb⟩
def MemPost (w0 : World) (g : Nat) (L : List S31) (e : Ending) (w' : World) : Prop := (∃ b, e = .returned (.bool b)) ∧ MemIs w0 w' g L
theorem Mem_add.calls (g : Nat) (L L' : List S31) (u : ByteArray) (s d : Int) (v : ByteArray) (w0 w : World) (hI : MemIs w0 w g L) (h : Mem_add L u s d v = some L') :
 Calls Try.prog 41 #[.pointer (some ⟨g, 0, none⟩), .agg #[.string u, .int .i64 s, .int .i64 d, .string v]] w (MemPost w0 g L') := by
 unfold Mem_add at h
 obtain ⟨t, ht, h⟩ := Option.bind_eq_some_iff.mp h
 obtain ⟨vL, h1, h2, h3, h4⟩ := id hI
 cases t with
 | false =>
  rw [if_neg Bool.false_ne_true] at h
  obtain rfl := Option.some.inj h
  exact (add_no g u s d v w ht).mono fun e w' hh => ⟨⟨_, hh.1⟩, hI.below hh.2⟩
 | true =>
  rw [if_pos rfl] at h
  by_cases hn : L.length < 2932031007401
  ·
   rw [if_pos hn] at h
   by_cases ha : Mem_at u s d L < L.length
   ·
    rw [if_pos ha] at h
    by_cases hs : Mem_same (rd_T31 L (Mem_at u s d L : Int)) u s d = true
    ·
     rw [if_pos hs] at h
     obtain rfl := Option.some.inj h
     exact (add_eq g vL L u s d v w0 w h4 h1 h2 h3 ht ha hn hs).mono fun e w' hh => ⟨⟨_, hh.1⟩, hI.below hh.2⟩
    ·
     rw [if_neg hs] at h
     obtain rfl := Option.some.inj h
     refine (add_in g vL L u s d v w0 w h4 h1 h2 h3 ht ha hn (Bool.eq_false_iff.2 hs)).mono fun e w' hh => ?_
     obtain ⟨v4, e1, e2, e3, e4⟩ := hh
     exact ⟨⟨_, e1⟩, v4, e2, h2, e3, e4⟩
   ·
    rw [if_neg ha] at h
    obtain rfl := Option.some.inj h
    refine (add_end g vL L u s d v w0 w h4 h1 h2 h3 ht (by have := Mem_at_le u s d L; omega) hn).mono fun e w' hh => ?_
    obtain ⟨v4, e1, e2, e3, e4⟩ := hh
    exact ⟨⟨_, e1⟩, v4, e2, h2, e3, e4⟩
  · rw [if_neg hn] at h; cases h
def iceboxlaw12_Make.l0 : Nat → List Int → Int → List S31 → Int → Option (List S31)
 | 0, _, _, _, _ => none
 | k + 1, x0, x1, x5, x6 => if x6 < (x0.length : Int) then (if 0 ≤ x6 ∧ x6 < 9223372036854775000 ∧ 0 ≤ rd x0 x6 ∧ rd x0 x6 ≤ 255 ∧ 0 ≤ x1 ∧ x1 ≤ 255 then ((iceboxref1_Digits.f k (rd x0 x6 % (3 + x1 % 40))).bind fun d1 => (if d1.size ≤ 1000 then ((iceboxref1_Digits.f k (rd x0 x6)).bind fun d2 => ((if rd x0 x6 % 7 = 0 then Mem_add x5 ((⟨#[107, 101, 121]⟩ : ByteArray) ++ d1) (1 + x6) 2 (⟨#[]⟩ : ByteArray) else Mem_add x5 ((⟨#[107, 101, 121]⟩ : ByteArray) ++ d1) (1 + x6) 1 d2).bind fun y => iceboxlaw12_Make.l0 k x0 x1 y (x6 + 1))) else none)) else none) else (some x5)
def iceboxlaw12_Make.f (k : Nat) (l0 : List Int) (a1 : Int) : Option (List S31) := iceboxlaw12_Make.l0 k l0 a1 [] 0
theorem iceboxlaw12_Make.mono_l : ∀ k, (∀ y0 y1 y2 y3, LeO (iceboxlaw12_Make.l0 k y0 y1 y2 y3) (iceboxlaw12_Make.l0 (k + 1) y0 y1 y2 y3))
 | 0 => fun _ _ _ _ r h => by simp [iceboxlaw12_Make.l0] at h
 | k + 1 => by
  have ih0 := iceboxlaw12_Make.mono_l k
  intro y0 y1 y2 y3
  unfold iceboxlaw12_Make.l0
  repeat' first
   | (with_reducible exact ih0 _ _ _ _)
   | (with_reducible exact iceboxref1_Digits.mono _ _)
   | (with_reducible exact LeO.refl _)
   | (with_reducible exact LeO.none _)
   | (with_reducible refine LeO.ite ?_ ?_)
   | (with_reducible refine LeO.bind ?_ (fun _ => ?_))
   | exact iceboxref1_Digits.mono _ _
   | exact LeO.refl _
theorem iceboxlaw12_Make.mono : ∀ a0 a1 k, LeO (iceboxlaw12_Make.f k a0 a1) (iceboxlaw12_Make.f (k + 1) a0 a1) := fun a0 a1 k => iceboxlaw12_Make.mono_l k _ _ _ _
set_option maxHeartbeats 4000000 in
set_option maxRecDepth 100000 in
theorem iceboxlaw12_Make.calls (k : Nat) (A0 : Option Addr) (c0 : Nat) (l0 : List Int) (a1 : Int) (r : List S31) (w : World) (hr0 : Kd.C (Kd.int .u8) w A0 l0.length l0) (hc0 : l0.length ≤ c0) (h : iceboxlaw12_Make.f k l0 a1 = some r) :
 Calls Try.prog 15 #[.slice A0 l0.length c0, .int .u8 a1] w fun e w' => ∃ v0_ : Value, e = .returned (v0_) ∧ Kd.R k31 31 w' w.heap.size (fun _ => True) v0_ r ∧ Below w.heap.size w w' := by
 have hu31 := Try.underlying31
 have hu29 := Try.underlying29
 have hu61 := Try.underlying61
 have HR0 := Aside0.mk hr0
 have HC0 := Aside0.mk hc0
 have H' := Aside0.mk (show iceboxlaw12_Make.l0 k l0 a1 [] 0 = some r from h)
 clear h hr0 hc0
 go_enter Try.func15, Try.ntmps15
 go_wp2
 go_loopg [6] k (fun kq v6 w' => ∃ (x5 : List S31) (x6 : Int), v6 = .int .i64 x6 ∧ Aside0 (iceboxlaw12_Make.l0 kq l0 a1 x5 x6 = some r) ∧ Aside0 (kq ≤ k) ∧ Aside0 (MemIs w w' w.heap.size x5))
 case atStart => exact ⟨[], 0, rfl, H', ⟨Nat.le_refl _⟩, ⟨_, heap_alloc_new w _, Nat.le_refl _, Kd.R_nil _ _ _ _ _, below_alloc (Below.refl _ _) _⟩⟩
 case round =>
  clear H'
  obtain ⟨x5, x6, rfl, HA, HK, HM⟩ := hrel
  cases gk with
  | zero => exact absurd HA.out (by simp [iceboxlaw12_Make.l0])
  | succ k1 =>
   have H := HA.out
   clear HA
   simp only [iceboxlaw12_Make.l0] at H
   obtain ⟨vM, hM1, hM2, hM3, hM4⟩ := id HM.out
   by_cases c1 : x6 < (l0.length : Int)
   ·
    rw [if_pos c1] at H
    by_cases c2 : 0 ≤ x6 ∧ x6 < 9223372036854775000 ∧ 0 ≤ rd l0 x6 ∧ rd l0 x6 ≤ 255 ∧ 0 ≤ a1 ∧ a1 ≤ 255
    ·
     rw [if_pos c2] at H
     obtain ⟨p0, p9, n0, n1, s0, s1⟩ := c2
     obtain ⟨d1, e1, H⟩ := Option.bind_eq_some_iff.mp H
     by_cases c4 : d1.size ≤ 1000
     case neg => rw [if_neg c4] at H; exact absurd H (by simp)
     rw [if_pos c4] at H
     obtain ⟨d2, e2, H⟩ := Option.bind_eq_some_iff.mp H
     have D1 := Aside0.mk e1
     have D2 := Aside0.mk e2
     obtain ⟨y, e3, H⟩ := Option.bind_eq_some_iff.mp H
     have H' := Aside0.mk H
     have CB := Aside0.mk (Kd.C_below HR0.out hM4)
     obtain ⟨ad, e0, hx⟩ := Kd.at_int CB.out x6 p0 c1
     subst e0
     obtain ⟨n, hn⟩ : ∃ n, n = rd l0 x6 := ⟨_, rfl⟩
     rw [← hn] at n0 n1 hx e1 e2 e3 D1 D2
     have c1b : decide (x6 < (l0.length : Int)) = true := decide_eq_true c1
     clear hn e1 e2 H CB
     by_cases c3 : n % 7 = 0
     ·
      rw [if_pos c3] at e3
      have E3 := Aside0.mk e3
      have c3b : (n % 7 == 0) = true := beq_iff_eq.2 c3
      clear e3 c3
      clear hM1 hM2 hM3 hM4
      go_wp2_with (first
       | (go_at_call 29; (with_reducible refine (iceboxref1_Digits.calls k1 (n % (3 + a1 % 40)) d1 _ D1.out).mono ?_); rintro e w1 ⟨rfl, hb1⟩; have M1 := Aside0.mk (HM.out.below hb1); clear HM hb1)
       | (go_at_call 29; (with_reducible refine (iceboxref1_Digits.calls k1 n d2 _ D2.out).mono ?_); rintro e w2 ⟨rfl, hb2⟩; have M2 := Aside0.mk (M1.out.below hb2); clear M1 hb2)
       | (go_at_call 41; (refine (Mem_add.calls w.heap.size x5 y _ _ _ _ w _ (M2.out.below (by repeat (first | exact Below.refl _ _ | apply below_alloc | (refine below_set ?_ (Nat.le_refl _))))) E3.out).mono ?_); rintro e w4 ⟨⟨b, rfl⟩, hI⟩; have M4 := Aside0.mk hI; clear M2 hI))
      go_roundg k1
      case measure => have := HK.out; omega
      case rel => exact ⟨y, x6 + 1, by first | rfl | go_num, H', ⟨by have := HK.out; omega⟩, M4⟩
     ·
      rw [if_neg c3] at e3
      have E3 := Aside0.mk e3
      have c3b : (n % 7 == 0) = false := beq_eq_false_iff_ne.2 c3
      clear e3 c3
      clear hM1 hM2 hM3 hM4
      go_wp2_with (first
       | (go_at_call 29; (with_reducible refine (iceboxref1_Digits.calls k1 (n % (3 + a1 % 40)) d1 _ D1.out).mono ?_); rintro e w1 ⟨rfl, hb1⟩; have M1 := Aside0.mk (HM.out.below hb1); clear HM hb1)
       | (go_at_call 29; (with_reducible refine (iceboxref1_Digits.calls k1 n d2 _ D2.out).mono ?_); rintro e w2 ⟨rfl, hb2⟩; have M2 := Aside0.mk (M1.out.below hb2); clear M1 hb2)
       | (go_at_call 41; (refine (Mem_add.calls w.heap.size x5 y _ _ _ _ w _ (M2.out.below (by repeat (first | exact Below.refl _ _ | apply below_alloc | (refine below_set ?_ (Nat.le_refl _))))) E3.out).mono ?_); rintro e w4 ⟨⟨b, rfl⟩, hI⟩; have M4 := Aside0.mk hI; clear M2 hI))
      go_roundg k1
      case measure => have := HK.out; omega
      case rel => exact ⟨y, x6 + 1, by first | rfl | go_num, H', ⟨by have := HK.out; omega⟩, M4⟩
    ·
     rw [if_neg c2] at H
     exact absurd H (by simp)
   ·
    rw [if_neg c1] at H
    obtain rfl := Option.some.inj H
    obtain ⟨Av, cv, ev⟩ := Kd.R_slice hM3
    subst ev
    have c1b : decide (x6 < (l0.length : Int)) = false := decide_eq_false c1
    have y0 : wr.cell? ⟨w.heap.size, 0, none⟩ = some (.slice Av x5.length cv) := (blk_cell hM1 0).trans rfl
    have M3 := Aside0.mk hM3
    have M4 := Aside0.mk hM4
    clear hM1 hM2 hM3 hM4 H c1
    go_wp2
    go_ret
    exact ⟨_, rfl, M3.out, M4.out⟩

end Go.Proofs.Ytoomipmndapgnaa.PSeekFinds
