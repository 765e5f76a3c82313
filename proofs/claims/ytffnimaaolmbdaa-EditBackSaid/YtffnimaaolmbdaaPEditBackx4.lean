/- The functions that a law reaches, as Lean functions, each with the contract that its Go code comes to just these answers. Written by a program of this claim's author (wip/mkprint.py). No conditions. -/
import Derived.Test.YtffnimaaolmbdaaPEditBackx0
import Derived.Test.YtffnimaaolmbdaaPEditBackx3
namespace Go.Proofs.Ytffnimaaolmbdaa.PEditBack
open Go.RowKit Go.Proofs.YtffnimaaolmbdaaW.PrintWords Go.Proofs.YtffnimaaolmbdaaW.PrintLast Go.Proofs.YtffnimaaolmbdaaW.PrintMore
attribute [local go_sem] max2_int min2_int max_two min_two max_three min_three max_four min_four   -- for this text's walks alone
set_option linter.unusedVariables false
set_option linter.unusedSimpArgs false

def put1.T1 : Bool × List (List Nat × List Nat) := (true, [([], []), ([], []), ([1], [1]), ([2], [2]), ([3], [3]), ([0, 4, 4], [0, 4]), ([5, 5, 0, 1, 2, 3, 4, 5], [5])])
def put1.B1 : List Nat := [0, 0, 2, 6, 14, 31, 63]
theorem put1.tab1 : rtab .any (opsOf Try.f60 1) = put1.T1 := by kernel_rfl
theorem put1.bits1 : waitsOk put1.T1.2 put1.B1 = true := by kernel_rfl
theorem cell_below' {w w1 : World} {a : Addr} {v : Value} (hb : Below w.heap.size w w1) (h : w.cell? a = some v) : w1.cell? a = some v := (hb.cell (World.block_lt_of_cell? w a h)).trans h
theorem Below.lower0 {B B' : Nat} {a w : World} (h : Below B a w) (hb : B' ≤ B) : Below B' a w := ⟨h.os, h.tape, h.output, h.size, fun k hk => h.block k (Nat.lt_of_lt_of_le hk hb)⟩
/-! ### edit_Put and what it leans on -/
set_option maxHeartbeats 4000000 in
set_option maxRecDepth 100000 in
theorem put1 (k : Nat) (S : Nat → Prop) (B base : Nat) (e : Int → List Int) (A : Option Addr) (c : Nat) (l xs : List Int) (w : World) (v : Value)
 (hB : w.heap[B]? = some (.cells #[v] 26 (0, 0))) (hR : Kd.R (Kd.int .u8) 5 w base (fun k => S k ∧ k ≠ B) v xs) (hS : S B) (hSb : ∀ k, S k → base ≤ k) (hSn : ∀ k, w.heap.size ≤ k → S k) (hbase : base ≤ w.heap.size)
 (hl : ∀ W', Kept w W' S → Kd.C (Kd.int .i64) W' A l.length l) (hc : l.length ≤ c) (he : ∀ x ∈ l, num_Put.f k x = some (e x)) (hsz : (xs ++ l.flatMap e).length ≤ 1000000000) (hl2 : l.length ≤ 1000000) :
 Calls Try.prog 60 #[.slice A l.length c, .pointer (some ⟨B, 0, none⟩)] w fun ex w' => ex = .returned (.tuple #[]) ∧ ∃ v', w'.heap[B]? = some (.cells #[v'] 26 (0, 0)) ∧ Kd.R (Kd.int .u8) 5 w' base (fun k => S k ∧ k ≠ B) v' (xs ++ l.flatMap e) ∧ Kept w w' S ∧ Below base w w' := by
 have HB0 := Aside0.mk hB
 have HR0 := Aside0.mk hR
 have HL0 := Aside0.mk hl
 have HE := Aside0.mk he
 have HSZ := Aside0.mk hsz
 have HS := Aside0.mk hS
 have HSB := Aside0.mk hSb
 have HSN := Aside0.mk hSn
 have HBS := Aside0.mk hbase
 clear hB hR hl he hsz hS hSb hSn hbase
 go_enter Try.func60, Try.ntmps60
 go_wp2_with (first
  | (with_reducible refine wp_label ?_) | (with_reducible refine wp_scope_straight ?_) | (simp only [Exit.noGoto_ret, Exit.noGoto_normal, Exit.noGoto_exit]))
 go_loopw [0] (fun v0 wr => ∃ (A' : Option Addr) (c' : Nat) (pre l' : List Int) (v' : Value), v0 = .slice A' l'.length c' ∧ Aside0 (l = pre ++ l') ∧ Aside0 (l'.length ≤ c') ∧ Aside0 (∀ W', Kept wr W' S → Kd.C (Kd.int .i64) W' A' l'.length l') ∧ Aside0 (wr.heap[B]? = some (.cells #[v'] 26 (0, 0))) ∧ Aside0 (Kd.R (Kd.int .u8) 5 wr base (fun k => S k ∧ k ≠ B) v' (xs ++ pre.flatMap e)) ∧ Aside0 (Kept w wr S) ∧ Aside0 (Below base w wr)) (fun v0 _ => match v0 with | .slice _ n _ => n | _ => 0)
 case atStart => exact ⟨A, c, [], l, v, rfl, ⟨rfl⟩, ⟨hc⟩, HL0, HB0, ⟨by simpa using HR0.out⟩, ⟨Kept.refl _ _⟩, ⟨Below.refl _ _⟩⟩
 case round =>
  obtain ⟨A', c', pre, l', v', e0, EL, HC', HLr, HBr, HRr, HKr, HBe⟩ := hrel
  subst e0
  cases l' with
  | nil =>
   go_wp2_with (first
    | (with_reducible refine wp_label ?_) | (with_reducible refine wp_scope_straight ?_) | (simp only [Exit.noGoto_ret, Exit.noGoto_normal, Exit.noGoto_exit]))
   go_end0
   exact ⟨rfl, v', HBr.out, by rw [EL.out, List.append_nil]; exact HRr.out, HKr.out, HBe.out⟩
  | cons x t =>
   obtain ⟨ad, ead, hx⟩ := Kd.at_int (HLr.out wr (Kept.refl _ _)) 0 (Int.le_refl _) (by rw [List.length_cons]; omega)
   subst ead
   have hx0 : wr.cell? ad = some (.int .i64 x) := hx
   have HXl := Aside0.mk (show x ∈ l by rw [EL.out]; simp)
   have SZL := Aside0.mk (show ((xs ++ pre.flatMap e).length + (e x).length) * 1 ≤ 140737488355328 by
    have h1 := HSZ.out
    rw [EL.out] at h1
    simp only [List.flatMap_append, List.flatMap_cons, List.length_append] at h1 ⊢
    omega)
   have p0 : decide ((0 : Int) < ((x :: t).length : Int)) = true := decide_eq_true (by rw [List.length_cons]; omega)
   have p1 : (((x :: t).length : Int) == 0) = false := by rw [beq_eq_false_iff_ne, List.length_cons]; omega
   have p2 : (0 : Int) < ((x :: t).length : Int) := by rw [List.length_cons]; omega
   clear hx
   go_wp2_with (first
    | (with_reducible refine wp_label ?_) | (with_reducible refine wp_scope_straight ?_) | (simp only [Exit.noGoto_ret, Exit.noGoto_normal, Exit.noGoto_exit]))
   have HBd := Aside0.mk (blk_drew HBr.out)
   have HRd := Aside0.mk (Kd.R_drew HRr.out)
   have HLd := Aside0.mk (Kd.C_kept_step HLr.out (Kept.drew (Kept.refl wr S)))
   have HKd := Aside0.mk (Kept.drew HKr.out)
   have HBed := Aside0.mk (below_drew HBe.out)
   have cB : wr.drew.cell? ⟨B, 0, none⟩ = some v' := (blk_cell HBd.out 0).trans rfl
   have cX : wr.drew.cell? ad = some (.int .i64 x) := hx0
   clear hx0 HBr HRr HLr HKr HBe
   refine start_ (n := 7) (S := fun w' => w'.cell? ⟨B, 0, none⟩ = some v' ∧ w'.cell? ad = some (.int .i64 x)) (ds := [6]) #[false, false, false, false, false, false, false] (by kernel_rfl) rfl rfl ⟨cB, cX⟩ (fun hHeld => ?_); refine with_tabW put1.tab1 put1.bits1 (fun HT_ HW_ => ?_)
   generalize ewd : wr.drew = wd at HLd HBd HRd HKd HBed cB cX hHeld ⊢
   clear ewd
   refine pure_ (i := 1) (N := some 7) (v := ?_) (a' := ?_) #[false, true, false, false, false, false, false] rfl rfl (any_of HT_.out (by kernel_rfl)) (fun _ _ _ h => h) (Or.inl ⟨by rfl, ?_⟩) ?_ ?_
   rotate_left
   ·
    intro w'
    go_simp
    with_reducible rfl
   rotate_left
   ·
    simp only [Act.put, List.setIfInBounds_toArray, List.set_cons_zero, List.set_cons_succ, i64_w, i32_w]
    rfl

   refine take_ (i := 0) (N := some 6) (v := ?_) (a' := ?_) #[true, true, false, false, false, false, false] rfl rfl (take_ofW HT_.out HW_.out (by kernel_rfl)) (fun _ _ _ h => h) (Or.inl ⟨by rfl, ?_⟩) hHeld ?_ ?_
   rotate_left
   ·
    rintro w' ⟨s0, s1⟩
    go_simp
    with_reducible rfl
   rotate_left
   ·
    simp only [Act.put, List.setIfInBounds_toArray, List.set_cons_zero, List.set_cons_succ, i64_w, i32_w]
    rfl

   refine pure_ (i := 2) (N := some 8) (v := ?_) (a' := ?_) #[true, true, true, false, false, false, false] rfl rfl (any_of HT_.out (by kernel_rfl)) (fun _ _ _ h => h) (Or.inl ⟨by rfl, ?_⟩) ?_ ?_
   rotate_left
   ·
    intro w'
    go_simp
    with_reducible rfl
   rotate_left
   ·
    simp only [Act.put, List.setIfInBounds_toArray, List.set_cons_zero, List.set_cons_succ, i64_w, i32_w]
    rfl

   refine take_ (i := 3) (N := some 9) (v := ?_) (a' := ?_) #[true, true, true, true, false, false, false] rfl rfl (take_ofW HT_.out HW_.out (by kernel_rfl)) (fun _ _ _ h => h) (Or.inl ⟨by rfl, ?_⟩) hHeld ?_ ?_
   rotate_left
   ·
    rintro w' ⟨s0, s1⟩
    go_simp
    with_reducible rfl
   rotate_left
   ·
    simp only [Act.put, List.setIfInBounds_toArray, List.set_cons_zero, List.set_cons_succ, i64_w, i32_w]
    rfl

   refine one_ (i := 4) (N := some 10) #[true, true, true, true, true, false, false] rfl rfl (one_of HT_.out (by kernel_rfl)) (by decide) (fun K hK => ?_)
   refine goes_ Try.func61 (by kernel_rfl) rfl #[.int .i64 x] (by rfl) rfl rfl (by first | rfl | (simp [Act.eval]; done) | (go_simp; done) | (simp [Act.eval]; rfl)) ?_
   refine (num_Put.calls k x (e x) wd (HE.out x HXl.out)).mono ?_
   rintro e1 w1 ⟨v1, rfl, hr1, hb1⟩
   have HB1 := Aside0.mk (blk_below HBd.out hb1)
   have HR1 := Aside0.mk (Kd.R_elder' HRd.out (Kd.R_base hr1) hb1)
   have HV1 := Aside0.mk hr1
   have HK1 := Aside0.mk (HKd.out.below hb1)
   have HBe1 := Aside0.mk (HBed.out.trans (Below.lower0 hb1 (by have := HKd.out.1; have := HBS.out; omega)))
   have HL1 := Aside0.mk (Kd.C_kept_step HLd.out (Kept.of_below hb1 S))
   have c1 : w1.cell? ⟨B, 0, none⟩ = some v' := (blk_cell HB1.out 0).trans rfl
   have x1 := cell_below' hb1 cX
   have LT := Aside0.mk (Kd.R_lt hr1)
   have LE := Aside0.mk (below_size hb1)
   clear hb1 hr1 hHeld
   refine ⟨_, rfl, hK.out _ _ ⟨c1, x1⟩ (fun hHeld => ?_)⟩
   clear hK K
   refine norm_ (a' := ?_) ?_ ?_
   rotate_left
   ·
    show Act.put _ (some 10) _ = _
    simp only [Act.put, List.setIfInBounds_toArray, List.set_cons_zero, List.set_cons_succ, i64_w, i32_w]
    rfl
   refine one_ (i := 5) (N := some 11) #[true, true, true, true, true, true, false] rfl rfl (one_of HT_.out (by kernel_rfl)) (by decide) (fun K hK => ?_)
   obtain ⟨Av, cv, ev⟩ := Kd.R_slice HV1.out
   subst ev
   refine Kd.R_append_rows_step (Kd.int .u8) (w0 := w) base (by rfl) (.tmp 6) (.tmp 10) 26 5 (.int .u8 0) 1 rfl Try.underlying26 info5 rfl (by decide) (by omega) v' (xs ++ pre.flatMap e) (e x) _ _ _ (fun k_ => (S k_ ∧ k_ ≠ B) ∧ some k_ ≠ (.slice Av (e x).length cv : Value).ownBlock) (fun _ => False) rfl rfl HR1.out (Kd.R_reads' HV1.out).2.2 (fun _ _ h => h) (fun _ h => h.elim) ?aF HBe1.out ?aS ?aL ?_
   case aF => exact fun k_ hk => ⟨⟨HSN.out k_ (by have := LE.out; have := HKd.out.1; omega), by have := blk_lt HB1.out; omega⟩, Kd.fresh' LT.out k_ hk⟩
   case aS => have := LE.out; have := HKd.out.1; have := HBS.out; omega
   case aL => exact SZL.out
   intro v2 w2 ho hb hg hat
   generalize ezs : xs ++ List.flatMap e pre ++ e x = zs at ho
   have EZ := Aside0.mk ezs
   clear ezs
   obtain ⟨A2, cc2, ev2⟩ := Kd.R_slice ho
   subst ev2
   have HB2 := Aside0.mk (blk_grown HB1.out hg (fun q => (HR1.out.1 B q.symm).1.2 rfl))
   have HK2 := Aside0.mk (Kept.of_grown hg HK1.out (fun q hq => Or.inl (HR1.out.1 q hq).1.1))
   have HL2 := Aside0.mk (Kd.C_kept_step HL1.out (Kept.of_grown hg (Kept.refl w1 S) (fun q hq => Or.inl (HR1.out.1 q hq).1.1)))
   have HR2 := Aside0.mk ho
   have HBe2 := Aside0.mk hb
   have c2 : w2.cell? ⟨B, 0, none⟩ = some v' := (blk_cell HB2.out 0).trans rfl
   have x2 : w2.cell? ad = some (.int .i64 x) := by
    obtain ⟨ad', e', hx'⟩ := Kd.at_int (HL2.out w2 (Kept.refl _ _)) 0 (Int.le_refl _) (by rw [List.length_cons]; omega)
    cases e'
    exact hx'
   have f2 := blk_frozen HB2.out 0
   clear ho hb hg hat c1 x1
   refine hK.out _ _ ⟨c2, x2⟩ (fun hHeld => ?_)
   clear hK K
   refine norm_ (a' := ?_) ?_ ?_
   rotate_left
   ·
    show Act.put _ (some 11) _ = _
    simp only [Act.put, List.setIfInBounds_toArray, List.set_cons_zero, List.set_cons_succ, i64_w, i32_w]
    rfl
   refine last_ (i := 6) (N := none) #[true, true, true, true, true, true, true] rfl rfl (one_of HT_.out (by kernel_rfl)) (by decide) (fun K hK => ?_)
   refine skip_ (w1 := ?_) (by rfl) rfl ?_ ?_
   rotate_left
   ·
    go_simp
    rfl
   refine hK.out _ _ ?_
   clear hK K
   refine done_ (done_of HT_.out (by kernel_rfl)) ?_
   have HB3 := Aside0.mk (blk_put HB2.out 0 (.slice A2 zs.length cc2) rfl)
   have HR3 := Aside0.mk (Kd.R_mono (Kd.R_far HR2.out (p := ⟨B, 0, none⟩) (fun q hq => hq.1.2) (.slice A2 zs.length cc2)) (fun _ hk => hk.1))
   have HK3 := Aside0.mk (Kept.setCell HK2.out (p := ⟨B, 0, none⟩) (Or.inl HS.out) (.slice A2 zs.length cc2))
   have HL3 := Aside0.mk (Kd.C_kept_step HL2.out (Kept.setCell (Kept.refl w2 S) (p := ⟨B, 0, none⟩) (Or.inl HS.out) (.slice A2 zs.length cc2)))
   have HBe3 := Aside0.mk (Below.setCell HBe2.out (HSB.out B HS.out) (.slice A2 zs.length cc2) (p := ⟨B, 0, none⟩))
   clear c2 x2 f2 hHeld
   generalize w2.setCell ⟨B, 0, none⟩ (.slice A2 zs.length cc2) = w3 at HB3 HR3 HK3 HL3 HBe3 ⊢
   have s0 : (1 : Int) ≤ ((x :: t).length : Int) := by rw [List.length_cons]; omega
   have s1 : (1 : Int) ≤ (c' : Int) := by have := HC'.out; rw [List.length_cons] at this; omega
   have s2 : ((x :: t).length : Int) ≤ (c' : Int) := by have := HC'.out; omega
   clear p0 p1 p2
   go_wp2_with (first
    | (with_reducible refine wp_label ?_) | (with_reducible refine wp_scope_straight ?_) | (simp only [Exit.noGoto_ret, Exit.noGoto_normal, Exit.noGoto_exit]))
   refine ⟨⟨_, c' - 1, pre ++ [x], t, _, rfl, ⟨by rw [EL.out]; simp⟩, ⟨by have := HC'.out; rw [List.length_cons] at this; omega⟩, ⟨fun W' hk => ?_⟩, ⟨HB3.out⟩, ⟨?_⟩, HK3, HBe3⟩, ?_⟩
   ·
    have h := Kd.C_drop (c := c') (m := 1) (HL3.out W' hk) (by rw [List.length_cons]; omega) HC'.out
    exact h
   ·
    rw [show xs ++ List.flatMap e (pre ++ [x]) = zs by rw [← EZ.out]; simp]
    exact HR3.out
   ·
    show t.length < (x :: t).length
    rw [List.length_cons]; omega
theorem lit_R (l : List Int) (W : World) (hl : l.length ≤ 1000000) : Kd.R (Kd.int .i64) 3 (W.alloc (.cells (l.map (Value.int .i64)).toArray 3)) W.heap.size (fun k => k = W.heap.size) (.slice (some ⟨W.heap.size, 0, none⟩) l.length l.length) l := by
 have h2 := World.ownsRow_lit (base := W.heap.size) (e := 3) (size := 1) W (l.map (Value.int .i64)).toArray l.length (Nat.le_refl _) (by unfold maxLen; omega) (by simp)
 refine Kd.R_of_own (enc := Value.int .i64) (by simpa [encs] using h2) (fun k hk => ?_)
 have : W.heap.size = k := by simpa [Value.ownBlock] using hk
 exact this.symm
theorem lit_C (l : List Int) (W : World) (hl : l.length ≤ 1000000) (S : Nat → Prop) (hS : ¬ S W.heap.size) : ∀ W', Kept (W.alloc (.cells (l.map (Value.int .i64)).toArray 3)) W' S → Kd.C (Kd.int .i64) W' (some ⟨W.heap.size, 0, none⟩) l.length l :=
 Kd.C_kept_own (lit_R l W hl) (fun k hk => by rw [hk]; exact hS)
/-! what edit.Put comes to -/
def pencs (k : Nat) : List Int → Option (List Int)
 | [] => some []
 | x :: t => (num_Put.f k x).bind fun a => (pencs k t).bind fun b => some (a ++ b)
theorem pencs_mono : ∀ l k, LeO (pencs k l) (pencs (k + 1) l)
 | [], k => LeO.refl _
 | x :: t, k => LeO.bind (num_Put.mono _ _) (fun a => LeO.bind (pencs_mono t k) (fun b => LeO.refl _))
def encE (k : Nat) (x : Int) : List Int := (num_Put.f k x).getD []
theorem pencs_some (k : Nat) : ∀ (l ys : List Int), pencs k l = some ys → (∀ x ∈ l, num_Put.f k x = some (encE k x)) ∧ ys = l.flatMap (encE k)
 | [], ys, h => ⟨fun x hx => by (cases hx), by injection h with h; exact h.symm⟩
 | x :: t, ys, h => by
  rw [pencs] at h
  obtain ⟨a, ha, h⟩ := Option.bind_eq_some_iff.1 h
  obtain ⟨b, hb, h⟩ := Option.bind_eq_some_iff.1 h
  injection h with h
  obtain ⟨i1, i2⟩ := pencs_some k t b hb
  have ea : encE k x = a := by unfold encE; rw [ha]; rfl
  refine ⟨fun y hy => ?_, by rw [List.flatMap_cons, ← i2, ea]; exact h.symm⟩
  rcases List.mem_cons.1 hy with e | e
  · rw [e, ea]; exact ha
  · exact i1 y e
def encT (k : Nat) (t : S31) : Option (List Int) := (pencs k [t.f0, t.f1, t.f2]).bind fun a => (num_PutText.f k t.f3).bind fun b => (num_PutText.f k t.f4).bind fun c => (edit_where.f t.f0 t.f1 t.f2 t.f3 t.f4 t.f5 t.f6 t.f7 t.f8).bind fun wh => (pencs k [t.f5, t.f6, wh]).bind fun d => some (a ++ b ++ c ++ d)
theorem encT_mono (t : S31) (k : Nat) : LeO (encT k t) (encT (k + 1) t) :=
 LeO.bind (pencs_mono _ _) fun _ => LeO.bind (num_PutText.mono _ _) fun _ => LeO.bind (num_PutText.mono _ _) fun _ => LeO.bind (LeO.refl _) fun _ => LeO.bind (pencs_mono _ _) fun _ => LeO.refl _
def encTs (k : Nat) : List S31 → Option (List Int)
 | [] => some []
 | x :: t => (encT k x).bind fun a => (encTs k t).bind fun b => some (a ++ b)
theorem encTs_mono : ∀ l k, LeO (encTs k l) (encTs (k + 1) l)
 | [], k => LeO.refl _
 | x :: t, k => LeO.bind (encT_mono _ _) (fun a => LeO.bind (encTs_mono t k) (fun b => LeO.refl _))
def putEd (k : Nat) (a0 a1 a2 a3 : Int) (l4 : List S31) (l5 : List Int) : Option (List Int) :=
 (pencs k [a0, a1, a2, a3, (l4.length : Int)]).bind fun a => (encTs k l4).bind fun b => (pencs k [(l5.length : Int)]).bind fun c => (pencs k l5).bind fun d =>
  if l4.length ≤ 1000000 ∧ l5.length ≤ 1000000 ∧ (a ++ b ++ c ++ d).length ≤ 1000000000 then some (a ++ b ++ c ++ d) else none
def edit_Put.f (k : Nat) (a0_0 a0_1 a0_2 a0_3 : Int) (l0_4 : List S31) (l0_5 : List Int) : Option (List Int) :=
 (edit_May.f k a0_0 a0_1 a0_2 a0_3 l0_4 l0_5).bind fun t => if t = true then putEd k a0_0 a0_1 a0_2 a0_3 l0_4 l0_5 else some []
theorem edit_Put.mono : ∀ a0 a1 a2 a3 a4 a5 k, LeO (edit_Put.f k a0 a1 a2 a3 a4 a5) (edit_Put.f (k + 1) a0 a1 a2 a3 a4 a5) := fun a0 a1 a2 a3 a4 a5 k =>
 LeO.bind (edit_May.mono _ _ _ _ _ _ _) fun _ => LeO.ite (LeO.bind (pencs_mono _ _) fun _ => LeO.bind (encTs_mono _ _) fun _ => LeO.bind (pencs_mono _ _) fun _ => LeO.bind (pencs_mono _ _) fun _ => LeO.refl _) (LeO.refl _)
/-- Block B has the bytes so far. -/
def OI (base B : Nat) (X : Nat → Prop) (w : World) (xs : List Int) : Prop := ∃ v, w.heap[B]? = some (.cells #[v] 26 (0, 0)) ∧ Kd.R (Kd.int .u8) 5 w base (fun k => (base ≤ k ∧ ¬ X k) ∧ k ≠ B) v xs
theorem put2 (k : Nat) (X : Nat → Prop) (B base : Nat) (A : Option Addr) (c : Nat) (l xs ys : List Int) (w : World) (hO : OI base B X w xs) (hbB : base ≤ B) (hBX : ¬ X B) (hXs : ∀ q, X q → q < w.heap.size) (hbase : base ≤ w.heap.size)
 (hl : ∀ W', Kept w W' (fun q => base ≤ q ∧ ¬ X q) → Kd.C (Kd.int .i64) W' A l.length l) (hc : l.length ≤ c) (hy : pencs k l = some ys) (hsz : (xs ++ ys).length ≤ 1000000000) (hl2 : l.length ≤ 1000000) :
 Calls Try.prog 60 #[.slice A l.length c, .pointer (some ⟨B, 0, none⟩)] w fun ex w' => ex = .returned (.tuple #[]) ∧ OI base B X w' (xs ++ ys) ∧ Kept w w' (fun q => base ≤ q ∧ ¬ X q) ∧ Below base w w' := by
 obtain ⟨v, h1, h2⟩ := hO
 obtain ⟨e1, e2⟩ := pencs_some k l ys hy
 subst e2
 refine (put1 k (fun q => base ≤ q ∧ ¬ X q) B base (encE k) A c l xs w v h1 h2 ⟨hbB, hBX⟩ (fun q hq => hq.1) (fun q hq => ⟨Nat.le_trans hbase hq, fun hx => by have := hXs q hx; omega⟩) hbase hl hc e1 hsz hl2).mono ?_
 rintro ex w' ⟨rfl, v', g1, g2, g3, g4⟩
 exact ⟨rfl, ⟨v', g1, g2⟩, g3, g4⟩
/-- One more block is kept, a new one. -/
theorem OI.add {base B : Nat} {X X' : Nat → Prop} {w w' : World} {xs : List Int} (h : OI base B X w xs) (hk : Below w.heap.size w w') (hX : ∀ q, X' q → X q ∨ w.heap.size ≤ q) : OI base B X' w' xs := by
 obtain ⟨v, h1, h2⟩ := h
 refine ⟨v, blk_below h1 hk, Kd.R_below (Kd.R_mono (Kd.R_bound h2) (fun q hq => ⟨⟨hq.1.1.1, fun hx => ?_⟩, hq.1.2⟩)) hk⟩
 rcases hX q hx with e | e
 · exact hq.1.1.2 e
 · have := hq.2.2.1; omega
/-- .. of a list that is written out. -/
theorem put3 (k : Nat) (X : Nat → Prop) (B base g : Nat) (l xs ys : List Int) (w : World) (hg : w.heap.size = g) (hO : OI base B X w xs) (hbB : base ≤ B) (hBX : ¬ X B) (hXs : ∀ q, X q → q < w.heap.size) (hbase : base ≤ w.heap.size)
 (hy : pencs k l = some ys) (hsz : (xs ++ ys).length ≤ 1000000000) (hl2 : l.length ≤ 1000000) :
 Calls Try.prog 60 #[.slice (some ⟨g, 0, none⟩) l.length l.length, .pointer (some ⟨B, 0, none⟩)] (w.alloc (.cells (l.map (Value.int .i64)).toArray 3)) fun ex w' => ex = .returned (.tuple #[]) ∧ OI base B X w' (xs ++ ys) ∧ Kept w w' (fun q => base ≤ q ∧ ¬ X q) ∧ Below base w w' := by
 subst hg
 have hB : B < w.heap.size := by obtain ⟨v, h1, _⟩ := hO; exact blk_lt h1
 have e1 : (w.alloc (.cells (l.map (Value.int .i64)).toArray 3)).heap.size = w.heap.size + 1 := Array.size_push ..
 refine (put2 k (fun q => X q ∨ q = w.heap.size) B base _ l.length l xs ys _ (OI.add hO (below_alloc (Below.refl w.heap.size w) _) (fun q hq => hq.imp_right (fun e => by omega))) hbB (fun h => h.elim hBX (fun e => by omega)) (fun q hq => ?_) (by omega) (lit_C l w hl2 _ (fun h => h.2 (Or.inr rfl))) (Nat.le_refl _) hy hsz hl2).mono ?_
 ·
  rcases hq with e | e
  · have := hXs q e; omega
  · omega
 ·
  rintro ex w' ⟨rfl, ⟨v, h1, h2⟩, h3, h4⟩
  refine ⟨rfl, ⟨v, h1, Kd.R_mono h2 (fun q hq => ⟨⟨hq.1.1, fun hx => hq.1.2 (Or.inl hx)⟩, hq.2⟩)⟩, ?_, (Below.lower0 (below_alloc (Below.refl w.heap.size w) _) hbase).trans h4⟩
  exact Kept.then_ (Kept.of_below (below_alloc (Below.refl w.heap.size w) _) _) h3 (fun q hq => Or.inl ⟨hq.1, fun hx => hq.2 (Or.inl hx)⟩)
theorem OI.start (base : Nat) (X : Nat → Prop) (w : World) (hbase : base ≤ w.heap.size) : OI base w.heap.size X (w.alloc (.cells #[.slice none 0 0] 26)) [] := ⟨_, blk_new w _, Kd.R_nil _ _ _ _ _⟩
theorem OI.reX {base B : Nat} {X X' : Nat → Prop} {w : World} {xs : List Int} (h : OI base B X w xs) (hX : ∀ q, X' q → X q) : OI base B X' w xs := by
 obtain ⟨v, h1, h2⟩ := h
 exact ⟨v, h1, Kd.R_mono h2 (fun q hq => ⟨⟨hq.1.1, fun hx => hq.1.2 (hX q hx)⟩, hq.2⟩)⟩
theorem goesC_ {P : Program} {ops : Array Oper} {Q : Exit → Act → World → Prop} {oi : Oper} {N : Option Tmp} {a : Act} {w : World} {K : Act → World → Prop} {f : FuncId} {t : Tmp} {fn : Func} {as_ : Array Operand} {ts : Array TypeId} {cap : Array Value} (hf : P.funcs[f]? = some fn) (hname : (fn.name == "runtime.NumGoroutine") = false) (hb : fn.body.isSome = true) (args : Array Value)
 (hw : Region.wanted oi (yielded ops a.tmps) = true) (hN : oi.dst = N) (hop : oi.op = .call { callee := .value (.tmp t), args := as_, argTypes := ts }) (hv : a.tmps.getD t undef = .func (.func f) #[] cap) (hargs : as_.map a.eval ++ cap = args)
 (h : Calls P f args w fun e w' => ∃ v, e = .returned v ∧ K (a.put N v) w') : if Region.wanted oi (yielded ops a.tmps) = true then Oper.wp P oi a w K Q else K (a.put N undef) w := by
 refine call_ f args hw hN ?_ h
 have he := enters_ hf hname hb args w
 unfold execOp
 simp [hop, hv, resolve, Deferred.ofValue, invoke, Act.eval, hargs, he]
def put.T10 : Bool × List (List Nat × List Nat) := (true, [([], []), ([], []), ([1], [1]), ([2], [2]), ([0, 3, 3], [0, 3]), ([4, 4, 0, 1, 2, 3, 4], [4])])
def put.B10 : List Nat := [0, 0, 2, 6, 15, 31]
theorem put.tab10 : rtab .any (opsOf Try.f21 10) = put.T10 := by kernel_rfl
theorem put.bits10 : waitsOk put.T10.2 put.B10 = true := by kernel_rfl
def put.T11 : Bool × List (List Nat × List Nat) := (true, [([], []), ([], []), ([1], [1]), ([2], [2]), ([0, 3, 3], [0, 3]), ([4, 4, 0, 1, 2, 3, 4], [4])])
def put.B11 : List Nat := [0, 0, 2, 6, 15, 31]
theorem put.tab11 : rtab .any (opsOf Try.f21 11) = put.T11 := by kernel_rfl
theorem put.bits11 : waitsOk put.T11.2 put.B11 = true := by kernel_rfl
def put.T12 : Bool × List (List Nat × List Nat) := (true, [([], []), ([], []), ([1], [1]), ([], []), ([3], [3]), ([], []), ([5], [5]), ([2, 4, 6], [2, 4, 6]), ([0, 7, 6], [0, 7])])
def put.B12 : List Nat := [0, 0, 2, 0, 8, 0, 32, 126, 255]
theorem put.tab12 : rtab .any (opsOf Try.f21 12) = put.T12 := by kernel_rfl
theorem put.bits12 : waitsOk put.T12.2 put.B12 = true := by kernel_rfl
def encTE (k : Nat) (t : S31) : List Int := (encT k t).getD []
theorem encTs_some (k : Nat) : ∀ (l : List S31) (ys : List Int), encTs k l = some ys → (∀ x ∈ l, encT k x = some (encTE k x)) ∧ ys = l.flatMap (encTE k)
 | [], ys, h => ⟨fun x hx => by (cases hx), by injection h with h; exact h.symm⟩
 | x :: t, ys, h => by
  rw [encTs] at h
  obtain ⟨a, ha, h⟩ := Option.bind_eq_some_iff.1 h
  obtain ⟨b, hb, h⟩ := Option.bind_eq_some_iff.1 h
  injection h with h
  obtain ⟨i1, i2⟩ := encTs_some k t b hb
  have ea : encTE k x = a := by unfold encTE; rw [ha]; rfl
  refine ⟨fun y hy => ?_, by rw [List.flatMap_cons, ← i2, ea]; exact h.symm⟩
  rcases List.mem_cons.1 hy with e | e
  · rw [e, ea]; exact ha
  · exact i1 y e
theorem encT_some (k : Nat) (t : S31) (ys : List Int) (h : encT k t = some ys) : ∃ ya yb yc wh yd, pencs k [t.f0, t.f1, t.f2] = some ya ∧ num_PutText.f k t.f3 = some yb ∧ num_PutText.f k t.f4 = some yc ∧ edit_where.f t.f0 t.f1 t.f2 t.f3 t.f4 t.f5 t.f6 t.f7 t.f8 = some wh ∧ pencs k [t.f5, t.f6, wh] = some yd ∧ ys = ya ++ yb ++ yc ++ yd := by
 unfold encT at h
 obtain ⟨ya, h1, h⟩ := Option.bind_eq_some_iff.1 h
 obtain ⟨yb, h2, h⟩ := Option.bind_eq_some_iff.1 h
 obtain ⟨yc, h3, h⟩ := Option.bind_eq_some_iff.1 h
 obtain ⟨wh, h4, h⟩ := Option.bind_eq_some_iff.1 h
 obtain ⟨yd, h5, h⟩ := Option.bind_eq_some_iff.1 h
 injection h with h
 exact ⟨ya, yb, yc, wh, yd, h1, h2, h3, h4, h5, h.symm⟩
theorem rdE31_get (l : List S31) (i : Nat) (h : i < l.length) : rd_T31 l (i : Int) = l[i] := by
 unfold rd_T31
 rw [Int.toNat_natCast, List.getD_eq_getElem?_getD, List.getElem?_eq_getElem h]; rfl
theorem cells6 {w : World} {g : Nat} {a b c d e f : Value} {t : TypeId} (h : w.heap[g]? = some (.cells #[a, b, c, d, e, f] t (0, 0))) : w.cell? ⟨g, 0, none⟩ = some a ∧ w.cell? ⟨g, 1, none⟩ = some b ∧ w.cell? ⟨g, 2, none⟩ = some c ∧ w.cell? ⟨g, 3, none⟩ = some d ∧ w.cell? ⟨g, 4, none⟩ = some e ∧ w.cell? ⟨g, 5, none⟩ = some f :=
 ⟨(blk_cell h 0).trans rfl, (blk_cell h 1).trans rfl, (blk_cell h 2).trans rfl, (blk_cell h 3).trans rfl, (blk_cell h 4).trans rfl, (blk_cell h 5).trans rfl⟩
theorem cells9 {w : World} {gb : Nat} {a b c d e f g h i : Value} {t : TypeId} (hh : w.heap[gb]? = some (.cells #[a, b, c, d, e, f, g, h, i] t (0, 0))) : w.cell? ⟨gb, 0, none⟩ = some a ∧ w.cell? ⟨gb, 1, none⟩ = some b ∧ w.cell? ⟨gb, 2, none⟩ = some c ∧ w.cell? ⟨gb, 3, none⟩ = some d ∧ w.cell? ⟨gb, 4, none⟩ = some e ∧ w.cell? ⟨gb, 5, none⟩ = some f ∧ w.cell? ⟨gb, 6, none⟩ = some g ∧ w.cell? ⟨gb, 7, none⟩ = some h ∧ w.cell? ⟨gb, 8, none⟩ = some i :=
 ⟨(blk_cell hh 0).trans rfl, (blk_cell hh 1).trans rfl, (blk_cell hh 2).trans rfl, (blk_cell hh 3).trans rfl, (blk_cell hh 4).trans rfl, (blk_cell hh 5).trans rfl, (blk_cell hh 6).trans rfl, (blk_cell hh 7).trans rfl, (blk_cell hh 8).trans rfl⟩
set_option maxHeartbeats 4000000 in
set_option maxRecDepth 100000 in
theorem put_walk (k : Nat) (a0 a1 a2 a3 : Int) (A4 : Option Addr) (c4 : Nat) (l4 : List S31) (A5 : Option Addr) (c5 : Nat) (l5 r : List Int) (w : World) (hr4 : Kd.C k31 w A4 l4.length l4) (hc4 : l4.length ≤ c4) (hr5 : Kd.C (Kd.int .i64) w A5 l5.length l5) (hc5 : l5.length ≤ c5)
 (hM : edit_May.f k a0 a1 a2 a3 l4 l5 = some true) (h : putEd k a0 a1 a2 a3 l4 l5 = some r) :
 Calls Try.prog 21 #[.agg #[.int .i64 a0, .int .i64 a1, .int .i64 a2, .int .i64 a3, .slice A4 l4.length c4, .slice A5 l5.length c5]] w fun e w' => ∃ v0_ : Value, e = .returned v0_ ∧ Kd.R (Kd.int .u8) 5 w' w.heap.size (fun _ => True) v0_ r ∧ Below w.heap.size w w' := by
 have hu25 := Try.underlying25
 have hu31 := Try.underlying31
 unfold putEd at h
 obtain ⟨xa, ha, h⟩ := Option.bind_eq_some_iff.1 h
 obtain ⟨xb, hb, h⟩ := Option.bind_eq_some_iff.1 h
 obtain ⟨xc, hc, h⟩ := Option.bind_eq_some_iff.1 h
 obtain ⟨xd, hd, h⟩ := Option.bind_eq_some_iff.1 h
 by_cases hz : l4.length ≤ 1000000 ∧ l5.length ≤ 1000000 ∧ (xa ++ xb ++ xc ++ xd).length ≤ 1000000000
 case neg => rw [if_neg hz] at h; cases h
 rw [if_pos hz] at h
 injection h with h
 have HR4 := Aside0.mk hr4
 have HC4 := Aside0.mk hc4
 have HR5 := Aside0.mk hr5
 have HC5 := Aside0.mk hc5
 have HM := Aside0.mk hM
 have HA := Aside0.mk ha
 have HBb := Aside0.mk hb
 have HCc := Aside0.mk hc
 have HD := Aside0.mk hd
 have HZ := Aside0.mk hz
 have HE := Aside0.mk h
 clear hr4 hc4 hr5 hc5 hM ha hb hc hd hz h
 obtain ⟨gb, egb⟩ : ∃ gb, gb = w.heap.size := ⟨_, rfl⟩
 have EGB := Aside0.mk egb
 clear egb
 go_enter Try.func21, Try.ntmps21
 go_wp2_with (first
  | (with_reducible refine wp_label ?_) | (with_reducible refine wp_scope_straight ?_) | (simp only [Exit.noGoto_ret, Exit.noGoto_normal, Exit.noGoto_exit])
  | (go_at_call 19; refine (edit_May.calls k a0 a1 a2 a3 A4 c4 l4 A5 c5 l5 true _ (Kd.C_alloc HR4.out _) HC4.out (Kd.C_alloc HR5.out _) HC5.out HM.out).mono ?_; rintro e w1 ⟨rfl, hb1⟩; have HB1 := Aside0.mk (below_step (below_alloc (Below.refl w.heap.size w) _) hb1); have G1 := Aside0.mk (blk_below (blk_new w _) hb1); obtain ⟨d0, d1, d2, d3, d4, d5⟩ := cells6 (blk_alloc G1.out (.cells #[.slice none 0 0] 26)); have hz1 : (w1.alloc (.cells #[.slice none 0 0] 26)).heap.size = w1.heap.size + 1 := Array.size_push ..; have hw1 := below_size HB1.out; have P1 := Aside0.mk (put3 k (fun q => q = w.heap.size) w1.heap.size w.heap.size (w1.heap.size + 1) [a0, a1, a2, a3, (l4.length : Int)] [] xa (w1.alloc (.cells #[.slice none 0 0] 26)) hz1 (OI.start w.heap.size _ w1 hw1) hw1 (fun e => by have := blk_lt G1.out; omega) (fun q hq => by have := blk_lt G1.out; omega) (by omega) HA.out (by have := HZ.out.2.2; simp only [List.length_append, List.nil_append] at this ⊢; omega) (by simp)); clear hb1 hz1)
  | (go_at_call 60; refine P1.out.mono ?_; rintro e w2 ⟨rfl, hO, hK, hB⟩; have O2 := Aside0.mk hO; have G2 := Aside0.mk (blk_kept (blk_alloc G1.out (.cells #[.slice none 0 0] 26)) hK (fun h => h.2 rfl)); have B2 := Aside0.mk ((below_alloc HB1.out (.cells #[.slice none 0 0] 26)).trans hB); have K2 := Aside0.mk hK; clear hO hK hB d0 d1 d2 d3 d4 d5; obtain ⟨d0, d1, d2, d3, d4, d5⟩ := cells6 G2.out)
  | fail)
 obtain ⟨B, eB⟩ : ∃ B, B = w1.heap.size := ⟨_, rfl⟩
 have NBb := Aside0.mk (show w.heap.size ≤ B by rw [eB]; exact below_size HB1.out)
 have NB0 := Aside0.mk (show B ≠ w.heap.size by have := blk_lt G1.out; omega)
 rw [← eB] at O2 ⊢
 clear P1 K2 G1 HB1 eB
 obtain ⟨eTs, exb⟩ := encTs_some k l4 xb HBb.out
 have ETS := Aside0.mk eTs
 have EXB := Aside0.mk exb
 clear eTs exb d0 d1 d2 d3 d4 d5
 go_loopw [28] (fun v28 wr => ∃ i : Nat, i ≤ l4.length ∧ v28 = .int .i64 (i : Int) ∧ Aside0 (OI w.heap.size B (fun q => q = w.heap.size) wr (xa ++ (l4.take i).flatMap (encTE k))) ∧ Aside0 (wr.heap[w.heap.size]? = some (.cells #[.int .i64 a0, .int .i64 a1, .int .i64 a2, .int .i64 a3, .slice A4 l4.length c4, .slice A5 l5.length c5] 25 (0, 0))) ∧ Aside0 (Below w.heap.size w wr)) (fun v28 _ => (l4.length - (intOf v28)).toNat)
 case atStart => exact ⟨0, Nat.zero_le _, rfl, ⟨by rw [List.take_zero]; simpa using O2.out⟩, G2, B2⟩
 case round =>
  clear O2 G2 B2
  obtain ⟨i, hi, e28, OO, HGg, HWw⟩ := hrel
  subst e28
  rcases Nat.lt_or_ge i l4.length with c | c
  ·
   obtain ⟨ad, ead, x0, x1, x2, x3, x4, x5, x6, x7, x8⟩ := at_T31 (Kd.C_below HR4.out HWw.out) (i : Int) (Int.natCast_nonneg _) (by omega)
   subst ead
   rw [Int.toNat_natCast] at x0 x1 x2 x3 x4 x5 x6 x7 x8
   have etk : (l4.take (i + 1)).flatMap (encTE k) = (l4.take i).flatMap (encTE k) ++ encTE k (rd_T31 l4 (i : Int)) := by
    rw [List.take_succ_eq_append_getElem c, List.flatMap_append, List.flatMap_cons, List.flatMap_nil, List.append_nil, rdE31_get l4 i c]
   have hTi := ETS.out (rd_T31 l4 (i : Int)) (by rw [rdE31_get l4 i c]; exact List.getElem_mem c)
   have SZ0 := Aside0.mk (show (xa ++ (l4.take (i + 1)).flatMap (encTE k)).length ≤ 1000000000 by
    have h1 := HZ.out.2.2
    have h2 : (l4.take (i + 1)).flatMap (encTE k) ++ (l4.drop (i + 1)).flatMap (encTE k) = xb := by rw [← List.flatMap_append, List.take_append_drop, ← EXB.out]
    have h3 := congrArg List.length h2
    simp only [List.length_append] at h1 h3 ⊢
    omega)
   rw [etk] at SZ0
   have ETK := Aside0.mk etk
   clear etk
   generalize rd_T31 l4 (i : Int) = t at *
   obtain ⟨t0, t1, t2, t3, t4, t5, t6, t7, t8⟩ := t
   dsimp only at x0 x1 x2 x3 x4 x5 x6 x7 x8
   obtain ⟨t, et⟩ : ∃ t : S31, t = ⟨t0, t1, t2, t3, t4, t5, t6, t7, t8⟩ := ⟨_, rfl⟩
   obtain ⟨ya, yb, yc, wh, yd, h1, h2, h3, h4, h5, h6⟩ := encT_some k _ _ hTi
   have Y1 := Aside0.mk h1
   have Y2 := Aside0.mk h2
   have Y3 := Aside0.mk h3
   have Y4 := Aside0.mk h4
   have Y5 := Aside0.mk h5
   rw [h6] at SZ0 ETK
   clear h1 h2 h3 h4 h5 h6 hTi
   generalize hpre : xa ++ (l4.take i).flatMap (encTE k) = pre at OO
   have SZ := Aside0.mk (show (pre ++ (ya ++ yb ++ yc ++ yd)).length ≤ 1000000000 by rw [← hpre]; have := SZ0.out; simpa only [List.append_assoc] using this)
   have HPRE := Aside0.mk hpre
   clear hpre SZ0
   have p0 : (0 : Int) ≤ (i : Int) := Int.natCast_nonneg _
   have p1 : (i : Int) < (l4.length : Int) := by omega
   have q0 : decide ((i : Int) < (l4.length : Int)) = true := decide_eq_true p1
   have CI := Aside0.mk c
   clear c
   have hzb : (wr.alloc (.cells #[.int .i64 t0, .int .i64 t1, .int .i64 t2, .string t3, .string t4, .int .i64 t5, .int .i64 t6, .bool t7, .bool t8] 31)).heap.size = wr.heap.size + 1 := Array.size_push ..
   have P1 := Aside0.mk (put3 k (fun q => q = w.heap.size ∨ q = wr.heap.size) B w.heap.size (wr.heap.size + 1) [t0, t1, t2] pre ya (wr.alloc (.cells #[.int .i64 t0, .int .i64 t1, .int .i64 t2, .string t3, .string t4, .int .i64 t5, .int .i64 t6, .bool t7, .bool t8] 31)) hzb (OI.add OO.out (below_alloc (Below.refl _ _) _) (fun q hq => hq.imp_right (fun e => by omega))) NBb.out (fun h => h.elim NB0.out (fun e => by obtain ⟨v, hv, _⟩ := OO.out; have := blk_lt hv; omega)) (fun q hq => by have := blk_lt HGg.out; rcases hq with e | e <;> omega) (by have := below_size HWw.out; omega) Y1.out (by have := SZ.out; simp only [List.length_append] at this ⊢; omega) (by simp))
   have NB := Aside0.mk (show B ≠ w.heap.size ∧ B ≠ wr.heap.size from ⟨NB0.out, by obtain ⟨v, hv, _⟩ := OO.out; have := blk_lt hv; omega⟩)
   clear hzb
   go_wp2_with (first
    | (with_reducible refine wp_label ?_) | (with_reducible refine wp_scope_straight ?_) | (simp only [Exit.noGoto_ret, Exit.noGoto_normal, Exit.noGoto_exit])
    | (go_at_call 60; refine P1.out.mono ?_; rintro e w2 ⟨rfl, hO, hK, hB⟩; have OO2 := Aside0.mk hO; have HG2 := Aside0.mk (blk_kept (blk_alloc HGg.out _) hK (fun h => h.2 (Or.inl rfl))); have HT2 := Aside0.mk (blk_kept (blk_new wr _) hK (fun h => h.2 (Or.inr rfl))); have HW2 := Aside0.mk ((below_alloc HWw.out _).trans hB); clear hO hK hB x0 x1 x2 x3 x4 x5 x6 x7 x8)
    | fail)
   clear P1 OO HGg HWw
   generalize wr.heap.size = gt at *
   have OO := OO2
   have HGg := HG2
   have HTt := HT2
   have HWw := HW2
   clear OO2 HG2 HT2 HW2
   have et0 : t0 = t.f0 := by rw [et]
   have et1 : t1 = t.f1 := by rw [et]
   have et2 : t2 = t.f2 := by rw [et]
   have et3 : t3 = t.f3 := by rw [et]
   have et4 : t4 = t.f4 := by rw [et]
   have et5 : t5 = t.f5 := by rw [et]
   have et6 : t6 = t.f6 := by rw [et]
   have et7 : t7 = t.f7 := by rw [et]
   have et8 : t8 = t.f8 := by rw [et]
   clear et
   subst et0 et1 et2 et3 et4 et5 et6 et7 et8
   clear wr
   rename World => wr
   obtain ⟨v', hB0, hR0⟩ := OO.out
   have HB0 := Aside0.mk (blk_drew hB0)
   have HR0 := Aside0.mk (Kd.R_drew hR0)
   have HT0 := Aside0.mk (blk_drew HTt.out)
   have HG0 := Aside0.mk (blk_drew HGg.out)
   have HW0 := Aside0.mk (below_drew HWw.out)
   have cB : wr.drew.cell? ⟨B, 0, none⟩ = some v' := (blk_cell HB0.out 0).trans rfl
   have cX : wr.drew.cell? ⟨gt, 3, none⟩ = some (.string t.f3) := (blk_cell HT0.out 3).trans rfl
   clear hB0 hR0 OO HTt HGg HWw
   refine start_ (n := 6) (S := fun w' => w'.cell? ⟨B, 0, none⟩ = some v' ∧ w'.cell? ⟨gt, 3, none⟩ = some (.string t.f3)) (ds := [5]) #[false, false, false, false, false, false] (by kernel_rfl) rfl rfl ⟨cB, cX⟩ (fun hHeld => ?_); refine with_tabW put.tab10 put.bits10 (fun HT_ HW_ => ?_)
   generalize ewd : wr.drew = wd at HB0 HR0 HT0 HG0 HW0 cB cX hHeld ⊢
   clear ewd wr
   refine take_ (i := 0) (N := some 41) (v := ?_) (a' := ?_) #[true, false, false, false, false, false] rfl rfl (take_ofW HT_.out HW_.out (by kernel_rfl)) (fun _ _ _ h => h) (Or.inl ⟨by rfl, ?_⟩) hHeld ?_ ?_
   rotate_left
   ·
    rintro w' ⟨s0, s1⟩
    go_simp
    with_reducible rfl
   rotate_left
   ·
    simp only [Act.put, List.setIfInBounds_toArray, List.set_cons_zero, List.set_cons_succ, i64_w, i32_w]
    rfl

   refine pure_ (i := 1) (N := some 42) (v := ?_) (a' := ?_) #[true, true, false, false, false, false] rfl rfl (any_of HT_.out (by kernel_rfl)) (fun _ _ _ h => h) (Or.inl ⟨by rfl, ?_⟩) ?_ ?_
   rotate_left
   ·
    intro w'
    go_simp
    with_reducible rfl
   rotate_left
   ·
    simp only [Act.put, List.setIfInBounds_toArray, List.set_cons_zero, List.set_cons_succ, i64_w, i32_w]
    rfl

   refine take_ (i := 2) (N := some 43) (v := ?_) (a' := ?_) #[true, true, true, false, false, false] rfl rfl (take_ofW HT_.out HW_.out (by kernel_rfl)) (fun _ _ _ h => h) (Or.inl ⟨by rfl, ?_⟩) hHeld ?_ ?_
   rotate_left
   ·
    rintro w' ⟨s0, s1⟩
    go_simp
    with_reducible rfl
   rotate_left
   ·
    simp only [Act.put, List.setIfInBounds_toArray, List.set_cons_zero, List.set_cons_succ, i64_w, i32_w]
    rfl

   refine one_ (i := 3) (N := some 44) #[true, true, true, true, false, false] rfl rfl (one_of HT_.out (by kernel_rfl)) (by decide) (fun K hK => ?_)
   refine goes_ Try.func62 (by kernel_rfl) rfl #[.string t.f3] (by rfl) rfl rfl (by first | rfl | (simp [Act.eval]; done) | (go_simp; done) | (simp [Act.eval]; rfl)) ?_
   refine (num_PutText.calls k t.f3 yb wd Y2.out).mono ?_
   rintro e1 w1 ⟨v1, rfl, hr1, hb1⟩
   have HB1 := Aside0.mk (blk_below HB0.out hb1)
   have HT1 := Aside0.mk (blk_below HT0.out hb1)
   have HG1 := Aside0.mk (blk_below HG0.out hb1)
   have HR1 := Aside0.mk (Kd.R_elder' HR0.out (Kd.R_base hr1) hb1)
   have HV1 := Aside0.mk hr1
   have HW1 := Aside0.mk (below_step HW0.out hb1)
   have c1 : w1.cell? ⟨B, 0, none⟩ = some v' := (blk_cell HB1.out 0).trans rfl
   have x1 : w1.cell? ⟨gt, 3, none⟩ = some (.string t.f3) := (blk_cell HT1.out 3).trans rfl
   have LT := Aside0.mk (Kd.R_lt hr1)
   clear hb1 hr1 hHeld cB cX
   refine ⟨_, rfl, hK.out _ _ ⟨c1, x1⟩ (fun hHeld => ?_)⟩
   clear hK K
   refine norm_ (a' := ?_) ?_ ?_
   rotate_left
   ·
    show Act.put _ (some 44) _ = _
    simp only [Act.put, List.setIfInBounds_toArray, List.set_cons_zero, List.set_cons_succ, i64_w, i32_w]
    rfl
   refine one_ (i := 4) (N := some 45) #[true, true, true, true, true, false] rfl rfl (one_of HT_.out (by kernel_rfl)) (by decide) (fun K hK => ?_)
   obtain ⟨Av, cv, ev⟩ := Kd.R_slice HV1.out
   subst ev
   refine Kd.R_append_rows_step (Kd.int .u8) (w0 := w) w.heap.size (by rfl) (.tmp 41) (.tmp 44) 26 5 (.int .u8 0) 1 rfl Try.underlying26 info5 rfl (by decide) (by omega) v' (pre ++ ya) yb _ _ _ (fun k_ => ((w.heap.size ≤ k_ ∧ ¬ (k_ = w.heap.size ∨ k_ = gt)) ∧ k_ ≠ B) ∧ some k_ ≠ (.slice Av yb.length cv : Value).ownBlock) (fun _ => False) rfl rfl HR1.out (Kd.R_reads' HV1.out).2.2 (fun _ _ h => h) (fun _ h => h.elim) ?aF HW1.out ?aS ?aL ?_
   case aF => exact fun k_ hk => ⟨⟨⟨by have := below_size HW1.out; omega, fun h => by have h1 := blk_lt HT1.out; have h2 := blk_lt HG1.out; rcases h with h | h <;> omega⟩, by have := blk_lt HB1.out; omega⟩, Kd.fresh' LT.out k_ hk⟩
   case aS => exact below_size HW1.out
   case aL => have := SZ.out; simp only [List.length_append] at this ⊢; omega
   intro v2 w2 ho hb hg hat
   generalize ezs : pre ++ ya ++ yb = zs at ho
   have EZ := Aside0.mk ezs
   clear ezs
   obtain ⟨A2, cc2, ev2⟩ := Kd.R_slice ho
   subst ev2
   have HB2 := Aside0.mk (blk_grown HB1.out hg (fun q => (HR1.out.1 B q.symm).1.2 rfl))
   have HT2 := Aside0.mk (blk_grown HT1.out hg (fun q => (HR1.out.1 gt q.symm).1.1.2 (Or.inr rfl)))
   have HG2 := Aside0.mk (blk_grown HG1.out hg (fun q => (HR1.out.1 _ q.symm).1.1.2 (Or.inl rfl)))
   have HR2 := Aside0.mk ho
   have HW2 := Aside0.mk hb
   have c2 : w2.cell? ⟨B, 0, none⟩ = some v' := (blk_cell HB2.out 0).trans rfl
   have x2 : w2.cell? ⟨gt, 3, none⟩ = some (.string t.f3) := (blk_cell HT2.out 3).trans rfl
   have f2 := blk_frozen HB2.out 0
   clear ho hb hg hat c1 x1
   refine hK.out _ _ ⟨c2, x2⟩ (fun hHeld => ?_)
   clear hK K
   refine norm_ (a' := ?_) ?_ ?_
   rotate_left
   ·
    show Act.put _ (some 45) _ = _
    simp only [Act.put, List.setIfInBounds_toArray, List.set_cons_zero, List.set_cons_succ, i64_w, i32_w]
    rfl
   refine last_ (i := 5) (N := none) #[true, true, true, true, true, true] rfl rfl (one_of HT_.out (by kernel_rfl)) (by decide) (fun K hK => ?_)
   refine skip_ (w1 := ?_) (by rfl) rfl ?_ ?_
   rotate_left
   ·
    go_simp
    rfl
   refine hK.out _ _ ?_
   clear hK K
   refine done_ (done_of HT_.out (by kernel_rfl)) ?_
   have hne1 := NB.out.1
   have hne2 := NB.out.2
   have OO := Aside0.mk (show OI w.heap.size B (fun q => q = w.heap.size ∨ q = gt) (w2.setCell ⟨B, 0, none⟩ (.slice A2 zs.length cc2)) (pre ++ ya ++ yb) from ⟨_, blk_put HB2.out 0 (.slice A2 zs.length cc2) rfl, by
    rw [EZ.out]
    exact Kd.R_mono (Kd.R_far HR2.out (p := ⟨B, 0, none⟩) (fun q hq => hq.1.2) (.slice A2 zs.length cc2)) (fun _ hk => hk.1)⟩)
   have HTt := Aside0.mk (blk_far HT2.out (p := ⟨B, 0, none⟩) (fun h => hne2 h.symm) (.slice A2 zs.length cc2))
   have HGg := Aside0.mk (blk_far HG2.out (p := ⟨B, 0, none⟩) (fun h => hne1 h.symm) (.slice A2 zs.length cc2))
   have HWw := Aside0.mk (Below.setCell HW2.out (NBb.out) (.slice A2 zs.length cc2) (p := ⟨B, 0, none⟩))
   clear c2 x2 f2 hHeld HB2 HT2 HG2 HR2 HW2 HB1 HT1 HG1 HR1 HV1 HW1 HB0 HT0 HG0 HR0 HW0 LT hne1 hne2 EZ
   generalize w2.setCell ⟨B, 0, none⟩ (.slice A2 zs.length cc2) = wr at OO HTt HGg HWw ⊢
   go_wp2_with (first
    | (with_reducible refine wp_label ?_) | (with_reducible refine wp_scope_straight ?_) | (simp only [Exit.noGoto_ret, Exit.noGoto_normal, Exit.noGoto_exit])
    | fail)
   obtain ⟨v', hB0, hR0⟩ := OO.out
   have HB0 := Aside0.mk (blk_drew hB0)
   have HR0 := Aside0.mk (Kd.R_drew hR0)
   have HT0 := Aside0.mk (blk_drew HTt.out)
   have HG0 := Aside0.mk (blk_drew HGg.out)
   have HW0 := Aside0.mk (below_drew HWw.out)
   have cB : wr.drew.cell? ⟨B, 0, none⟩ = some v' := (blk_cell HB0.out 0).trans rfl
   have cX : wr.drew.cell? ⟨gt, 4, none⟩ = some (.string t.f4) := (blk_cell HT0.out 4).trans rfl
   clear hB0 hR0 OO HTt HGg HWw
   refine start_ (n := 6) (S := fun w' => w'.cell? ⟨B, 0, none⟩ = some v' ∧ w'.cell? ⟨gt, 4, none⟩ = some (.string t.f4)) (ds := [5]) #[false, false, false, false, false, false] (by kernel_rfl) rfl rfl ⟨cB, cX⟩ (fun hHeld => ?_); refine with_tabW put.tab11 put.bits11 (fun HT_ HW_ => ?_)
   generalize ewd : wr.drew = wd at HB0 HR0 HT0 HG0 HW0 cB cX hHeld ⊢
   clear ewd wr
   refine take_ (i := 0) (N := some 46) (v := ?_) (a' := ?_) #[true, false, false, false, false, false] rfl rfl (take_ofW HT_.out HW_.out (by kernel_rfl)) (fun _ _ _ h => h) (Or.inl ⟨by rfl, ?_⟩) hHeld ?_ ?_
   rotate_left
   ·
    rintro w' ⟨s0, s1⟩
    go_simp
    with_reducible rfl
   rotate_left
   ·
    simp only [Act.put, List.setIfInBounds_toArray, List.set_cons_zero, List.set_cons_succ, i64_w, i32_w]
    rfl

   refine pure_ (i := 1) (N := some 47) (v := ?_) (a' := ?_) #[true, true, false, false, false, false] rfl rfl (any_of HT_.out (by kernel_rfl)) (fun _ _ _ h => h) (Or.inl ⟨by rfl, ?_⟩) ?_ ?_
   rotate_left
   ·
    intro w'
    go_simp
    with_reducible rfl
   rotate_left
   ·
    simp only [Act.put, List.setIfInBounds_toArray, List.set_cons_zero, List.set_cons_succ, i64_w, i32_w]
    rfl

   refine take_ (i := 2) (N := some 48) (v := ?_) (a' := ?_) #[true, true, true, false, false, false] rfl rfl (take_ofW HT_.out HW_.out (by kernel_rfl)) (fun _ _ _ h => h) (Or.inl ⟨by rfl, ?_⟩) hHeld ?_ ?_
   rotate_left
   ·
    rintro w' ⟨s0, s1⟩
    go_simp
    with_reducible rfl
   rotate_left
   ·
    simp only [Act.put, List.setIfInBounds_toArray, List.set_cons_zero, List.set_cons_succ, i64_w, i32_w]
    rfl

   refine one_ (i := 3) (N := some 49) #[true, true, true, true, false, false] rfl rfl (one_of HT_.out (by kernel_rfl)) (by decide) (fun K hK => ?_)
   refine goes_ Try.func62 (by kernel_rfl) rfl #[.string t.f4] (by rfl) rfl rfl (by first | rfl | (simp [Act.eval]; done) | (go_simp; done) | (simp [Act.eval]; rfl)) ?_
   refine (num_PutText.calls k t.f4 yc wd Y3.out).mono ?_
   rintro e1 w1 ⟨v1, rfl, hr1, hb1⟩
   have HB1 := Aside0.mk (blk_below HB0.out hb1)
   have HT1 := Aside0.mk (blk_below HT0.out hb1)
   have HG1 := Aside0.mk (blk_below HG0.out hb1)
   have HR1 := Aside0.mk (Kd.R_elder' HR0.out (Kd.R_base hr1) hb1)
   have HV1 := Aside0.mk hr1
   have HW1 := Aside0.mk (below_step HW0.out hb1)
   have c1 : w1.cell? ⟨B, 0, none⟩ = some v' := (blk_cell HB1.out 0).trans rfl
   have x1 : w1.cell? ⟨gt, 4, none⟩ = some (.string t.f4) := (blk_cell HT1.out 4).trans rfl
   have LT := Aside0.mk (Kd.R_lt hr1)
   clear hb1 hr1 hHeld cB cX
   refine ⟨_, rfl, hK.out _ _ ⟨c1, x1⟩ (fun hHeld => ?_)⟩
   clear hK K
   refine norm_ (a' := ?_) ?_ ?_
   rotate_left
   ·
    show Act.put _ (some 49) _ = _
    simp only [Act.put, List.setIfInBounds_toArray, List.set_cons_zero, List.set_cons_succ, i64_w, i32_w]
    rfl
   refine one_ (i := 4) (N := some 50) #[true, true, true, true, true, false] rfl rfl (one_of HT_.out (by kernel_rfl)) (by decide) (fun K hK => ?_)
   obtain ⟨Av, cv, ev⟩ := Kd.R_slice HV1.out
   subst ev
   refine Kd.R_append_rows_step (Kd.int .u8) (w0 := w) w.heap.size (by rfl) (.tmp 46) (.tmp 49) 26 5 (.int .u8 0) 1 rfl Try.underlying26 info5 rfl (by decide) (by omega) v' (pre ++ ya ++ yb) yc _ _ _ (fun k_ => ((w.heap.size ≤ k_ ∧ ¬ (k_ = w.heap.size ∨ k_ = gt)) ∧ k_ ≠ B) ∧ some k_ ≠ (.slice Av yc.length cv : Value).ownBlock) (fun _ => False) rfl rfl HR1.out (Kd.R_reads' HV1.out).2.2 (fun _ _ h => h) (fun _ h => h.elim) ?aF HW1.out ?aS ?aL ?_
   case aF => exact fun k_ hk => ⟨⟨⟨by have := below_size HW1.out; omega, fun h => by have h1 := blk_lt HT1.out; have h2 := blk_lt HG1.out; rcases h with h | h <;> omega⟩, by have := blk_lt HB1.out; omega⟩, Kd.fresh' LT.out k_ hk⟩
   case aS => exact below_size HW1.out
   case aL => have := SZ.out; simp only [List.length_append] at this ⊢; omega
   intro v2 w2 ho hb hg hat
   generalize ezs : pre ++ ya ++ yb ++ yc = zs at ho
   have EZ := Aside0.mk ezs
   clear ezs
   obtain ⟨A2, cc2, ev2⟩ := Kd.R_slice ho
   subst ev2
   have HB2 := Aside0.mk (blk_grown HB1.out hg (fun q => (HR1.out.1 B q.symm).1.2 rfl))
   have HT2 := Aside0.mk (blk_grown HT1.out hg (fun q => (HR1.out.1 gt q.symm).1.1.2 (Or.inr rfl)))
   have HG2 := Aside0.mk (blk_grown HG1.out hg (fun q => (HR1.out.1 _ q.symm).1.1.2 (Or.inl rfl)))
   have HR2 := Aside0.mk ho
   have HW2 := Aside0.mk hb
   have c2 : w2.cell? ⟨B, 0, none⟩ = some v' := (blk_cell HB2.out 0).trans rfl
   have x2 : w2.cell? ⟨gt, 4, none⟩ = some (.string t.f4) := (blk_cell HT2.out 4).trans rfl
   have f2 := blk_frozen HB2.out 0
   clear ho hb hg hat c1 x1
   refine hK.out _ _ ⟨c2, x2⟩ (fun hHeld => ?_)
   clear hK K
   refine norm_ (a' := ?_) ?_ ?_
   rotate_left
   ·
    show Act.put _ (some 50) _ = _
    simp only [Act.put, List.setIfInBounds_toArray, List.set_cons_zero, List.set_cons_succ, i64_w, i32_w]
    rfl
   refine last_ (i := 5) (N := none) #[true, true, true, true, true, true] rfl rfl (one_of HT_.out (by kernel_rfl)) (by decide) (fun K hK => ?_)
   refine skip_ (w1 := ?_) (by rfl) rfl ?_ ?_
   rotate_left
   ·
    go_simp
    rfl
   refine hK.out _ _ ?_
   clear hK K
   refine done_ (done_of HT_.out (by kernel_rfl)) ?_
   have hne1 := NB.out.1
   have hne2 := NB.out.2
   have OO := Aside0.mk (show OI w.heap.size B (fun q => q = w.heap.size ∨ q = gt) (w2.setCell ⟨B, 0, none⟩ (.slice A2 zs.length cc2)) (pre ++ ya ++ yb ++ yc) from ⟨_, blk_put HB2.out 0 (.slice A2 zs.length cc2) rfl, by
    rw [EZ.out]
    exact Kd.R_mono (Kd.R_far HR2.out (p := ⟨B, 0, none⟩) (fun q hq => hq.1.2) (.slice A2 zs.length cc2)) (fun _ hk => hk.1)⟩)
   have HTt := Aside0.mk (blk_far HT2.out (p := ⟨B, 0, none⟩) (fun h => hne2 h.symm) (.slice A2 zs.length cc2))
   have HGg := Aside0.mk (blk_far HG2.out (p := ⟨B, 0, none⟩) (fun h => hne1 h.symm) (.slice A2 zs.length cc2))
   have HWw := Aside0.mk (Below.setCell HW2.out (NBb.out) (.slice A2 zs.length cc2) (p := ⟨B, 0, none⟩))
   clear c2 x2 f2 hHeld HB2 HT2 HG2 HR2 HW2 HB1 HT1 HG1 HR1 HV1 HW1 HB0 HT0 HG0 HR0 HW0 LT hne1 hne2 EZ
   generalize w2.setCell ⟨B, 0, none⟩ (.slice A2 zs.length cc2) = wr at OO HTt HGg HWw ⊢
   go_wp2_with (first
    | (with_reducible refine wp_label ?_) | (with_reducible refine wp_scope_straight ?_) | (simp only [Exit.noGoto_ret, Exit.noGoto_normal, Exit.noGoto_exit])
    | fail)
   have HT0 := Aside0.mk (blk_drew HTt.out)
   have HG0 := Aside0.mk (blk_drew HGg.out)
   have HW0 := Aside0.mk (below_drew HWw.out)
   have OO0 := Aside0.mk (show OI w.heap.size B (fun q => q = w.heap.size ∨ q = gt) wr.drew (pre ++ ya ++ yb ++ yc) by obtain ⟨v, g1, g2⟩ := OO.out; exact ⟨v, blk_drew g1, Kd.R_drew g2⟩)
   clear OO HTt HGg HWw
   refine start_ (n := 9) (S := fun w' => w'.cell? ⟨gt, 0, none⟩ = some (.int .i64 t.f0) ∧ w'.cell? ⟨gt, 1, none⟩ = some (.int .i64 t.f1) ∧ w'.cell? ⟨gt, 2, none⟩ = some (.int .i64 t.f2) ∧ w'.cell? ⟨gt, 3, none⟩ = some (.string t.f3) ∧ w'.cell? ⟨gt, 4, none⟩ = some (.string t.f4) ∧ w'.cell? ⟨gt, 5, none⟩ = some (.int .i64 t.f5) ∧ w'.cell? ⟨gt, 6, none⟩ = some (.int .i64 t.f6) ∧ w'.cell? ⟨gt, 7, none⟩ = some (.bool t.f7) ∧ w'.cell? ⟨gt, 8, none⟩ = some (.bool t.f8)) (ds := []) #[false, false, false, false, false, false, false, false, false] (by kernel_rfl) rfl rfl (cells9 HT0.out) (fun hHeld => ?_); refine with_tabW put.tab12 put.bits12 (fun HT_ HW_ => ?_)
   generalize ewd : wr.drew = wd at HT0 HG0 HW0 OO0 hHeld ⊢
   clear ewd wr
   refine pure_ (i := 0) (N := some 51) (v := ?_) (a' := ?_) #[true, false, false, false, false, false, false, false, false] rfl rfl (any_of HT_.out (by kernel_rfl)) (fun _ _ _ h => h) (Or.inl ⟨by rfl, ?_⟩) ?_ ?_
   rotate_left
   ·
    intro w'
    go_simp
    with_reducible rfl
   rotate_left
   ·
    simp only [Act.put, List.setIfInBounds_toArray, List.set_cons_zero, List.set_cons_succ, i64_w, i32_w]
    rfl

   refine pure_ (i := 1) (N := some 52) (v := ?_) (a' := ?_) #[true, true, false, false, false, false, false, false, false] rfl rfl (any_of HT_.out (by kernel_rfl)) (fun _ _ _ h => h) (Or.inl ⟨by rfl, ?_⟩) ?_ ?_
   rotate_left
   ·
    intro w'
    go_simp
    with_reducible rfl
   rotate_left
   ·
    simp only [Act.put, List.setIfInBounds_toArray, List.set_cons_zero, List.set_cons_succ, i64_w, i32_w]
    rfl

   refine take_ (i := 2) (N := some 53) (v := ?_) (a' := ?_) #[true, true, true, false, false, false, false, false, false] rfl rfl (take_ofW HT_.out HW_.out (by kernel_rfl)) (fun _ _ _ h => h) (Or.inl ⟨by rfl, ?_⟩) hHeld ?_ ?_
   rotate_left
   ·
    rintro w' ⟨s0, s1, s2, s3, s4, s5, s6, s7, s8⟩
    go_simp
    with_reducible rfl
   rotate_left
   ·
    simp only [Act.put, List.setIfInBounds_toArray, List.set_cons_zero, List.set_cons_succ, i64_w, i32_w]
    rfl

   refine pure_ (i := 3) (N := some 54) (v := ?_) (a' := ?_) #[true, true, true, true, false, false, false, false, false] rfl rfl (any_of HT_.out (by kernel_rfl)) (fun _ _ _ h => h) (Or.inl ⟨by rfl, ?_⟩) ?_ ?_
   rotate_left
   ·
    intro w'
    go_simp
    with_reducible rfl
   rotate_left
   ·
    simp only [Act.put, List.setIfInBounds_toArray, List.set_cons_zero, List.set_cons_succ, i64_w, i32_w]
    rfl

   refine take_ (i := 4) (N := some 55) (v := ?_) (a' := ?_) #[true, true, true, true, true, false, false, false, false] rfl rfl (take_ofW HT_.out HW_.out (by kernel_rfl)) (fun _ _ _ h => h) (Or.inl ⟨by rfl, ?_⟩) hHeld ?_ ?_
   rotate_left
   ·
    rintro w' ⟨s0, s1, s2, s3, s4, s5, s6, s7, s8⟩
    go_simp
    with_reducible rfl
   rotate_left
   ·
    simp only [Act.put, List.setIfInBounds_toArray, List.set_cons_zero, List.set_cons_succ, i64_w, i32_w]
    rfl

   refine take_ (i := 5) (N := some 56) (v := ?_) (a' := ?_) #[true, true, true, true, true, true, false, false, false] rfl rfl (take_ofW HT_.out HW_.out (by kernel_rfl)) (fun _ _ _ h => h) (Or.inl ⟨by rfl, ?_⟩) hHeld ?_ ?_
   rotate_left
   ·
    rintro w' ⟨s0, s1, s2, s3, s4, s5, s6, s7, s8⟩
    go_simp
    with_reducible rfl
   rotate_left
   ·
    simp only [Act.put, List.setIfInBounds_toArray, List.set_cons_zero, List.set_cons_succ, i64_w, i32_w]
    rfl

   refine one_ (i := 6) (N := some 57) #[true, true, true, true, true, true, true, false, false] rfl rfl (one_of HT_.out (by kernel_rfl)) (by decide) (fun K hK => ?_)
   refine goes_ Try.func63 (by kernel_rfl) rfl #[.agg #[.int .i64 t.f0, .int .i64 t.f1, .int .i64 t.f2, .string t.f3, .string t.f4, .int .i64 t.f5, .int .i64 t.f6, .bool t.f7, .bool t.f8]] (by rfl) rfl rfl (by first | rfl | (simp [Act.eval]; done) | (go_simp; done) | (simp [Act.eval]; rfl)) ?_
   refine (edit_where.calls t.f0 t.f1 t.f2 t.f3 t.f4 t.f5 t.f6 t.f7 t.f8 wh wd Y4.out).mono ?_
   rintro e1 w1 ⟨rfl, hb1⟩
   have HT1 := Aside0.mk (blk_below HT0.out hb1)
   have HG1 := Aside0.mk (blk_below HG0.out hb1)
   have HW1 := Aside0.mk (below_step HW0.out hb1)
   have OO1 := Aside0.mk (OI.add OO0.out hb1 (fun q hq => Or.inl hq))
   clear hb1 hHeld HT0 HG0 HW0 OO0
   refine ⟨_, rfl, hK.out _ _ (cells9 HT1.out) (fun hHeld => ?_)⟩
   clear hK K
   refine norm_ (a' := ?_) ?_ ?_
   rotate_left
   ·
    show Act.put _ (some 57) _ = _
    simp only [Act.put, List.setIfInBounds_toArray, List.set_cons_zero, List.set_cons_succ, i64_w, i32_w]
    rfl
   refine one_ (i := 7) (N := some 58) #[true, true, true, true, true, true, true, true, false] rfl rfl (one_of HT_.out (by kernel_rfl)) (by decide) (fun K hK => ?_)
   refine value_ (w1 := w1.alloc (.cells ([t.f5, t.f6, wh].map (Value.int .i64)).toArray 3)) (v := .slice (some ⟨w1.heap.size, 0, none⟩) 3 3) (by rfl) rfl (by first | (go_simp; done) | (go_simp; rfl)) ?_
   refine hK.out _ _ (cells9 (blk_alloc HT1.out _)) (fun hHeld => ?_)
   clear hK K
   refine norm_ (a' := ?_) ?_ ?_
   rotate_left
   ·
    show Act.put _ (some 58) _ = _
    simp only [Act.put, List.setIfInBounds_toArray, List.set_cons_zero, List.set_cons_succ, i64_w, i32_w]
    rfl
   refine one_ (i := 8) (N := some 59) #[true, true, true, true, true, true, true, true, true] rfl rfl (one_of HT_.out (by kernel_rfl)) (by decide) (fun K hK => ?_)
   refine goesC_ Try.func60 (by kernel_rfl) rfl #[.slice (some ⟨w1.heap.size, 0, none⟩) 3 3, .pointer (some ⟨B, 0, none⟩)] (by rfl) rfl rfl rfl (by first | rfl | (simp [Act.eval]; done) | (go_simp; done) | (simp [Act.eval]; rfl)) ?_
   refine (put3 k (fun q => q = w.heap.size ∨ q = gt) B w.heap.size w1.heap.size [t.f5, t.f6, wh] (pre ++ ya ++ yb ++ yc) yd w1 rfl OO1.out NBb.out (fun h => h.elim NB.out.1 NB.out.2) (fun q hq => by have h1 := blk_lt HT1.out; have h2 := blk_lt HG1.out; rcases hq with e | e <;> omega) (below_size HW1.out) Y5.out (by have := SZ.out; simp only [List.length_append] at this ⊢; omega) (by simp)).mono ?_
   rintro e2 w2 ⟨rfl, hO, hK2, hB⟩
   have OO := Aside0.mk hO
   have HGg := Aside0.mk (blk_kept HG1.out hK2 (fun h => h.2 (Or.inl rfl)))
   have HTt := Aside0.mk (blk_kept HT1.out hK2 (fun h => h.2 (Or.inr rfl)))
   have HWw := Aside0.mk (HW1.out.trans hB)
   clear hO hK2 hB hHeld HT1 HG1 HW1 OO1
   refine ⟨_, rfl, hK.out _ _ (cells9 HTt.out) (fun hHeld => ?_)⟩
   clear hK K
   refine norm_ (a' := ?_) ?_ ?_
   rotate_left
   ·
    show Act.put _ (some 59) _ = _
    simp only [Act.put, List.setIfInBounds_toArray, List.set_cons_zero, List.set_cons_succ, i64_w, i32_w]
    rfl
   refine done_ (done_of HT_.out (by kernel_rfl)) ?_
   clear hHeld
   have IW : wrap64 ((i : Int) + 1) = ((i + 1 : Nat) : Int) := by unfold wrap64; have := CI.out; have := HZ.out.1; omega
   go_wp2_with (first
    | (with_reducible refine wp_label ?_) | (with_reducible refine wp_scope_straight ?_) | (simp only [Exit.noGoto_ret, Exit.noGoto_normal, Exit.noGoto_exit])
    | fail)
   rw [IW]
   refine ⟨⟨i + 1, CI.out, rfl, ⟨?_⟩, HGg, HWw⟩, ?_⟩
   ·
    have e9 : xa ++ (l4.take (i + 1)).flatMap (encTE k) = pre ++ ya ++ yb ++ yc ++ yd := by rw [ETK.out, ← HPRE.out]; simp only [List.append_assoc]
    rw [e9]
    exact OI.reX OO.out (fun q h => Or.inl h)
   ·
    have := CI.out
    simp only [intOf]
    omega
  ·
   obtain rfl : i = l4.length := Nat.le_antisymm hi c
   rw [List.take_length, ← EXB.out] at OO
   have q0 : decide ((l4.length : Int) < (l4.length : Int)) = false := decide_eq_false (by omega)
   obtain ⟨d0, d1, d2, d3, d4, d5⟩ := cells6 HGg.out
   have P2 := Aside0.mk (put3 k (fun q => q = w.heap.size) B w.heap.size wr.heap.size [(l5.length : Int)] (xa ++ xb) xc wr rfl OO.out NBb.out NB0.out (fun q hq => by have := blk_lt HGg.out; omega) (below_size HWw.out) HCc.out (by have := HZ.out.2.2; simp only [List.length_append] at this ⊢; omega) (by simp))
   clear c hi
   go_wp2_with (first
    | (with_reducible refine wp_label ?_) | (with_reducible refine wp_scope_straight ?_) | (simp only [Exit.noGoto_ret, Exit.noGoto_normal, Exit.noGoto_exit])
    | (go_at_call 60; refine P3.out.mono ?_; rintro e w3 ⟨rfl, ⟨vz, hvz, hRz⟩, hK, hB⟩; have RZ := Aside0.mk hRz; have WZ := Aside0.mk (W2.out.trans hB); have cz : w3.cell? ⟨B, 0, none⟩ = some vz := (blk_cell hvz 0).trans rfl; clear hRz hvz hK hB d0 d1 d2 d3 d4 d5)
    | (go_at_call 60; refine P2.out.mono ?_; rintro e w2 ⟨rfl, hO, hK, hB⟩; have G2 := Aside0.mk (blk_kept HGg.out hK (fun h => h.2 rfl)); have W2 := Aside0.mk (HWw.out.trans hB); have P3 := Aside0.mk (put2 k (fun q => q = w.heap.size) B w.heap.size A5 c5 l5 (xa ++ xb ++ xc) xd w2 hO NBb.out NB0.out (fun q hq => by have := blk_lt G2.out; omega) (below_size W2.out) (Kd.C_kept_came (Kd.heap_int .i64) HR5.out W2.out (fun q hq => hq.1)) HC5.out HD.out HZ.out.2.2 HZ.out.2.1); clear hO hK hB d0 d1 d2 d3 d4 d5; obtain ⟨d0, d1, d2, d3, d4, d5⟩ := cells6 G2.out)
    | fail)
   go_ret
   exact ⟨_, rfl, by rw [← HE.out]; exact Kd.R_mono RZ.out (fun _ _ => trivial), WZ.out⟩
set_option maxHeartbeats 4000000 in
set_option maxRecDepth 100000 in
theorem put_none (k : Nat) (a0 a1 a2 a3 : Int) (A4 : Option Addr) (c4 : Nat) (l4 : List S31) (A5 : Option Addr) (c5 : Nat) (l5 : List Int) (w : World) (hr4 : Kd.C k31 w A4 l4.length l4) (hc4 : l4.length ≤ c4) (hr5 : Kd.C (Kd.int .i64) w A5 l5.length l5) (hc5 : l5.length ≤ c5)
 (hM : edit_May.f k a0 a1 a2 a3 l4 l5 = some false) :
 Calls Try.prog 21 #[.agg #[.int .i64 a0, .int .i64 a1, .int .i64 a2, .int .i64 a3, .slice A4 l4.length c4, .slice A5 l5.length c5]] w fun e w' => ∃ v0_ : Value, e = .returned v0_ ∧ Kd.R (Kd.int .u8) 5 w' w.heap.size (fun _ => True) v0_ [] ∧ Below w.heap.size w w' := by
 have hu25 := Try.underlying25
 have HR4 := Aside0.mk hr4
 have HC4 := Aside0.mk hc4
 have HR5 := Aside0.mk hr5
 have HC5 := Aside0.mk hc5
 have HM := Aside0.mk hM
 clear hr4 hc4 hr5 hc5 hM
 go_enter Try.func21, Try.ntmps21
 go_wp2_with (first
  | (with_reducible refine wp_label ?_) | (with_reducible refine wp_scope_straight ?_) | (simp only [Exit.noGoto_ret, Exit.noGoto_normal, Exit.noGoto_exit])
  | (go_at_call 19; refine (edit_May.calls k a0 a1 a2 a3 A4 c4 l4 A5 c5 l5 false _ (Kd.C_alloc HR4.out _) HC4.out (Kd.C_alloc HR5.out _) HC5.out HM.out).mono ?_; rintro e w1 ⟨rfl, hb1⟩; have HB1 := Aside0.mk (below_step (below_alloc (Below.refl w.heap.size w) _) hb1); clear hb1)
  | fail)
 go_ret
 exact ⟨_, rfl, Kd.R_nil _ _ _ _ _, HB1.out⟩
theorem edit_Put.calls (k : Nat) (a0_0 : Int) (a0_1 : Int) (a0_2 : Int) (a0_3 : Int) (A0_4 : Option Addr) (c0_4 : Nat) (l0_4 : List (S31)) (A0_5 : Option Addr) (c0_5 : Nat) (l0_5 : List Int) (r : List Int) (w : World) (hr0_4 : Kd.C k31 w A0_4 l0_4.length l0_4) (hc0_4 : l0_4.length ≤ c0_4) (hr0_5 : Kd.C (Kd.int .i64) w A0_5 l0_5.length l0_5) (hc0_5 : l0_5.length ≤ c0_5) (h : edit_Put.f k a0_0 a0_1 a0_2 a0_3 l0_4 l0_5 = some r) :
 Calls Try.prog 21 #[.agg #[.int .i64 a0_0, .int .i64 a0_1, .int .i64 a0_2, .int .i64 a0_3, .slice A0_4 l0_4.length c0_4, .slice A0_5 l0_5.length c0_5]] w fun e w' => ∃ v0_ : Value, e = .returned (v0_) ∧ Kd.R (Kd.int .u8) 5 w' w.heap.size (fun _ => True) v0_ r ∧ Below w.heap.size w w' := by
 unfold edit_Put.f at h
 obtain ⟨t, hM, h⟩ := Option.bind_eq_some_iff.1 h
 cases t with
 | true =>
  rw [if_pos rfl] at h
  exact put_walk k a0_0 a0_1 a0_2 a0_3 A0_4 c0_4 l0_4 A0_5 c0_5 l0_5 r w hr0_4 hc0_4 hr0_5 hc0_5 hM h
 | false =>
  rw [if_neg Bool.false_ne_true] at h
  injection h with h
  subst h
  exact put_none k a0_0 a0_1 a0_2 a0_3 A0_4 c0_4 l0_4 A0_5 c0_5 l0_5 w hr0_4 hc0_4 hr0_5 hc0_5 hM

end Go.Proofs.Ytffnimaaolmbdaa.PEditBack
