/- The functions that a law reaches, as Lean functions, each with the contract that its Go code comes to just these answers. Written by a program of this claim's author (wip/mkprint.py). No conditions. -/
import Derived.Test.YtffnimaaolmbdaaPEditBackx0
import Derived.Test.YtffnimaaolmbdaaPEditBackx4
import Derived.Test.YtffnimaaolmbdaaPEditBackx6
import Derived.Test.YtffnimaaolmbdaaPEditBackx7
import Derived.Test.YtffnimaaolmbdaaPEditBackx8
namespace Go.Proofs.Ytffnimaaolmbdaa.PEditBack
open Go.RowKit Go.Proofs.YtffnimaaolmbdaaW.PrintWords Go.Proofs.YtffnimaaolmbdaaW.PrintLast Go.Proofs.YtffnimaaolmbdaaW.PrintMore
attribute [local go_sem] max2_int min2_int max_two min_two max_three min_three max_four min_four   -- for this text's walks alone
set_option linter.unusedVariables false
set_option linter.unusedSimpArgs false

/-! ### iceboxlaw17_EditBack: function 4 -/
mutual
def iceboxlaw17_EditBack.j0 : Nat → List Int → List Int → Int → Int → Int → Int → List Int → List Int → Bool → Option (Bool)
 | 0, _, _, _, _, _, _, _, _, _ => none
 | k + 1, x0, x1, x2, x3, x4, x5, x6, x7, x45 => if x45 = true then ((iceboxlaw17_awake.f k).bind fun t200 => (some t200)) else ((iceboxlaw17_Tables.f k x0).bind fun t201 => (iceboxlaw17_EditBack.l0 k x1 x6 x7 0 (wrap64 (x2)) (wrap64 (x3)) (wrap64 (x4)) (wrap64 (x5)) t201 ([] : List Int)))
def iceboxlaw17_EditBack.l0 : Nat → List Int → List Int → List Int → Int → Int → Int → Int → Int → List (S31) → List Int → Option (Bool)
 | 0, _, _, _, _, _, _, _, _, _, _ => none
 | k + 1, x1, x6, x7, x18, x205000, x205001, x205002, x205003, x205004, x205005 => if x18 < (x1.length : Int) then (if 0 ≤ x18 then (if x205005.length < 17592186044416 then (iceboxlaw17_EditBack.l0 k x1 x6 x7 (wrap64 (x18 + 1)) x205000 x205001 x205002 x205003 x205004 (x205005 ++ [wrap64 (1 + (wrap64 (rd x1 x18)))])) else (none)) else (none)) else ((edit_Put.f k x205000 x205001 x205002 x205003 x205004 x205005).bind fun t209 => ((edit_Get.f k t209).bind fun bt212 => (if bt212.2.2.2.2.2.2 = true then ((iceboxref17_SameEdit.f k bt212.1 bt212.2.1 bt212.2.2.1 bt212.2.2.2.1 bt212.2.2.2.2.1 bt212.2.2.2.2.2.1 x205000 x205001 x205002 x205003 x205004 x205005).bind fun t224 => (if t224 = true then (iceboxlaw17_EditBack.j2 k x6 x7 t209 ((t209.length : Int) == 0)) else (iceboxlaw17_EditBack.j2 k x6 x7 t209 true))) else (iceboxlaw17_EditBack.j2 k x6 x7 t209 true))))
def iceboxlaw17_EditBack.j2 : Nat → List Int → List Int → List Int → Bool → Option (Bool)
 | 0, _, _, _, _ => none
 | k + 1, x6, x7, x19, x94 => if x94 = true then (none) else ((some (([] : List Int) : List Int)).bind fun y225 => (if y225.length + x19.length < 140737488355328 then ((some (y225 ++ x19 : List Int)).bind fun y228 => (if y228.length + x6.length < 140737488355328 then ((edit_Get.f k (y228 ++ x6)).bind fun bt234 => (if 0 ≤ (wrap64 ((x19.length : Int) - 1)) then (if (wrap64 ((x19.length : Int) - 1)) ≤ (x19.length : Int) then ((edit_Get.f k (x19.take ((wrap64 ((x19.length : Int) - 1)) : Int).toNat)).bind fun bt250 => ((edit_Get.f k x7).bind fun bt262 => (if bt234.2.2.2.2.2.2 = true then (none) else (if bt250.2.2.2.2.2.2 = true then (none) else (if bt262.2.2.2.2.2.2 = true then ((edit_Put.f k bt262.1 bt262.2.1 bt262.2.2.1 bt262.2.2.2.1 bt262.2.2.2.2.1 bt262.2.2.2.2.2.1).bind fun t274 => (if (strOfNums t274).toList = (strOfNums x7).toList then ((iceboxlaw17_awake.f k).bind fun t277 => (some t277)) else (none))) else ((iceboxlaw17_awake.f k).bind fun t278 => (some t278))))))) else (none)) else (none))) else (none))) else (none)))
end
def iceboxlaw17_EditBack.f (k : Nat) (l0 : List Int) (l1 : List Int) (a2 : Int) (a3 : Int) (a4 : Int) (a5 : Int) (l6 : List Int) (l7 : List Int) : Option (Bool) := if (l1.length : Int) > 50 then (iceboxlaw17_EditBack.j0 k l0 l1 a2 a3 a4 a5 l6 l7 true) else (if (l6.length : Int) = 0 then (iceboxlaw17_EditBack.j0 k l0 l1 a2 a3 a4 a5 l6 l7 true) else (if (l6.length : Int) > 50 then (iceboxlaw17_EditBack.j0 k l0 l1 a2 a3 a4 a5 l6 l7 true) else (iceboxlaw17_EditBack.j0 k l0 l1 a2 a3 a4 a5 l6 l7 (decide ((l7.length : Int) > 2000)))))
theorem iceboxlaw17_EditBack.mono_l : ∀ k, (∀ y0 y1 y2 y3 y4 y5 y6 y7 y8, LeO (iceboxlaw17_EditBack.j0 k y0 y1 y2 y3 y4 y5 y6 y7 y8) (iceboxlaw17_EditBack.j0 (k + 1) y0 y1 y2 y3 y4 y5 y6 y7 y8)) ∧ (∀ y0 y1 y2 y3 y4 y5 y6 y7 y8 y9, LeO (iceboxlaw17_EditBack.l0 k y0 y1 y2 y3 y4 y5 y6 y7 y8 y9) (iceboxlaw17_EditBack.l0 (k + 1) y0 y1 y2 y3 y4 y5 y6 y7 y8 y9)) ∧ (∀ y0 y1 y2 y3, LeO (iceboxlaw17_EditBack.j2 k y0 y1 y2 y3) (iceboxlaw17_EditBack.j2 (k + 1) y0 y1 y2 y3))
 | 0 => ⟨fun _ _ _ _ _ _ _ _ _ r h => by simp [iceboxlaw17_EditBack.j0] at h, fun _ _ _ _ _ _ _ _ _ _ r h => by simp [iceboxlaw17_EditBack.l0] at h, fun _ _ _ _ r h => by simp [iceboxlaw17_EditBack.j2] at h⟩
 | k + 1 => by
  obtain ⟨ih0, ih1, ih2⟩ := iceboxlaw17_EditBack.mono_l k
  refine ⟨?_, ?_, ?_⟩
  ·
   intro y0 y1 y2 y3 y4 y5 y6 y7 y8
   unfold iceboxlaw17_EditBack.j0
   repeat' first
   | (with_reducible exact ih0 _ _ _ _ _ _ _ _ _)
   | (with_reducible exact ih1 _ _ _ _ _ _ _ _ _ _)
   | (with_reducible exact ih2 _ _ _ _)
   | (with_reducible exact edit_Get.mono _ _)
   | (with_reducible exact edit_Put.mono _ _ _ _ _ _ _)
   | (with_reducible exact iceboxlaw17_Tables.mono _ _)
   | (with_reducible exact iceboxlaw17_awake.mono _)
   | (with_reducible exact iceboxref17_SameEdit.mono _ _ _ _ _ _ _ _ _ _ _ _ _)
   | (with_reducible exact LeO.refl _)
   | (with_reducible exact LeO.none _)
   | (with_reducible refine LeO.ite ?_ ?_)
   | (with_reducible refine LeO.bind ?_ (fun _ => ?_))
   | exact ih0 _ _ _ _ _ _ _ _ _
   | exact ih1 _ _ _ _ _ _ _ _ _ _
   | exact ih2 _ _ _ _
   | exact edit_Get.mono _ _
   | exact edit_Put.mono _ _ _ _ _ _ _
   | exact iceboxlaw17_Tables.mono _ _
   | exact iceboxlaw17_awake.mono _
   | exact iceboxref17_SameEdit.mono _ _ _ _ _ _ _ _ _ _ _ _ _
   | exact LeO.none _
   | refine LeO.ite ?_ ?_
   | refine LeO.bind ?_ (fun _ => ?_)
  ·
   intro y0 y1 y2 y3 y4 y5 y6 y7 y8 y9
   unfold iceboxlaw17_EditBack.l0
   repeat' first
   | (with_reducible exact ih0 _ _ _ _ _ _ _ _ _)
   | (with_reducible exact ih1 _ _ _ _ _ _ _ _ _ _)
   | (with_reducible exact ih2 _ _ _ _)
   | (with_reducible exact edit_Get.mono _ _)
   | (with_reducible exact edit_Put.mono _ _ _ _ _ _ _)
   | (with_reducible exact iceboxlaw17_Tables.mono _ _)
   | (with_reducible exact iceboxlaw17_awake.mono _)
   | (with_reducible exact iceboxref17_SameEdit.mono _ _ _ _ _ _ _ _ _ _ _ _ _)
   | (with_reducible exact LeO.refl _)
   | (with_reducible exact LeO.none _)
   | (with_reducible refine LeO.ite ?_ ?_)
   | (with_reducible refine LeO.bind ?_ (fun _ => ?_))
   | exact ih0 _ _ _ _ _ _ _ _ _
   | exact ih1 _ _ _ _ _ _ _ _ _ _
   | exact ih2 _ _ _ _
   | exact edit_Get.mono _ _
   | exact edit_Put.mono _ _ _ _ _ _ _
   | exact iceboxlaw17_Tables.mono _ _
   | exact iceboxlaw17_awake.mono _
   | exact iceboxref17_SameEdit.mono _ _ _ _ _ _ _ _ _ _ _ _ _
   | exact LeO.none _
   | refine LeO.ite ?_ ?_
   | refine LeO.bind ?_ (fun _ => ?_)
  ·
   intro y0 y1 y2 y3
   unfold iceboxlaw17_EditBack.j2
   repeat' first
   | (with_reducible exact ih0 _ _ _ _ _ _ _ _ _)
   | (with_reducible exact ih1 _ _ _ _ _ _ _ _ _ _)
   | (with_reducible exact ih2 _ _ _ _)
   | (with_reducible exact edit_Get.mono _ _)
   | (with_reducible exact edit_Put.mono _ _ _ _ _ _ _)
   | (with_reducible exact iceboxlaw17_Tables.mono _ _)
   | (with_reducible exact iceboxlaw17_awake.mono _)
   | (with_reducible exact iceboxref17_SameEdit.mono _ _ _ _ _ _ _ _ _ _ _ _ _)
   | (with_reducible exact LeO.refl _)
   | (with_reducible exact LeO.none _)
   | (with_reducible refine LeO.ite ?_ ?_)
   | (with_reducible refine LeO.bind ?_ (fun _ => ?_))
   | exact ih0 _ _ _ _ _ _ _ _ _
   | exact ih1 _ _ _ _ _ _ _ _ _ _
   | exact ih2 _ _ _ _
   | exact edit_Get.mono _ _
   | exact edit_Put.mono _ _ _ _ _ _ _
   | exact iceboxlaw17_Tables.mono _ _
   | exact iceboxlaw17_awake.mono _
   | exact iceboxref17_SameEdit.mono _ _ _ _ _ _ _ _ _ _ _ _ _
   | exact LeO.none _
   | refine LeO.ite ?_ ?_
   | refine LeO.bind ?_ (fun _ => ?_)
theorem iceboxlaw17_EditBack.mono : ∀ a0 a1 a2 a3 a4 a5 a6 a7 k, LeO (iceboxlaw17_EditBack.f k a0 a1 a2 a3 a4 a5 a6 a7) (iceboxlaw17_EditBack.f (k + 1) a0 a1 a2 a3 a4 a5 a6 a7) := by
 intro a0 a1 a2 a3 a4 a5 a6 a7 k
 obtain ⟨ih0, ih1, ih2⟩ := iceboxlaw17_EditBack.mono_l k
 unfold iceboxlaw17_EditBack.f
 repeat' first
  | (with_reducible exact ih0 _ _ _ _ _ _ _ _ _)
  | (with_reducible exact ih1 _ _ _ _ _ _ _ _ _ _)
  | (with_reducible exact ih2 _ _ _ _)
  | (with_reducible exact edit_Get.mono _ _)
  | (with_reducible exact edit_Put.mono _ _ _ _ _ _ _)
  | (with_reducible exact iceboxlaw17_Tables.mono _ _)
  | (with_reducible exact iceboxlaw17_awake.mono _)
  | (with_reducible exact iceboxref17_SameEdit.mono _ _ _ _ _ _ _ _ _ _ _ _ _)
  | (with_reducible exact LeO.refl _)
  | (with_reducible exact LeO.none _)
  | (with_reducible refine LeO.ite ?_ ?_)
  | (with_reducible refine LeO.bind ?_ (fun _ => ?_))
  | exact ih0 _ _ _ _ _ _ _ _ _
  | exact ih1 _ _ _ _ _ _ _ _ _ _
  | exact ih2 _ _ _ _
  | exact edit_Get.mono _ _
  | exact edit_Put.mono _ _ _ _ _ _ _
  | exact iceboxlaw17_Tables.mono _ _
  | exact iceboxlaw17_awake.mono _
  | exact iceboxref17_SameEdit.mono _ _ _ _ _ _ _ _ _ _ _ _ _
  | exact LeO.none _
  | refine LeO.ite ?_ ?_
  | refine LeO.bind ?_ (fun _ => ?_)
def iceboxlaw17_EditBack.T7 : Bool × List (List Nat × List Nat) := (true, [([], []), ([0], [0]), ([], []), ([], []), ([2, 3], [2, 3]), ([4], [4]), ([5], [5]), ([6], [6]), ([7], [7]), ([1, 8], [1, 8]), ([0, 1, 2, 3, 4, 5, 6, 7, 8, 9], []), ([10, 9, 9, 0, 1, 2, 3, 4, 5, 6, 7, 8, 9], [9, 10])])
def iceboxlaw17_EditBack.B7 : List Nat := [0, 1, 0, 0, 12, 28, 60, 124, 252, 511, 1023, 2047]
theorem iceboxlaw17_EditBack.tab7 : rtab .any (opsOf Try.f4 7) = iceboxlaw17_EditBack.T7 := by kernel_rfl
theorem iceboxlaw17_EditBack.bits7 : waitsOk iceboxlaw17_EditBack.T7.2 iceboxlaw17_EditBack.B7 = true := by kernel_rfl
def iceboxlaw17_EditBack.T15 : Bool × List (List Nat × List Nat) := (true, [([], []), ([0], [0]), ([1], [1]), ([2], [2]), ([3, 2], [2, 3]), ([2, 4], [2, 4]), ([5, 2], [5]), ([6], [6]), ([7, 6], [6, 7]), ([8, 6, 6], [6, 8]), ([9], [9]), ([10, 9, 9], [9, 10]), ([11, 9], [9, 11]), ([9], [9]), ([13, 9], [9, 13]), ([12, 14, 9], [9, 12, 14]), ([9, 15, 6], [6, 9, 15]), ([6, 16], [6, 16]), ([17, 11], [17]), ([18, 18], [18]), ([18, 19], [18, 19]), ([20, 19, 0, 1, 2, 3, 4, 5, 6, 7, 8, 9, 10, 11, 12, 13, 14, 15, 16, 17, 18, 19, 20], [20])])
def iceboxlaw17_EditBack.B15 : List Nat := [0, 1, 3, 7, 15, 31, 63, 127, 255, 511, 1023, 2047, 4095, 1023, 9215, 32767, 65535, 131071, 262143, 524287, 1048575, 2097151]
theorem iceboxlaw17_EditBack.tab15 : rtab .any (opsOf Try.f4 15) = iceboxlaw17_EditBack.T15 := by kernel_rfl
theorem iceboxlaw17_EditBack.bits15 : waitsOk iceboxlaw17_EditBack.T15.2 iceboxlaw17_EditBack.B15 = true := by kernel_rfl
set_option maxRecDepth 100000 in
theorem store_blk6 {ev : Operand → Value} {w : World} {oi : Oper} {p x : Operand} {g n4 n5 c4 c5 : Nat} {A4 A5 : Option Addr} {x0 x1 x2 x3 : Int} (ho : oi.op = .store 25 p x) (hp : ev p = .pointer (some ⟨g, 0, none⟩)) (hx : ev x = .agg #[.int .i64 x0, .int .i64 x1, .int .i64 x2, .int .i64 x3, .slice A4 n4 c4, .slice A5 n5 c5])
    (hb : w.heap[g]? = some (.cells #[.int .i64 0, .int .i64 0, .int .i64 0, .int .i64 0, .slice none 0 0, .slice none 0 0] 25 (0, 0))) :
    (execOp ev oi).run Try.prog w = .ok .skip ((((((w.setCell ⟨g, 0, none⟩ (.int .i64 x0)).setCell ⟨g, 1, none⟩ (.int .i64 x1)).setCell ⟨g, 2, none⟩ (.int .i64 x2)).setCell ⟨g, 3, none⟩ (.int .i64 x3)).setCell ⟨g, 4, none⟩ (.slice A4 n4 c4)).setCell ⟨g, 5, none⟩ (.slice A5 n5 c5)) := by
  have h0 : w.cell? ⟨g, 0, none⟩ = some (.int .i64 0) := (blk_cell hb 0).trans rfl
  have h1 : w.cell? ⟨g, 1, none⟩ = some (.int .i64 0) := (blk_cell hb 1).trans rfl
  have h2 : w.cell? ⟨g, 2, none⟩ = some (.int .i64 0) := (blk_cell hb 2).trans rfl
  have h3 : w.cell? ⟨g, 3, none⟩ = some (.int .i64 0) := (blk_cell hb 3).trans rfl
  have h4 : w.cell? ⟨g, 4, none⟩ = some (.slice none 0 0) := (blk_cell hb 4).trans rfl
  have h5 : w.cell? ⟨g, 5, none⟩ = some (.slice none 0 0) := (blk_cell hb 5).trans rfl
  have f0 := blk_frozen hb 0
  have f1 := blk_frozen hb 1
  have f2 := blk_frozen hb 2
  have f3 := blk_frozen hb 3
  have f4 := blk_frozen hb 4
  have f5 := blk_frozen hb 5
  clear hb
  have hu25 := Try.underlying25
  unfold execOp
  rw [ho]
  dsimp only
  rw [hp, hx]
  clear hp hx ho
  go_simp
theorem far6 {α : Type} {d : Kd α} {e base : Nat} {ok : Nat → Prop} {W : World} {v : Value} {xs : List α} {g : Nat} (h : d.R e W base (fun k => ok k ∧ k ≠ g) v xs) (u0 u1 u2 u3 u4 u5 : Value) :
    d.R e ((((((W.setCell ⟨g, 0, none⟩ u0).setCell ⟨g, 1, none⟩ u1).setCell ⟨g, 2, none⟩ u2).setCell ⟨g, 3, none⟩ u3).setCell ⟨g, 4, none⟩ u4).setCell ⟨g, 5, none⟩ u5) base ok v xs :=
  Kd.R_mono (Kd.R_far (p := ⟨g, 5, none⟩) (Kd.R_far (p := ⟨g, 4, none⟩) (Kd.R_far (p := ⟨g, 3, none⟩) (Kd.R_far (p := ⟨g, 2, none⟩) (Kd.R_far (p := ⟨g, 1, none⟩) (Kd.R_far (p := ⟨g, 0, none⟩) h (fun _ hk => hk.2) u0) (fun _ hk => hk.2) u1) (fun _ hk => hk.2) u2) (fun _ hk => hk.2) u3) (fun _ hk => hk.2) u4) (fun _ hk => hk.2) u5) (fun _ hk => hk.1)
section
variable {ops : Array Oper} {rest : List Oper} {o : Oper} {a : Act} {Q : Exit → Act → World → Prop}
theorem put6 {W w0 : World} {base g n4 n5 c4 c5 : Nat} {A4 A5 : Option Addr} {p x : Operand} {x0 x1 x2 x3 : Int} (hgd : o.guard = none) (ho : o.op = .store 25 p x) (hN : o.dst = none) (hp : a.eval p = .pointer (some ⟨g, 0, none⟩)) (hx : a.eval x = .agg #[.int .i64 x0, .int .i64 x1, .int .i64 x2, .int .i64 x3, .slice A4 n4 c4, .slice A5 n5 c5])
    (hb : W.heap[g]? = some (.cells #[.int .i64 0, .int .i64 0, .int .i64 0, .int .i64 0, .slice none 0 0, .slice none 0 0] 25 (0, 0))) (hB : Below base w0 W) (hge : base ≤ g)
    (h : ∀ w', Below base w0 w' → w'.heap[g]? = some (.cells #[.int .i64 x0, .int .i64 x1, .int .i64 x2, .int .i64 x3, .slice A4 n4 c4, .slice A5 n5 c5] 25 (0, 0)) →
      (∀ ok v xs, (Kd.int .u8).R 5 W base ok v xs → (Kd.int .u8).R 5 w' base ok v xs) → (∀ ok v xs, k31.R 31 W base ok v xs → k31.R 31 w' base ok v xs) → (∀ ok v xs, (Kd.int .i64).R 3 W base ok v xs → (Kd.int .i64).R 3 w' base ok v xs) → wpList Try.prog ops Q rest a w') : wpList Try.prog ops Q (o :: rest) a W := by
  refine wpList_plain hgd fun K hK => ?_
  unfold Oper.wp
  rw [store_blk6 ho hp hx hb]
  show K (a.put o.dst undef) _
  rw [hN]
  refine hK _ _ (h _ (Below.setCell (Below.setCell (Below.setCell (Below.setCell (Below.setCell (Below.setCell hB hge _) hge _) hge _) hge _) hge _) hge _) ?_ (fun ok v xs hR => far6 (Kd.R_types hR hb (by decide)) _ _ _ _ _ _) (fun ok v xs hR => far6 (Kd.R_types hR hb (by decide)) _ _ _ _ _ _) (fun ok v xs hR => far6 (Kd.R_types hR hb (by decide)) _ _ _ _ _ _))
  refine blk_put (cs := #[.int .i64 x0, .int .i64 x1, .int .i64 x2, .int .i64 x3, .slice A4 n4 c4, .slice none 0 0]) ?_ 5 _ rfl
  refine blk_put (cs := #[.int .i64 x0, .int .i64 x1, .int .i64 x2, .int .i64 x3, .slice none 0 0, .slice none 0 0]) ?_ 4 _ rfl
  refine blk_put (cs := #[.int .i64 x0, .int .i64 x1, .int .i64 x2, .int .i64 0, .slice none 0 0, .slice none 0 0]) ?_ 3 _ rfl
  refine blk_put (cs := #[.int .i64 x0, .int .i64 x1, .int .i64 0, .int .i64 0, .slice none 0 0, .slice none 0 0]) ?_ 2 _ rfl
  refine blk_put (cs := #[.int .i64 x0, .int .i64 0, .int .i64 0, .int .i64 0, .slice none 0 0, .slice none 0 0]) ?_ 1 _ rfl
  exact blk_put (cs := #[.int .i64 0, .int .i64 0, .int .i64 0, .int .i64 0, .slice none 0 0, .slice none 0 0]) hb 0 _ rfl
end

set_option maxHeartbeats 80000000 in
set_option maxRecDepth 100000 in
theorem iceboxlaw17_EditBack.calls (k : Nat) (A0 : Option Addr) (c0 : Nat) (l0 : List Int) (A1 : Option Addr) (c1 : Nat) (l1 : List Int) (a2 : Int) (a3 : Int) (a4 : Int) (a5 : Int) (A6 : Option Addr) (c6 : Nat) (l6 : List Int) (A7 : Option Addr) (c7 : Nat) (l7 : List Int) (r : Bool) (w : World) (hR_ : Aside0 (r = true)) (hr0 : Kd.C (Kd.int .u8) w A0 l0.length l0) (hc0 : l0.length ≤ c0) (hr1 : Kd.C (Kd.int .u32) w A1 l1.length l1) (hc1 : l1.length ≤ c1) (hr6 : Kd.C (Kd.int .u8) w A6 l6.length l6) (hc6 : l6.length ≤ c6) (hr7 : Kd.C (Kd.int .u8) w A7 l7.length l7) (hc7 : l7.length ≤ c7) (h : iceboxlaw17_EditBack.f k l0 l1 a2 a3 a4 a5 l6 l7 = some r) :
 Calls Try.prog 4 #[.slice A0 l0.length c0, .slice A1 l1.length c1, .int .u32 a2, .int .u32 a3, .int .u32 a4, .int .u32 a5, .slice A6 l6.length c6, .slice A7 l7.length c7] w fun e w' => e = .returned (.bool r) ∧ Below w.heap.size w w' := by
 have hu25 := Try.underlying25
 have HR0 := Aside0.mk hr0
 have HC0 := Aside0.mk hc0
 clear hr0 hc0
 have HR1 := Aside0.mk hr1
 have HC1 := Aside0.mk hc1
 clear hr1 hc1
 have HR6 := Aside0.mk hr6
 have HC6 := Aside0.mk hc6
 clear hr6 hc6
 have HR7 := Aside0.mk hr7
 have HC7 := Aside0.mk hc7
 clear hr7 hc7
 have HB := Aside0.mk (Below.refl w.heap.size w)
 have H : (if (l1.length : Int) > 50 then (iceboxlaw17_EditBack.j0 k l0 l1 a2 a3 a4 a5 l6 l7 true) else (if (l6.length : Int) = 0 then (iceboxlaw17_EditBack.j0 k l0 l1 a2 a3 a4 a5 l6 l7 true) else (if (l6.length : Int) > 50 then (iceboxlaw17_EditBack.j0 k l0 l1 a2 a3 a4 a5 l6 l7 true) else (iceboxlaw17_EditBack.j0 k l0 l1 a2 a3 a4 a5 l6 l7 (decide ((l7.length : Int) > 2000)))))) = some r := h
 clear h
 have HC9 := Aside0.mk H
 clear H
 go_enter Try.func4, Try.ntmps4
 go_upto_region 1 with (fail)
 go_cut [45] (fun v45 wc => ∃ (kq : Nat) (x45_8 : Bool), v45 = .bool x45_8 ∧ Aside0 (iceboxlaw17_EditBack.j0 kq l0 l1 a2 a3 a4 a5 l6 l7 x45_8 = some r) ∧ Aside0 (kq ≤ k) ∧ Aside0 (Below w.heap.size w wc))
 case first =>
  have H := HC9.out
  clear HC9
  by_cases c10 : (l1.length : Int) > 50
  ·
   rw [if_pos c10] at H
   have c10b0 : decide (50 < (l1.length : Int)) = true := decide_eq_true c10
   have c10b1 : decide (50 < l1.length) = true := decide_eq_true (by omega)
   clear c10
   (first | rw [c10b0] | (simp only [i64_w, i32_w]; rw [c10b0]) | skip)
   have H' := Aside0.mk H
   clear H
   go_wp2
   go_meet
   case rel => exact ⟨_, (true), (by first | rfl | (simp; done) | (simp [*]; done)), H', ⟨by first | omega | exact Nat.le_refl _⟩, ⟨by repeat (first | (with_reducible first | exact HB.out | apply below_alloc | apply pw_below_drewN | apply below_drew1) | exact HB.out | exact Below.refl _ _)⟩⟩
  ·
   rw [if_neg c10] at H
   have c10b0 : decide (50 < (l1.length : Int)) = false := decide_eq_false c10
   have c10b1 : decide (50 < l1.length) = false := decide_eq_false (by omega)
   clear c10
   (first | rw [c10b0] | (simp only [i64_w, i32_w]; rw [c10b0]) | skip)
   by_cases c11 : (l6.length : Int) = 0
   ·
    rw [if_pos c11] at H
    have c11b0 : ((l6.length : Int) == 0) = true := beq_iff_eq.mpr c11
    have c11b1 : ((l6.length : Int) != 0) = false := bne_eq_false_iff_eq.mpr c11
    clear c11
    have H' := Aside0.mk H
    clear H
    go_wp2
    go_meet
    case rel => exact ⟨_, (true), (by first | rfl | (simp; done) | (simp [*]; done)), H', ⟨by first | omega | exact Nat.le_refl _⟩, ⟨by repeat (first | (with_reducible first | exact HB.out | apply below_alloc | apply pw_below_drewN | apply below_drew1) | exact HB.out | exact Below.refl _ _)⟩⟩
   ·
    rw [if_neg c11] at H
    have c11b0 : ((l6.length : Int) == 0) = false := beq_eq_false_iff_ne.mpr c11
    have c11b1 : ((l6.length : Int) != 0) = true := bne_iff_ne.mpr c11
    have c11b2 : ¬ (l6 = []) := fun h_ => c11 (by rw [h_]; rfl)
    by_cases c12 : (l6.length : Int) > 50
    ·
     rw [if_pos c12] at H
     have c12b0 : decide (50 < (l6.length : Int)) = true := decide_eq_true c12
     have c12b1 : decide (50 < l6.length) = true := decide_eq_true (by omega)
     clear c12
     have H' := Aside0.mk H
     clear H
     go_wp2
     go_meet
     case rel => exact ⟨_, (true), (by first | rfl | (simp; done) | (simp [*]; done)), H', ⟨by first | omega | exact Nat.le_refl _⟩, ⟨by repeat (first | (with_reducible first | exact HB.out | apply below_alloc | apply pw_below_drewN | apply below_drew1) | exact HB.out | exact Below.refl _ _)⟩⟩
    ·
     rw [if_neg c12] at H
     have c12b0 : decide (50 < (l6.length : Int)) = false := decide_eq_false c12
     have c12b1 : decide (50 < l6.length) = false := decide_eq_false (by omega)
     clear c12
     have H' := Aside0.mk H
     clear H
     go_wp2
     go_meet
     case rel => exact ⟨_, (decide ((l7.length : Int) > 2000)), (by first | rfl | (simp; done) | (simp [*]; done)), H', ⟨by first | omega | exact Nat.le_refl _⟩, ⟨by repeat (first | (with_reducible first | exact HB.out | apply below_alloc | apply pw_below_drewN | apply below_drew1) | exact HB.out | exact Below.refl _ _)⟩⟩
 case rest =>
  as_aux_lemma =>
   clear HC9
   try clear c1
   try clear c6
   try clear c7
   obtain ⟨kq, x45_8, rfl, HA, HJ8, HB⟩ := hcut
   cases kq with
   | zero => exact absurd HA.out (by simp [iceboxlaw17_EditBack.j0])
   | succ kj8 =>
    have H := HA.out
    clear HA
    simp only [iceboxlaw17_EditBack.j0] at H
    by_cases c13 : x45_8 = true
    ·
     subst c13
     have H1 : ((iceboxlaw17_awake.f kj8).bind fun t200 => (some t200)) = some r := by rw [if_pos rfl] at H; exact H
     clear H
     have H := H1
     clear H1
     replace H := Option.bind_eq_some_iff.mp H
     obtain ⟨t200, A140, H⟩ := H
     replace H : (some t200) = some r := H
     have A14 := Aside0.mk A140
     clear A140
     obtain rfl := Option.some.inj H
     go_wp2_with (first | ((with_reducible refine gate_callee (f := 14) rfl ?_); refine goesL_ (some 46) rfl rfl Try.func14 (by kernel_rfl) rfl #[] rfl (by (try simp only [List.map_toArray, List.map_cons, List.map_nil]); first | done | rfl | (simp only [List.length_drop, List.length_take]; rfl)) ?_; (with_reducible refine (iceboxlaw17_awake.calls kj8  t200 _ A14.out).mono ?_); rintro e w15 ⟨rfl, hb⟩; refine ⟨_, rfl, ?_⟩; have n0_ := Aside0.mk (below_step (by repeat (first | (with_reducible first | exact HB.out | apply below_alloc | apply pw_below_drewN | apply below_drew1) | exact HB.out | exact Below.refl _ _)) hb); clear HB; have HB := n0_; clear n0_; (try clear hb); (try clear hb2); (try clear hk); (try clear hi)))
     go_ret
     exact ⟨by first | rfl | (simp [errW_none, errW_some] <;> rfl) | (simp [*, errW_none, errW_some] <;> rfl), by repeat (first | (with_reducible first | exact HB.out | apply below_alloc | apply pw_below_drewN | apply below_drew1) | exact HB.out | exact Below.refl _ _)⟩
    ·
     replace c13 := Bool.eq_false_iff.mpr c13
     subst c13
     have H1 : ((iceboxlaw17_Tables.f kj8 l0).bind fun t201 => (iceboxlaw17_EditBack.l0 kj8 l1 l6 l7 0 (wrap64 (a2)) (wrap64 (a3)) (wrap64 (a4)) (wrap64 (a5)) t201 ([] : List Int))) = some r := by rw [if_neg (show ¬ (false = true) by decide)] at H; exact H
     clear H
     have H := H1
     clear H1
     replace H := Option.bind_eq_some_iff.mp H
     obtain ⟨t201, A160, H⟩ := H
     replace H : (iceboxlaw17_EditBack.l0 kj8 l1 l6 l7 0 (wrap64 (a2)) (wrap64 (a3)) (wrap64 (a4)) (wrap64 (a5)) t201 ([] : List Int)) = some r := H
     have A16 := Aside0.mk A160
     clear A160
     have H' := Aside0.mk H
     clear H
     go_wp2_with (first | ((with_reducible refine gate_callee (f := 24) rfl ?_); refine goesL_ (some 56) rfl rfl Try.func24 (by kernel_rfl) rfl #[.slice A0 l0.length c0] rfl (by (try simp only [List.map_toArray, List.map_cons, List.map_nil]); first | done | rfl | (simp only [List.length_drop, List.length_take]; rfl)) ?_; (with_reducible refine (iceboxlaw17_Tables.calls kj8 _ _ l0 t201 _ ?side1 ?side2 A16.out).mono ?_); (case side1 => repeat (first | exact (Kd.C_below HR0.out HB.out) | (with_reducible refine Kd.C_alloc ?_ _) | (with_reducible refine Kd.C_drewN ?_ _) | (with_reducible refine Kd.C_drew ?_))); (case side2 => exact HC0.out); rintro e w17 ⟨v202, rfl, ho0, hb⟩; refine ⟨_, rfl, ?_⟩; have n0_ := Aside0.mk (Kd.R_lower ho0 (below_size (by repeat (first | (with_reducible first | exact HB.out | apply below_alloc | apply pw_below_drewN | apply below_drew1) | exact HB.out | exact Below.refl _ _)))); have n1_ := Aside0.mk (below_step (by repeat (first | (with_reducible first | exact HB.out | apply below_alloc | apply pw_below_drewN | apply below_drew1) | exact HB.out | exact Below.refl _ _)) hb); clear HB; have HO203 := n0_; have HB := n1_; clear n0_ n1_; (try clear hb); (try clear hb2); (try clear hk); (try clear hi); (try clear ho0); obtain ⟨Ao18, co18, eo18⟩ := Kd.R_slice HO203.out; subst eo18) | ((with_reducible refine gate_dst (N := 17) rfl ?_); (try (refine gate_guard (by rfl) ?_; dsimp only)); refine box_event ?hg (N := 17) ?hd (cs := #[.int .i64 0, .int .i64 0, .int .i64 0, .int .i64 0, .slice none 0 0, .slice none 0 0]) (t := 25) ?hr ?_; (case hd => rfl); (case hg => rfl); (case hr => first | (go_simp; done) | (go_simp; rfl)); intro gb204 hg w19 hbox hb; have n0_ := Aside0.mk (Kd.R_below (by (with_reducible repeat (first | apply Kd.R_alloc | apply Kd.R_drewN | apply Kd.R_drew)); exact HO203.out) hb); have n1_ := Aside0.mk (below_step (by repeat (first | (with_reducible first | exact HB.out | apply below_alloc | apply pw_below_drewN | apply below_drew1) | exact HB.out | exact Below.refl _ _)) hb); have n2_ := Aside0.mk (hbox); have n3_ := Aside0.mk ((by rw [hg]; exact (below_size (by repeat (first | (with_reducible first | exact HB.out | apply below_alloc | apply pw_below_drewN | apply below_drew1) | exact HB.out | exact Below.refl _ _))) : w.heap.size ≤ gb204)); have n4_ := Aside0.mk ((by rw [hg]; exact (below_size (by repeat (first | (with_reducible first | exact HB.out | apply below_alloc | apply pw_below_drewN | apply below_drew1) | exact HB.out | exact Below.refl _ _))) : w.heap.size ≤ gb204)); clear HO203; clear HB; have HO203 := n0_; have HB := n1_; have BK204 := n2_; have GW204 := n3_; have GE204 := n4_; clear n0_ n1_ n2_ n3_ n4_; clear hb hbox hg; have hcz20_0 : w19.cell? ⟨gb204, 0, none⟩ = some (.int .i64 0) := (blk_cell BK204.out 0).trans rfl; have hcz20_1 : w19.cell? ⟨gb204, 1, none⟩ = some (.int .i64 0) := (blk_cell BK204.out 1).trans rfl; have hcz20_2 : w19.cell? ⟨gb204, 2, none⟩ = some (.int .i64 0) := (blk_cell BK204.out 2).trans rfl; have hcz20_3 : w19.cell? ⟨gb204, 3, none⟩ = some (.int .i64 0) := (blk_cell BK204.out 3).trans rfl; have hcz20_4 : w19.cell? ⟨gb204, 4, none⟩ = some (.slice none 0 0) := (blk_cell BK204.out 4).trans rfl; have hcz20_5 : w19.cell? ⟨gb204, 5, none⟩ = some (.slice none 0 0) := (blk_cell BK204.out 5).trans rfl; have hfz20_0 := blk_frozen BK204.out 0; have hfz20_1 := blk_frozen BK204.out 1; have hfz20_2 := blk_frozen BK204.out 2; have hfz20_3 := blk_frozen BK204.out 3; have hfz20_4 := blk_frozen BK204.out 4; have hfz20_5 := blk_frozen BK204.out 5))
     try simp only [Act.put, List.setIfInBounds_toArray, List.set_cons_zero, List.set_cons_succ]
     go_loopg [18] kj8 (fun kq v18 w' => ∃ (x18_2 : Int) (x205005_2 : List Int) (u205005 : Value), v18 = .int .i64 x18_2 ∧ Aside0 (iceboxlaw17_EditBack.l0 kq l1 l6 l7 x18_2 (wrap64 (a2)) (wrap64 (a3)) (wrap64 (a4)) (wrap64 (a5)) t201 x205005_2 = some r) ∧ Aside0 (kq ≤ kj8) ∧ Aside0 (Kd.R k31 31 w' w.heap.size (fun _ => True) (.slice Ao18 t201.length co18) t201) ∧ Aside0 (Kd.R (Kd.int .i64) 3 w' w.heap.size (fun _ => True) u205005 x205005_2) ∧ Aside0 (w'.heap[gb204]? = some (.cells #[.int .i64 (wrap64 (a2)), .int .i64 (wrap64 (a3)), .int .i64 (wrap64 (a4)), .int .i64 (wrap64 (a5)), (.slice Ao18 t201.length co18), u205005] 25 (0, 0))) ∧ Aside0 (Below w.heap.size w w'))
     case atStart => exact ⟨(0), (([] : List Int)), (.slice none 0 0), (by first | rfl | (simp; done) | (simp [*]; done)), H', ⟨Nat.le_refl _⟩, ⟨by (with_reducible repeat (first | apply Kd.R_alloc | apply Kd.R_drewN | apply Kd.R_drew)); exact Kd.R_mono (Kd.R_far (p := ⟨gb204, 5, none⟩) (Kd.R_far (p := ⟨gb204, 4, none⟩) (Kd.R_far (p := ⟨gb204, 3, none⟩) (Kd.R_far (p := ⟨gb204, 2, none⟩) (Kd.R_far (p := ⟨gb204, 1, none⟩) (Kd.R_far (p := ⟨gb204, 0, none⟩) (Kd.R_types HO203.out BK204.out (by decide)) (fun _ hk => hk.2) (.int .i64 (wrap64 (a2)))) (fun _ hk => hk.2) (.int .i64 (wrap64 (a3)))) (fun _ hk => hk.2) (.int .i64 (wrap64 (a4)))) (fun _ hk => hk.2) (.int .i64 (wrap64 (a5)))) (fun _ hk => hk.2) (.slice Ao18 t201.length co18)) (fun _ hk => hk.2) (.slice none 0 0)) (fun _ hk => trivial)⟩, ⟨by first | exact Kd.R_nil _ _ _ _ _ | exact Kd.N_nil _ _ _ _ _ | exact Kd.V_nil _ _ _ _ _ | exact Kd.Q_nil _ _ _ _ _ | exact Kd.S_nil _ _ _ _ _⟩, ⟨by (with_reducible repeat (first | refine blk_drewN ?_ _ | refine blk_drew ?_ | refine blk_alloc ?_ _)); refine blk_put (cs := #[.int .i64 (wrap64 (a2)), .int .i64 (wrap64 (a3)), .int .i64 (wrap64 (a4)), .int .i64 (wrap64 (a5)), .slice Ao18 t201.length co18, .slice none 0 0]) ?_ 5 _ rfl; (with_reducible repeat (first | refine blk_drewN ?_ _ | refine blk_drew ?_ | refine blk_alloc ?_ _)); refine blk_put (cs := #[.int .i64 (wrap64 (a2)), .int .i64 (wrap64 (a3)), .int .i64 (wrap64 (a4)), .int .i64 (wrap64 (a5)), .slice none 0 0, .slice none 0 0]) ?_ 4 _ rfl; (with_reducible repeat (first | refine blk_drewN ?_ _ | refine blk_drew ?_ | refine blk_alloc ?_ _)); refine blk_put (cs := #[.int .i64 (wrap64 (a2)), .int .i64 (wrap64 (a3)), .int .i64 (wrap64 (a4)), .int .i64 0, .slice none 0 0, .slice none 0 0]) ?_ 3 _ rfl; (with_reducible repeat (first | refine blk_drewN ?_ _ | refine blk_drew ?_ | refine blk_alloc ?_ _)); refine blk_put (cs := #[.int .i64 (wrap64 (a2)), .int .i64 (wrap64 (a3)), .int .i64 0, .int .i64 0, .slice none 0 0, .slice none 0 0]) ?_ 2 _ rfl; (with_reducible repeat (first | refine blk_drewN ?_ _ | refine blk_drew ?_ | refine blk_alloc ?_ _)); refine blk_put (cs := #[.int .i64 (wrap64 (a2)), .int .i64 0, .int .i64 0, .int .i64 0, .slice none 0 0, .slice none 0 0]) ?_ 1 _ rfl; (with_reducible repeat (first | refine blk_drewN ?_ _ | refine blk_drew ?_ | refine blk_alloc ?_ _)); refine blk_put (cs := #[.int .i64 0, .int .i64 0, .int .i64 0, .int .i64 0, .slice none 0 0, .slice none 0 0]) ?_ 0 _ rfl; (with_reducible repeat (first | refine blk_drewN ?_ _ | refine blk_drew ?_ | refine blk_alloc ?_ _)); exact BK204.out⟩, ⟨by repeat (first | (with_reducible first | exact HB.out | apply below_alloc | apply pw_below_drewN | apply below_drew1 | refine below_set ?_ GE204.out) | exact HB.out | exact Below.refl _ _)⟩⟩
     case round =>
      clear H'
      try clear c1
      try clear c6
      try clear c7
      obtain ⟨x18_2, x205005_2, u205005, rfl, HA, HK2, HO_205004, HO_205005, BK204, HB⟩ := hrel
      cases gk with
      | zero => exact absurd HA.out (by simp [iceboxlaw17_EditBack.l0])
      | succ k2 =>
       have H := HA.out
       clear HA
       simp only [iceboxlaw17_EditBack.l0] at H
       by_cases c21 : x18_2 < (l1.length : Int)
       ·
        rw [if_pos c21] at H
        have c21b0 : decide (x18_2 < (l1.length : Int)) = true := decide_eq_true c21
        clear c21
        by_cases c22 : 0 ≤ x18_2
        ·
         rw [if_pos c22] at H
         have c22b0 : decide (0 ≤ x18_2) = true := decide_eq_true c22
         clear c22
         by_cases c23 : x205005_2.length < 17592186044416
         ·
          rw [if_pos c23] at H
          have LMc23 := Aside0.mk c23
          clear c23
          obtain ⟨y206, hy206⟩ : ∃ y_ : List Int, y_ = (x205005_2 ++ [wrap64 (1 + (wrap64 (rd l1 x18_2)))]) := ⟨_, rfl⟩
          replace H : (iceboxlaw17_EditBack.l0 k2 l1 l6 l7 (wrap64 (x18_2 + 1)) (wrap64 (a2)) (wrap64 (a3)) (wrap64 (a4)) (wrap64 (a5)) t201 y206) = some r := by first | (rw [hy206]; with_reducible exact H) | (have H2_ := (Option.bind_some _ _).symm.trans H; rw [hy206]; with_reducible exact H2_) | (have H2_ := (Option.bind_some _ _).symm.trans H; with_reducible exact H2_) | with_reducible exact H | (rw [hy206]; exact H) | exact H
          have Ny206 := Aside0.mk hy206
          clear hy206
          have H' := Aside0.mk H
          clear H
          try go_wp2
          have n0_ := Aside0.mk (Kd.R_drew HO_205004.out)
          have n1_ := Aside0.mk (Kd.R_drew HO_205005.out)
          have n2_ := Aside0.mk (blk_drew BK204.out)
          have n3_ := Aside0.mk (below_drew1 HB.out)
          clear HO_205004
          clear HO_205005
          clear BK204
          clear HB
          have HO_205004 := n0_
          have HO_205005 := n1_
          have BK204 := n2_
          have HB := n3_
          clear n0_ n1_ n2_ n3_
          have p205 : 0 ≤ (x18_2 : Int) := of_decide_eq_true (by first | (with_reducible assumption) | assumption)
          have q205 : x18_2 < (l1.length : Int) := of_decide_eq_true (by first | (with_reducible assumption) | assumption)
          obtain ⟨ad205, e205, hx205_0⟩ := Kd.at_int HR1.out x18_2 p205 q205
          have hw205_0 := hx205_0
          cases e205
          replace hx205_0 := (HB.out.cell (World.block_lt_of_cell? w _ hx205_0)).trans hx205_0
          replace p205 := eq_true p205
          replace q205 := eq_true q205
          as_aux_lemma =>
           refine start_ (n := 12) (S := fun w' => w'.cell? ⟨gb204, 0, none⟩ = some (.int .i64 (wrap64 (a2))) ∧ w'.cell? ⟨gb204, 1, none⟩ = some (.int .i64 (wrap64 (a3))) ∧ w'.cell? ⟨gb204, 2, none⟩ = some (.int .i64 (wrap64 (a4))) ∧ w'.cell? ⟨gb204, 3, none⟩ = some (.int .i64 (wrap64 (a5))) ∧ w'.cell? ⟨gb204, 4, none⟩ = some (.slice Ao18 t201.length co18) ∧ w'.cell? ⟨gb204, 5, none⟩ = some (u205005) ∧ w'.cell? (ad205.add (x18_2).toNat) = some (.int .u32 (rd l1 x18_2))) (ds := [11]) #[false, false, false, false, false, false, false, false, false, false, false, false] (by kernel_rfl) rfl rfl ⟨(blk_cell BK204.out 0).trans rfl, (blk_cell BK204.out 1).trans rfl, (blk_cell BK204.out 2).trans rfl, (blk_cell BK204.out 3).trans rfl, (blk_cell BK204.out 4).trans rfl, (blk_cell BK204.out 5).trans rfl, ((HB.out.cell (World.block_lt_of_cell? w _ hw205_0)).trans hw205_0)⟩ (fun hHeld => ?_); refine with_tabW iceboxlaw17_EditBack.tab7 iceboxlaw17_EditBack.bits7 (fun HT_ HW_ => ?_)
           generalize wr.drew = w24 at HO_205004 HO_205005 BK204 HB hx205_0 hHeld ⊢
           refine pure_ (i := 0) (N := some 64) (v := ?_) (a' := ?_) #[true, false, false, false, false, false, false, false, false, false, false, false] rfl rfl (any_of HT_.out (by kernel_rfl)) (fun _ _ _ h => h) (Or.inl ⟨by rfl, ?_⟩) ?_ ?_
           rotate_left
           ·
            intro w'
            go_simp
            with_reducible rfl
           rotate_left
           ·
            simp only [Act.put, List.setIfInBounds_toArray, List.set_cons_zero, List.set_cons_succ, i64_w, i32_w]
            rfl
           refine pure_ (i := 2) (N := some 66) (v := ?_) (a' := ?_) #[true, false, true, false, false, false, false, false, false, false, false, false] rfl rfl (any_of HT_.out (by kernel_rfl)) (fun _ _ _ h => h) (Or.inl ⟨by rfl, ?_⟩) ?_ ?_
           rotate_left
           ·
            intro w'
            go_simp
            with_reducible rfl
           rotate_left
           ·
            simp only [Act.put, List.setIfInBounds_toArray, List.set_cons_zero, List.set_cons_succ, i64_w, i32_w]
            rfl
           refine pure_ (i := 3) (N := some 67) (v := ?_) (a' := ?_) #[true, false, true, true, false, false, false, false, false, false, false, false] rfl rfl (any_of HT_.out (by kernel_rfl)) (fun _ _ _ h => h) (Or.inl ⟨by rfl, ?_⟩) ?_ ?_
           rotate_left
           ·
            intro w'
            go_simp
            with_reducible rfl
           rotate_left
           ·
            simp only [Act.put, List.setIfInBounds_toArray, List.set_cons_zero, List.set_cons_succ, i64_w, i32_w]
            rfl
           refine pure_ (i := 4) (N := some 68) (v := ?_) (a' := ?_) #[true, false, true, true, true, false, false, false, false, false, false, false] rfl rfl (any_of HT_.out (by kernel_rfl)) (fun _ _ _ h => h) (Or.inl ⟨by rfl, ?_⟩) ?_ ?_
           rotate_left
           ·
            intro w'
            go_simp
            with_reducible rfl
           rotate_left
           ·
            simp only [Act.put, List.setIfInBounds_toArray, List.set_cons_zero, List.set_cons_succ, i64_w, i32_w]
            rfl
           refine take_ (i := 1) (N := some 65) (v := ?_) (a' := ?_) #[true, true, true, true, true, false, false, false, false, false, false, false] rfl rfl (take_ofW HT_.out HW_.out (by kernel_rfl)) (fun _ _ _ h => h) (Or.inl ⟨by rfl, ?_⟩) hHeld ?_ ?_
           rotate_left
           ·
            rintro w' ⟨s0, s1, s2, s3, s4, s5, s6⟩
            go_simp
            with_reducible rfl
           rotate_left
           ·
            simp only [Act.put, List.setIfInBounds_toArray, List.set_cons_zero, List.set_cons_succ, i64_w, i32_w]
            rfl
           as_aux_lemma =>
            refine take_ (i := 5) (N := some 69) (v := ?_) (a' := ?_) #[true, true, true, true, true, true, false, false, false, false, false, false] rfl rfl (take_ofW HT_.out HW_.out (by kernel_rfl)) (fun _ _ _ h => h) (Or.inl ⟨by rfl, ?_⟩) hHeld ?_ ?_
            rotate_left
            ·
             rintro w' ⟨s0, s1, s2, s3, s4, s5, s6⟩
             go_simp
             with_reducible rfl
            rotate_left
            ·
             simp only [Act.put, List.setIfInBounds_toArray, List.set_cons_zero, List.set_cons_succ, i64_w, i32_w]
             rfl
            refine pure_ (i := 6) (N := some 70) (v := ?_) (a' := ?_) #[true, true, true, true, true, true, true, false, false, false, false, false] rfl rfl (any_of HT_.out (by kernel_rfl)) (fun _ _ _ h => h) (Or.inl ⟨by rfl, ?_⟩) ?_ ?_
            rotate_left
            ·
             intro w'
             go_simp
             with_reducible rfl
            rotate_left
            ·
             simp only [Act.put, List.setIfInBounds_toArray, List.set_cons_zero, List.set_cons_succ, i64_w, i32_w]
             rfl
            refine pure_ (i := 7) (N := some 71) (v := ?_) (a' := ?_) #[true, true, true, true, true, true, true, true, false, false, false, false] rfl rfl (any_of HT_.out (by kernel_rfl)) (fun _ _ _ h => h) (Or.inl ⟨by rfl, ?_⟩) ?_ ?_
            rotate_left
            ·
             intro w'
             go_simp
             with_reducible rfl
            rotate_left
            ·
             simp only [Act.put, List.setIfInBounds_toArray, List.set_cons_zero, List.set_cons_succ, i64_w, i32_w]
             rfl
            refine one_ (i := 8) (N := some 72) #[true, true, true, true, true, true, true, true, true, false, false, false] rfl rfl (one_of HT_.out (by kernel_rfl)) (by decide) (fun K hK => ?_)
            refine value_ (w1 := ?_) (v := ?_) (by rfl) rfl ?_ ?_
            rotate_left 2
            ·
             go_simp
             constructor
             · rfl
             · rfl
            refine hK.out _ _ ⟨(blk_cell (blk_alloc BK204.out _) 0).trans rfl, (blk_cell (blk_alloc BK204.out _) 1).trans rfl, (blk_cell (blk_alloc BK204.out _) 2).trans rfl, (blk_cell (blk_alloc BK204.out _) 3).trans rfl, (blk_cell (blk_alloc BK204.out _) 4).trans rfl, (blk_cell (blk_alloc BK204.out _) 5).trans rfl, (World.cell?_alloc_lt _ _ _ (World.block_lt_of_cell? _ _ (((HB.out.cell (World.block_lt_of_cell? w _ hw205_0)).trans hw205_0)))).trans (((HB.out.cell (World.block_lt_of_cell? w _ hw205_0)).trans hw205_0))⟩ (fun hHeld => ?_)
            clear hK K
            refine norm_ (a' := ?_) ?_ ?_
            rotate_left
            ·
             show Act.put _ (some 72) _ = _
             simp only [Act.put, List.setIfInBounds_toArray, List.set_cons_zero, List.set_cons_succ, i64_w, i32_w]
             rfl
            refine one_ (i := 9) (N := some 73) #[true, true, true, true, true, true, true, true, true, true, false, false] rfl rfl (one_of HT_.out (by kernel_rfl)) (by decide) (fun K hK => ?_)
            refine Kd.R_append_step (Kd.int .i64) (w0 := w) w.heap.size (by rfl) (.tmp 65) (.tmp 72) 23 3 (.int .i64 0) 8 rfl Try.underlying23 info3 rfl (by decide) (by omega) u205005 x205005_2 (wrap64 (1 + (wrap64 (rd l1 x18_2)))) [.int .i64 (wrap64 (1 + (wrap64 (rd l1 x18_2))))] (fun _ => True) (fun _ => False) rfl rfl ?aP (fun _ hk => hk.elim) ?aF ?aO ?aB ?aS ?aL ?_
            (case aP => exact rfl)
            (case aB => exact (by repeat (first | (with_reducible first | exact HB.out | apply below_alloc | apply pw_below_drewN | apply below_drew1 | refine below_set ?_ GE204.out) | exact HB.out | exact Below.refl _ _)))
            (case aF => exact (fun _ _ => trivial))
            (case aO => exact (by (with_reducible repeat (first | apply Kd.R_alloc | apply Kd.R_drewN | apply Kd.R_drew)); exact HO_205005.out))
            (case aS => exact (below_size (by repeat (first | (with_reducible first | exact HB.out | apply below_alloc | apply pw_below_drewN | apply below_drew1 | refine below_set ?_ GE204.out) | exact HB.out | exact Below.refl _ _))))
            (case aL => have := LMc23.out; omega)
            intro v207 w25 ho hb hg hat
            rw [← Ny206.out] at ho
            have n0_ := Aside0.mk (Kd.R_over' (by (with_reducible repeat (first | apply Kd.R_alloc | apply Kd.R_drewN | apply Kd.R_drew)); exact HO_205004.out) (Kd.R_typed (by (with_reducible repeat (first | apply Kd.R_alloc | apply Kd.R_drewN | apply Kd.R_drew)); exact HO_205005.out)) (by decide) hg)
            have n1_ := Aside0.mk (blk_grown (g := gb204) (o := .cells #[.int .i64 (wrap64 (a2)), .int .i64 (wrap64 (a3)), .int .i64 (wrap64 (a4)), .int .i64 (wrap64 (a5)), .slice Ao18 t201.length co18, u205005] 25 (0, 0)) (by (with_reducible repeat (first | refine blk_drewN ?_ _ | refine blk_drew ?_ | refine blk_alloc ?_ _)); exact BK204.out) hg (Kd.R_ne HO_205005.out BK204.out (by decide)))
            have n2_ := Aside0.mk (hb)
            have n3_ := Aside0.mk (ho)
            clear HO_205004
            clear BK204
            clear HB
            clear HO_205005
            have HO_205004 := n0_
            have BK204 := n1_
            have HB := n2_
            have HO208 := n3_
            clear n0_ n1_ n2_ n3_
            clear ho hb hg hat
            obtain ⟨Ao26, co26, eo26⟩ := Kd.R_slice HO208.out
            (first | subst eo26 | (injection eo26 with f1_ f2_ f3_; have f4_ := f1_.symm; have f5_ := f3_.symm; clear f1_ f2_ f3_; subst f4_; subst f5_))
            refine hK.out _ _ ⟨(blk_cell BK204.out 0).trans rfl, (blk_cell BK204.out 1).trans rfl, (blk_cell BK204.out 2).trans rfl, (blk_cell BK204.out 3).trans rfl, (blk_cell BK204.out 4).trans rfl, (blk_cell BK204.out 5).trans rfl, ((HB.out.cell (World.block_lt_of_cell? w _ hw205_0)).trans hw205_0)⟩ (fun hHeld => ?_)
            clear hK K
            refine norm_ (a' := ?_) ?_ ?_
            rotate_left
            ·
             show Act.put _ (some 73) _ = _
             simp only [Act.put, List.setIfInBounds_toArray, List.set_cons_zero, List.set_cons_succ, i64_w, i32_w]
             rfl
            refine pure_ (i := 10) (N := some 74) (v := ?_) (a' := ?_) #[true, true, true, true, true, true, true, true, true, true, true, false] rfl rfl (any_of HT_.out (by kernel_rfl)) (fun _ _ _ h => h) (Or.inl ⟨by rfl, ?_⟩) ?_ ?_
            rotate_left
            ·
             intro w'
             go_simp
             with_reducible rfl
            rotate_left
            ·
             simp only [Act.put, List.setIfInBounds_toArray, List.set_cons_zero, List.set_cons_succ, i64_w, i32_w]
             rfl
            refine last_ (i := 11) (N := none) #[true, true, true, true, true, true, true, true, true, true, true, true] rfl rfl (one_of HT_.out (by kernel_rfl)) (by decide) (fun K hK => ?_)
            have hs27 : w25.cell? ⟨gb204, 5, none⟩ = some (u205005) := (blk_cell BK204.out 5).trans rfl
            have hfs27 := blk_frozen BK204.out 5
            refine skip_ (w1 := ?_) (by rfl) rfl ?_ ?_
            rotate_left
            ·
             go_simp
             rfl
            refine hK.out _ _ ?_
            clear hK K
            as_aux_lemma =>
             refine done_ (done_of HT_.out (by kernel_rfl)) ?_
             try go_wp2
             go_roundg k2
             case measure => have := HJ8.out; have := HK2.out; omega
             case rel => exact ⟨(wrap64 (x18_2 + 1)), (y206), (.slice Ao26 y206.length co26), (by first | rfl | (simp; done) | (simp [*]; done)), H', ⟨by have := HJ8.out; have := HK2.out; omega⟩, ⟨by (with_reducible repeat (first | apply Kd.R_alloc | apply Kd.R_drewN | apply Kd.R_drew)); exact Kd.R_mono (Kd.R_far (p := ⟨gb204, 5, none⟩) (Kd.R_types HO_205004.out BK204.out (by decide)) (fun _ hk => hk.2) (.slice Ao26 y206.length co26)) (fun _ hk => trivial)⟩, ⟨by (with_reducible repeat (first | apply Kd.R_alloc | apply Kd.R_drewN | apply Kd.R_drew)); exact Kd.R_mono (Kd.R_far (p := ⟨gb204, 5, none⟩) (Kd.R_types HO208.out BK204.out (by decide)) (fun _ hk => hk.2) (.slice Ao26 y206.length co26)) (fun _ hk => trivial)⟩, ⟨by (with_reducible repeat (first | refine blk_drewN ?_ _ | refine blk_drew ?_ | refine blk_alloc ?_ _)); refine blk_put (cs := #[.int .i64 (wrap64 (a2)), .int .i64 (wrap64 (a3)), .int .i64 (wrap64 (a4)), .int .i64 (wrap64 (a5)), .slice Ao18 t201.length co18, u205005]) ?_ 5 _ rfl; (with_reducible repeat (first | refine blk_drewN ?_ _ | refine blk_drew ?_ | refine blk_alloc ?_ _)); exact BK204.out⟩, ⟨by repeat (first | (with_reducible first | exact HB.out | apply below_alloc | apply pw_below_drewN | apply below_drew1 | refine below_set ?_ GE204.out) | exact HB.out | exact Below.refl _ _)⟩⟩
         ·
          rw [if_neg c23] at H
          exact absurd H (by simp)
        ·
         rw [if_neg c22] at H
         exact absurd H (by simp)
       ·
        rw [if_neg c21] at H
        have c21b0 : decide (x18_2 < (l1.length : Int)) = false := decide_eq_false c21
        clear c21
        replace H := Option.bind_eq_some_iff.mp H
        obtain ⟨t209, A280, H⟩ := H
        replace H : ((edit_Get.f k2 t209).bind fun bt212 => (if bt212.2.2.2.2.2.2 = true then ((iceboxref17_SameEdit.f k2 bt212.1 bt212.2.1 bt212.2.2.1 bt212.2.2.2.1 bt212.2.2.2.2.1 bt212.2.2.2.2.2.1 (wrap64 (a2)) (wrap64 (a3)) (wrap64 (a4)) (wrap64 (a5)) t201 x205005_2).bind fun t224 => (if t224 = true then (iceboxlaw17_EditBack.j2 k2 l6 l7 t209 ((t209.length : Int) == 0)) else (iceboxlaw17_EditBack.j2 k2 l6 l7 t209 true))) else (iceboxlaw17_EditBack.j2 k2 l6 l7 t209 true))) = some r := H
        have A28 := Aside0.mk A280
        clear A280
        replace H := Option.bind_eq_some_iff.mp H
        obtain ⟨⟨t212, t213, t214, t215, t216, t219, t222⟩, A290, H⟩ := H
        replace H : (if t222 = true then ((iceboxref17_SameEdit.f k2 t212 t213 t214 t215 t216 t219 (wrap64 (a2)) (wrap64 (a3)) (wrap64 (a4)) (wrap64 (a5)) t201 x205005_2).bind fun t224 => (if t224 = true then (iceboxlaw17_EditBack.j2 k2 l6 l7 t209 ((t209.length : Int) == 0)) else (iceboxlaw17_EditBack.j2 k2 l6 l7 t209 true))) else (iceboxlaw17_EditBack.j2 k2 l6 l7 t209 true)) = some r := H
        have A29 := Aside0.mk A290
        clear A290
        have HC30 := Aside0.mk H
        clear H
        have hcz31_0 : wr.cell? ⟨gb204, 0, none⟩ = some (.int .i64 (wrap64 (a2))) := (blk_cell BK204.out 0).trans rfl
        have hcz31_1 : wr.cell? ⟨gb204, 1, none⟩ = some (.int .i64 (wrap64 (a3))) := (blk_cell BK204.out 1).trans rfl
        have hcz31_2 : wr.cell? ⟨gb204, 2, none⟩ = some (.int .i64 (wrap64 (a4))) := (blk_cell BK204.out 2).trans rfl
        have hcz31_3 : wr.cell? ⟨gb204, 3, none⟩ = some (.int .i64 (wrap64 (a5))) := (blk_cell BK204.out 3).trans rfl
        have hcz31_4 : wr.cell? ⟨gb204, 4, none⟩ = some (.slice Ao18 t201.length co18) := (blk_cell BK204.out 4).trans rfl
        have hcz31_5 : wr.cell? ⟨gb204, 5, none⟩ = some (u205005) := (blk_cell BK204.out 5).trans rfl
        have hfz31_0 := blk_frozen BK204.out 0
        have hfz31_1 := blk_frozen BK204.out 1
        have hfz31_2 := blk_frozen BK204.out 2
        have hfz31_3 := blk_frozen BK204.out 3
        have hfz31_4 := blk_frozen BK204.out 4
        have hfz31_5 := blk_frozen BK204.out 5
        obtain ⟨Ao32, co32, eo32⟩ := Kd.R_slice HO_205005.out
        subst eo32
        as_aux_lemma =>
         go_upto_region 10 with (first | ((with_reducible refine gate_callee (f := 21) rfl ?_); refine goesL_ (some 76) rfl rfl Try.func21 (by kernel_rfl) rfl #[.agg #[.int .i64 (wrap64 (a2)), .int .i64 (wrap64 (a3)), .int .i64 (wrap64 (a4)), .int .i64 (wrap64 (a5)), .slice Ao18 t201.length co18, .slice Ao32 x205005_2.length co32]] rfl (by (try simp only [List.map_toArray, List.map_cons, List.map_nil]); first | done | rfl | (simp only [List.length_drop, List.length_take]; rfl)) ?_; (with_reducible refine (edit_Put.calls k2 (wrap64 (a2)) (wrap64 (a3)) (wrap64 (a4)) (wrap64 (a5)) _ _ t201 _ _ x205005_2 t209 _ ?side1 ?side2 ?side3 ?side4 A28.out).mono ?_); (case side1 => repeat (first | exact (Kd.R_reads' HO_205004.out).2.2 | (with_reducible refine Kd.C_alloc ?_ _) | (with_reducible refine Kd.C_drewN ?_ _) | (with_reducible refine Kd.C_drew ?_))); (case side2 => exact (Kd.R_reads' HO_205004.out).2.1); (case side3 => repeat (first | exact (Kd.R_reads' HO_205005.out).2.2 | (with_reducible refine Kd.C_alloc ?_ _) | (with_reducible refine Kd.C_drewN ?_ _) | (with_reducible refine Kd.C_drew ?_))); (case side4 => exact (Kd.R_reads' HO_205005.out).2.1); rintro e w33 ⟨v210, rfl, ho0, hb⟩; refine ⟨_, rfl, ?_⟩; have n0_ := Aside0.mk (Kd.R_below (by (with_reducible repeat (first | apply Kd.R_alloc | apply Kd.R_drewN | apply Kd.R_drew)); exact HO_205004.out) hb); have n1_ := Aside0.mk (Kd.R_below (by (with_reducible repeat (first | apply Kd.R_alloc | apply Kd.R_drewN | apply Kd.R_drew)); exact HO_205005.out) hb); have n2_ := Aside0.mk (Kd.R_lower ho0 (below_size (by repeat (first | (with_reducible first | exact HB.out | apply below_alloc | apply pw_below_drewN | apply below_drew1 | refine below_set ?_ GE204.out) | exact HB.out | exact Below.refl _ _)))); have n3_ := Aside0.mk (blk_below (g := gb204) (o := .cells #[.int .i64 (wrap64 (a2)), .int .i64 (wrap64 (a3)), .int .i64 (wrap64 (a4)), .int .i64 (wrap64 (a5)), .slice Ao18 t201.length co18, .slice Ao32 x205005_2.length co32] 25 (0, 0)) (by (with_reducible repeat (first | refine blk_drewN ?_ _ | refine blk_drew ?_ | refine blk_alloc ?_ _)); exact BK204.out) hb); have n4_ := Aside0.mk (below_step (by repeat (first | (with_reducible first | exact HB.out | apply below_alloc | apply pw_below_drewN | apply below_drew1 | refine below_set ?_ GE204.out) | exact HB.out | exact Below.refl _ _)) hb); clear HO_205004; clear HO_205005; clear BK204; clear HB; have HO_205004 := n0_; have HO_205005 := n1_; have HO211 := n2_; have BK204 := n3_; have HB := n4_; clear n0_ n1_ n2_ n3_ n4_; (try clear hb); (try clear hb2); (try clear hk); (try clear hi); (try clear ho0); obtain ⟨Ao34, co34, eo34⟩ := Kd.R_slice HO211.out; subst eo34) | ((with_reducible refine gate_callee (f := 17) rfl ?_); refine goesL_ (some 79) rfl rfl Try.func17 (by kernel_rfl) rfl #[.slice Ao34 t209.length co34] rfl (by (try simp only [List.map_toArray, List.map_cons, List.map_nil]); first | done | rfl | (simp only [List.length_drop, List.length_take]; rfl)) ?_; (with_reducible refine (edit_Get.calls k2 _ _ t209 t212 t213 t214 t215 t216 t219 t222 _ ?side1 ?side2 A29.out).mono ?_); (case side1 => repeat (first | exact (Kd.R_reads' HO211.out).2.2 | (with_reducible refine Kd.C_alloc ?_ _) | (with_reducible refine Kd.C_drewN ?_ _) | (with_reducible refine Kd.C_drew ?_))); (case side2 => exact (Kd.R_reads' HO211.out).2.1); rintro e w35 ⟨v217, v220, rfl, ho0, ho1, hb⟩; refine ⟨_, rfl, ?_⟩; have n0_ := Aside0.mk (Kd.R_elder' (by (with_reducible repeat (first | apply Kd.R_alloc | apply Kd.R_drewN | apply Kd.R_drew)); exact HO_205004.out) (Kd.R_base ho0) hb); have n1_ := Aside0.mk (Kd.R_elder' (by (with_reducible repeat (first | apply Kd.R_alloc | apply Kd.R_drewN | apply Kd.R_drew)); exact HO_205005.out) (Kd.R_base ho1) hb); have n2_ := Aside0.mk (Kd.R_below (by (with_reducible repeat (first | apply Kd.R_alloc | apply Kd.R_drewN | apply Kd.R_drew)); exact HO211.out) hb); have n3_ := Aside0.mk (Kd.R_lower (Kd.R_new' ho0 (Kd.R_lt (by (with_reducible repeat (first | apply Kd.R_alloc | apply Kd.R_drewN | apply Kd.R_drew)); exact HO_205004.out))) (below_size (by repeat (first | (with_reducible first | exact HB.out | apply below_alloc | apply pw_below_drewN | apply below_drew1 | refine below_set ?_ GE204.out) | exact HB.out | exact Below.refl _ _)))); have n4_ := Aside0.mk (Kd.R_lower (Kd.R_new' ho1 (Kd.R_lt (by (with_reducible repeat (first | apply Kd.R_alloc | apply Kd.R_drewN | apply Kd.R_drew)); exact HO_205005.out))) (below_size (by repeat (first | (with_reducible first | exact HB.out | apply below_alloc | apply pw_below_drewN | apply below_drew1 | refine below_set ?_ GE204.out) | exact HB.out | exact Below.refl _ _)))); have n5_ := Aside0.mk (blk_below (g := gb204) (o := .cells #[.int .i64 (wrap64 (a2)), .int .i64 (wrap64 (a3)), .int .i64 (wrap64 (a4)), .int .i64 (wrap64 (a5)), .slice Ao18 t201.length co18, .slice Ao32 x205005_2.length co32] 25 (0, 0)) (by (with_reducible repeat (first | refine blk_drewN ?_ _ | refine blk_drew ?_ | refine blk_alloc ?_ _)); exact BK204.out) hb); have n6_ := Aside0.mk (below_step (by repeat (first | (with_reducible first | exact HB.out | apply below_alloc | apply pw_below_drewN | apply below_drew1 | refine below_set ?_ GE204.out) | exact HB.out | exact Below.refl _ _)) hb); clear HO_205004; clear HO_205005; clear HO211; clear BK204; clear HB; have HO_205004 := n0_; have HO_205005 := n1_; have HO211 := n2_; have HO218 := n3_; have HO221 := n4_; have BK204 := n5_; have HB := n6_; clear n0_ n1_ n2_ n3_ n4_ n5_ n6_; (try clear hb); (try clear hb2); (try clear hk); (try clear hi); (try clear ho0); (try clear ho1)) | ((with_reducible refine gate_dst (N := 20) rfl ?_); (try (refine gate_guard (by rfl) ?_; dsimp only)); refine box_event ?hg (N := 20) ?hd (cs := #[.int .i64 0, .int .i64 0, .int .i64 0, .int .i64 0, .slice none 0 0, .slice none 0 0]) (t := 25) ?hr ?_; (case hd => rfl); (case hg => rfl); (case hr => first | (go_simp; done) | (go_simp; rfl)); intro gb223 hg w36 hbox hb; have n0_ := Aside0.mk (Kd.R_below (by (with_reducible repeat (first | apply Kd.R_alloc | apply Kd.R_drewN | apply Kd.R_drew)); exact HO_205004.out) hb); have n1_ := Aside0.mk (Kd.R_below (by (with_reducible repeat (first | apply Kd.R_alloc | apply Kd.R_drewN | apply Kd.R_drew)); exact HO_205005.out) hb); have n2_ := Aside0.mk (Kd.R_below (by (with_reducible repeat (first | apply Kd.R_alloc | apply Kd.R_drewN | apply Kd.R_drew)); exact HO211.out) hb); have n3_ := Aside0.mk (Kd.R_below (by (with_reducible repeat (first | apply Kd.R_alloc | apply Kd.R_drewN | apply Kd.R_drew)); exact HO218.out) hb); have n4_ := Aside0.mk (Kd.R_below (by (with_reducible repeat (first | apply Kd.R_alloc | apply Kd.R_drewN | apply Kd.R_drew)); exact HO221.out) hb); have n5_ := Aside0.mk (blk_below (g := gb204) (o := .cells #[.int .i64 (wrap64 (a2)), .int .i64 (wrap64 (a3)), .int .i64 (wrap64 (a4)), .int .i64 (wrap64 (a5)), .slice Ao18 t201.length co18, .slice Ao32 x205005_2.length co32] 25 (0, 0)) (by (with_reducible repeat (first | refine blk_drewN ?_ _ | refine blk_drew ?_ | refine blk_alloc ?_ _)); exact BK204.out) hb); have n6_ := Aside0.mk (below_step (by repeat (first | (with_reducible first | exact HB.out | apply below_alloc | apply pw_below_drewN | apply below_drew1 | refine below_set ?_ GE204.out) | exact HB.out | exact Below.refl _ _)) hb); have n7_ := Aside0.mk (hbox); have n8_ := Aside0.mk ((by rw [hg]; exact (below_size (by repeat (first | (with_reducible first | exact HB.out | apply below_alloc | apply pw_below_drewN | apply below_drew1 | refine below_set ?_ GE204.out) | exact HB.out | exact Below.refl _ _))) : w.heap.size ≤ gb223)); have n9_ := Aside0.mk ((by rw [hg]; exact (below_size (by repeat (first | (with_reducible first | exact HB.out | apply below_alloc | apply pw_below_drewN | apply below_drew1 | refine below_set ?_ GE204.out) | exact HB.out | exact Below.refl _ _))) : w.heap.size ≤ gb223)); have n10_ := Aside0.mk ((by rw [hg]; exact Nat.ne_of_lt (blk_lt (g := gb204) (o := .cells #[.int .i64 (wrap64 (a2)), .int .i64 (wrap64 (a3)), .int .i64 (wrap64 (a4)), .int .i64 (wrap64 (a5)), .slice Ao18 t201.length co18, .slice Ao32 x205005_2.length co32] 25 (0, 0)) (by (with_reducible repeat (first | refine blk_drewN ?_ _ | refine blk_drew ?_ | refine blk_alloc ?_ _)); exact BK204.out)) : gb204 ≠ gb223)); have n11_ := Aside0.mk ((by rw [hg]; exact Nat.ne_of_gt (blk_lt (g := gb204) (o := .cells #[.int .i64 (wrap64 (a2)), .int .i64 (wrap64 (a3)), .int .i64 (wrap64 (a4)), .int .i64 (wrap64 (a5)), .slice Ao18 t201.length co18, .slice Ao32 x205005_2.length co32] 25 (0, 0)) (by (with_reducible repeat (first | refine blk_drewN ?_ _ | refine blk_drew ?_ | refine blk_alloc ?_ _)); exact BK204.out)) : gb223 ≠ gb204)); clear HO_205004; clear HO_205005; clear HO211; clear HO218; clear HO221; clear BK204; clear HB; have HO_205004 := n0_; have HO_205005 := n1_; have HO211 := n2_; have HO218 := n3_; have HO221 := n4_; have BK204 := n5_; have HB := n6_; have BK223 := n7_; have GW223 := n8_; have GE223 := n9_; have NB204_223 := n10_; have NB223_204 := n11_; clear n0_ n1_ n2_ n3_ n4_ n5_ n6_ n7_ n8_ n9_ n10_ n11_; clear hb hbox hg; have hnb37 := NB223_204.out; have hnc37 := NB204_223.out; have hcz38_0 : w36.cell? ⟨gb223, 0, none⟩ = some (.int .i64 0) := (blk_cell BK223.out 0).trans rfl; have hcz38_1 : w36.cell? ⟨gb223, 1, none⟩ = some (.int .i64 0) := (blk_cell BK223.out 1).trans rfl; have hcz38_2 : w36.cell? ⟨gb223, 2, none⟩ = some (.int .i64 0) := (blk_cell BK223.out 2).trans rfl; have hcz38_3 : w36.cell? ⟨gb223, 3, none⟩ = some (.int .i64 0) := (blk_cell BK223.out 3).trans rfl; have hcz38_4 : w36.cell? ⟨gb223, 4, none⟩ = some (.slice none 0 0) := (blk_cell BK223.out 4).trans rfl; have hcz38_5 : w36.cell? ⟨gb223, 5, none⟩ = some (.slice none 0 0) := (blk_cell BK223.out 5).trans rfl; have hfz38_0 := blk_frozen BK223.out 0; have hfz38_1 := blk_frozen BK223.out 1; have hfz38_2 := blk_frozen BK223.out 2; have hfz38_3 := blk_frozen BK223.out 3; have hfz38_4 := blk_frozen BK223.out 4; have hfz38_5 := blk_frozen BK223.out 5; obtain ⟨Ao39, co39, eo39⟩ := Kd.R_slice HO218.out; subst eo39; obtain ⟨Ao40, co40, eo40⟩ := Kd.R_slice HO221.out; subst eo40))
         (try simp only [Act.put, List.setIfInBounds_toArray, List.set_cons_zero, List.set_cons_succ])
         have WB : Aside0 (((((((w36.setCell ⟨gb223, 0, none⟩ (.int .i64 t212)).setCell ⟨gb223, 1, none⟩ (.int .i64 t213)).setCell ⟨gb223, 2, none⟩ (.int .i64 t214)).setCell ⟨gb223, 3, none⟩ (.int .i64 t215)).setCell ⟨gb223, 4, none⟩ (.slice Ao39 t216.length co39)).setCell ⟨gb223, 5, none⟩ (.slice Ao40 t219.length co40)).heap[gb223]? = some (.cells #[.int .i64 t212, .int .i64 t213, .int .i64 t214, .int .i64 t215, .slice Ao39 t216.length co39, .slice Ao40 t219.length co40] 25 (0, 0))) := ⟨by refine blk_put (cs := #[.int .i64 t212, .int .i64 t213, .int .i64 t214, .int .i64 t215, .slice Ao39 t216.length co39, .slice none 0 0]) ?_ 5 _ rfl; refine blk_put (cs := #[.int .i64 t212, .int .i64 t213, .int .i64 t214, .int .i64 t215, .slice none 0 0, .slice none 0 0]) ?_ 4 _ rfl; refine blk_put (cs := #[.int .i64 t212, .int .i64 t213, .int .i64 t214, .int .i64 0, .slice none 0 0, .slice none 0 0]) ?_ 3 _ rfl; refine blk_put (cs := #[.int .i64 t212, .int .i64 t213, .int .i64 0, .int .i64 0, .slice none 0 0, .slice none 0 0]) ?_ 2 _ rfl; refine blk_put (cs := #[.int .i64 t212, .int .i64 0, .int .i64 0, .int .i64 0, .slice none 0 0, .slice none 0 0]) ?_ 1 _ rfl; refine blk_put (cs := #[.int .i64 0, .int .i64 0, .int .i64 0, .int .i64 0, .slice none 0 0, .slice none 0 0]) ?_ 0 _ rfl; exact BK223.out⟩
         have WB4 : Aside0 (((((((w36.setCell ⟨gb223, 0, none⟩ (.int .i64 t212)).setCell ⟨gb223, 1, none⟩ (.int .i64 t213)).setCell ⟨gb223, 2, none⟩ (.int .i64 t214)).setCell ⟨gb223, 3, none⟩ (.int .i64 t215)).setCell ⟨gb223, 4, none⟩ (.slice Ao39 t216.length co39)).setCell ⟨gb223, 5, none⟩ (.slice Ao40 t219.length co40)).heap[gb204]? = some (.cells #[(.int .i64 (wrap64 (a2))), (.int .i64 (wrap64 (a3))), (.int .i64 (wrap64 (a4))), (.int .i64 (wrap64 (a5))), .slice Ao18 t201.length co18, .slice Ao32 x205005_2.length co32] 25 (0, 0))) := ⟨by refine blk_far ?_ NB204_223.out _; refine blk_far ?_ NB204_223.out _; refine blk_far ?_ NB204_223.out _; refine blk_far ?_ NB204_223.out _; refine blk_far ?_ NB204_223.out _; refine blk_far ?_ NB204_223.out _; exact BK204.out⟩
         have X4 : Aside0 (Kd.R k31 31 ((((((w36.setCell ⟨gb223, 0, none⟩ (.int .i64 t212)).setCell ⟨gb223, 1, none⟩ (.int .i64 t213)).setCell ⟨gb223, 2, none⟩ (.int .i64 t214)).setCell ⟨gb223, 3, none⟩ (.int .i64 t215)).setCell ⟨gb223, 4, none⟩ (.slice Ao39 t216.length co39)).setCell ⟨gb223, 5, none⟩ (.slice Ao40 t219.length co40)) w.heap.size (fun k_ => True ∧ some k_ ≠ (.slice Ao39 t216.length co39 : Value).ownBlock) (.slice Ao18 t201.length co18) t201) := ⟨(Kd.R_mono (Kd.R_far (p := ⟨gb223, 5, none⟩) (Kd.R_far (p := ⟨gb223, 4, none⟩) (Kd.R_far (p := ⟨gb223, 3, none⟩) (Kd.R_far (p := ⟨gb223, 2, none⟩) (Kd.R_far (p := ⟨gb223, 1, none⟩) (Kd.R_far (p := ⟨gb223, 0, none⟩) (Kd.R_types HO_205004.out BK223.out (by decide)) (fun _ hk => hk.2) (.int .i64 t212)) (fun _ hk => hk.2) (.int .i64 t213)) (fun _ hk => hk.2) (.int .i64 t214)) (fun _ hk => hk.2) (.int .i64 t215)) (fun _ hk => hk.2) (.slice Ao39 t216.length co39)) (fun _ hk => hk.2) (.slice Ao40 t219.length co40)) (fun _ h_ => h_.1))⟩
         have X5 : Aside0 (Kd.R (Kd.int .i64) 3 ((((((w36.setCell ⟨gb223, 0, none⟩ (.int .i64 t212)).setCell ⟨gb223, 1, none⟩ (.int .i64 t213)).setCell ⟨gb223, 2, none⟩ (.int .i64 t214)).setCell ⟨gb223, 3, none⟩ (.int .i64 t215)).setCell ⟨gb223, 4, none⟩ (.slice Ao39 t216.length co39)).setCell ⟨gb223, 5, none⟩ (.slice Ao40 t219.length co40)) w.heap.size (fun k_ => True ∧ some k_ ≠ (.slice Ao40 t219.length co40 : Value).ownBlock) (.slice Ao32 x205005_2.length co32) x205005_2) := ⟨(Kd.R_mono (Kd.R_far (p := ⟨gb223, 5, none⟩) (Kd.R_far (p := ⟨gb223, 4, none⟩) (Kd.R_far (p := ⟨gb223, 3, none⟩) (Kd.R_far (p := ⟨gb223, 2, none⟩) (Kd.R_far (p := ⟨gb223, 1, none⟩) (Kd.R_far (p := ⟨gb223, 0, none⟩) (Kd.R_types HO_205005.out BK223.out (by decide)) (fun _ hk => hk.2) (.int .i64 t212)) (fun _ hk => hk.2) (.int .i64 t213)) (fun _ hk => hk.2) (.int .i64 t214)) (fun _ hk => hk.2) (.int .i64 t215)) (fun _ hk => hk.2) (.slice Ao39 t216.length co39)) (fun _ hk => hk.2) (.slice Ao40 t219.length co40)) (fun _ h_ => h_.1))⟩
         have X18 : Aside0 (Kd.R k31 31 ((((((w36.setCell ⟨gb223, 0, none⟩ (.int .i64 t212)).setCell ⟨gb223, 1, none⟩ (.int .i64 t213)).setCell ⟨gb223, 2, none⟩ (.int .i64 t214)).setCell ⟨gb223, 3, none⟩ (.int .i64 t215)).setCell ⟨gb223, 4, none⟩ (.slice Ao39 t216.length co39)).setCell ⟨gb223, 5, none⟩ (.slice Ao40 t219.length co40)) w.heap.size (fun k_ => True ∧ some k_ ≠ (.slice Ao18 t201.length co18 : Value).ownBlock) (.slice Ao39 t216.length co39) t216) := ⟨(Kd.R_mono (Kd.R_far (p := ⟨gb223, 5, none⟩) (Kd.R_far (p := ⟨gb223, 4, none⟩) (Kd.R_far (p := ⟨gb223, 3, none⟩) (Kd.R_far (p := ⟨gb223, 2, none⟩) (Kd.R_far (p := ⟨gb223, 1, none⟩) (Kd.R_far (p := ⟨gb223, 0, none⟩) (Kd.R_types HO218.out BK223.out (by decide)) (fun _ hk => hk.2) (.int .i64 t212)) (fun _ hk => hk.2) (.int .i64 t213)) (fun _ hk => hk.2) (.int .i64 t214)) (fun _ hk => hk.2) (.int .i64 t215)) (fun _ hk => hk.2) (.slice Ao39 t216.length co39)) (fun _ hk => hk.2) (.slice Ao40 t219.length co40)) (fun _ h_ => h_.1))⟩
         have X21 : Aside0 (Kd.R (Kd.int .i64) 3 ((((((w36.setCell ⟨gb223, 0, none⟩ (.int .i64 t212)).setCell ⟨gb223, 1, none⟩ (.int .i64 t213)).setCell ⟨gb223, 2, none⟩ (.int .i64 t214)).setCell ⟨gb223, 3, none⟩ (.int .i64 t215)).setCell ⟨gb223, 4, none⟩ (.slice Ao39 t216.length co39)).setCell ⟨gb223, 5, none⟩ (.slice Ao40 t219.length co40)) w.heap.size (fun k_ => True ∧ some k_ ≠ (.slice Ao32 x205005_2.length co32 : Value).ownBlock) (.slice Ao40 t219.length co40) t219) := ⟨(Kd.R_mono (Kd.R_far (p := ⟨gb223, 5, none⟩) (Kd.R_far (p := ⟨gb223, 4, none⟩) (Kd.R_far (p := ⟨gb223, 3, none⟩) (Kd.R_far (p := ⟨gb223, 2, none⟩) (Kd.R_far (p := ⟨gb223, 1, none⟩) (Kd.R_far (p := ⟨gb223, 0, none⟩) (Kd.R_types HO221.out BK223.out (by decide)) (fun _ hk => hk.2) (.int .i64 t212)) (fun _ hk => hk.2) (.int .i64 t213)) (fun _ hk => hk.2) (.int .i64 t214)) (fun _ hk => hk.2) (.int .i64 t215)) (fun _ hk => hk.2) (.slice Ao39 t216.length co39)) (fun _ hk => hk.2) (.slice Ao40 t219.length co40)) (fun _ h_ => h_.1))⟩
         have X11 : Aside0 (Kd.R (Kd.int .u8) 5 ((((((w36.setCell ⟨gb223, 0, none⟩ (.int .i64 t212)).setCell ⟨gb223, 1, none⟩ (.int .i64 t213)).setCell ⟨gb223, 2, none⟩ (.int .i64 t214)).setCell ⟨gb223, 3, none⟩ (.int .i64 t215)).setCell ⟨gb223, 4, none⟩ (.slice Ao39 t216.length co39)).setCell ⟨gb223, 5, none⟩ (.slice Ao40 t219.length co40)) w.heap.size (fun k_ => True) (.slice Ao34 t209.length co34) t209) := ⟨(Kd.R_mono (Kd.R_far (p := ⟨gb223, 5, none⟩) (Kd.R_far (p := ⟨gb223, 4, none⟩) (Kd.R_far (p := ⟨gb223, 3, none⟩) (Kd.R_far (p := ⟨gb223, 2, none⟩) (Kd.R_far (p := ⟨gb223, 1, none⟩) (Kd.R_far (p := ⟨gb223, 0, none⟩) (Kd.R_types HO211.out BK223.out (by decide)) (fun _ hk => hk.2) (.int .i64 t212)) (fun _ hk => hk.2) (.int .i64 t213)) (fun _ hk => hk.2) (.int .i64 t214)) (fun _ hk => hk.2) (.int .i64 t215)) (fun _ hk => hk.2) (.slice Ao39 t216.length co39)) (fun _ hk => hk.2) (.slice Ao40 t219.length co40)) (fun _ _ => trivial))⟩
         have XB : Aside0 (Below w.heap.size w ((((((w36.setCell ⟨gb223, 0, none⟩ (.int .i64 t212)).setCell ⟨gb223, 1, none⟩ (.int .i64 t213)).setCell ⟨gb223, 2, none⟩ (.int .i64 t214)).setCell ⟨gb223, 3, none⟩ (.int .i64 t215)).setCell ⟨gb223, 4, none⟩ (.slice Ao39 t216.length co39)).setCell ⟨gb223, 5, none⟩ (.slice Ao40 t219.length co40))) := ⟨(Below.setCell (Below.setCell (Below.setCell (Below.setCell (Below.setCell (Below.setCell HB.out GW223.out _) GW223.out _) GW223.out _) GW223.out _) GW223.out _) GW223.out _)⟩
         clear HO_205004 HO_205005 HO218 HO221 HO211 BK204 BK223 HB hcz38_0 hcz38_1 hcz38_2 hcz38_3 hcz38_4 hcz38_5 hfz38_0 hfz38_1 hfz38_2 hfz38_3 hfz38_4 hfz38_5 hcz31_0 hcz31_1 hcz31_2 hcz31_3 hcz31_4 hcz31_5 hfz31_0 hfz31_1 hfz31_2 hfz31_3 hfz31_4 hfz31_5
         generalize ((((((w36.setCell ⟨gb223, 0, none⟩ (.int .i64 t212)).setCell ⟨gb223, 1, none⟩ (.int .i64 t213)).setCell ⟨gb223, 2, none⟩ (.int .i64 t214)).setCell ⟨gb223, 3, none⟩ (.int .i64 t215)).setCell ⟨gb223, 4, none⟩ (.slice Ao39 t216.length co39)).setCell ⟨gb223, 5, none⟩ (.slice Ao40 t219.length co40)) = wstored at WB WB4 X4 X5 X18 X21 X11 XB ⊢
         have HO_205004 := X4
         have HO_205005 := X5
         have HO218 := X18
         have HO221 := X21
         have HO211 := X11
         have HB := XB
         have BK223 := WB
         have BK204 := WB4
         clear X4 X5 X18 X21 X11 XB WB WB4
         go_cut [94] (fun v94 wc => ∃ (kq : Nat) (x94_29 : Bool), v94 = .bool x94_29 ∧ Aside0 (iceboxlaw17_EditBack.j2 kq l6 l7 t209 x94_29 = some r) ∧ Aside0 (kq ≤ k2) ∧ Aside0 (Kd.R (Kd.int .u8) 5 wc w.heap.size (fun _ => True) (.slice Ao34 t209.length co34) t209) ∧ Aside0 (Below w.heap.size w wc))
         case first =>
          have H := HC30.out
          clear HC30
          by_cases c41 : t222 = true
          ·
           subst c41
           have H1 : ((iceboxref17_SameEdit.f k2 t212 t213 t214 t215 t216 t219 (wrap64 (a2)) (wrap64 (a3)) (wrap64 (a4)) (wrap64 (a5)) t201 x205005_2).bind fun t224 => (if t224 = true then (iceboxlaw17_EditBack.j2 k2 l6 l7 t209 ((t209.length : Int) == 0)) else (iceboxlaw17_EditBack.j2 k2 l6 l7 t209 true))) = some r := by rw [if_pos rfl] at H; exact H
           clear H
           have H := H1
           clear H1
           replace H := Option.bind_eq_some_iff.mp H
           obtain ⟨t224, A420, H⟩ := H
           replace H : (if t224 = true then (iceboxlaw17_EditBack.j2 k2 l6 l7 t209 ((t209.length : Int) == 0)) else (iceboxlaw17_EditBack.j2 k2 l6 l7 t209 true)) = some r := H
           have A42 := Aside0.mk A420
           clear A420
           by_cases c43 : t224 = true
           ·
            subst c43
            have H1 : (iceboxlaw17_EditBack.j2 k2 l6 l7 t209 ((t209.length : Int) == 0)) = some r := by rw [if_pos rfl] at H; exact H
            clear H
            have H := H1
            clear H1
            have H' := Aside0.mk H
            clear H
            have hnb44 := NB223_204.out
            have hnc44 := NB204_223.out
            have hcz45_0 : wstored.cell? ⟨gb223, 0, none⟩ = some (.int .i64 t212) := (blk_cell BK223.out 0).trans rfl
            have hcz45_1 : wstored.cell? ⟨gb223, 1, none⟩ = some (.int .i64 t213) := (blk_cell BK223.out 1).trans rfl
            have hcz45_2 : wstored.cell? ⟨gb223, 2, none⟩ = some (.int .i64 t214) := (blk_cell BK223.out 2).trans rfl
            have hcz45_3 : wstored.cell? ⟨gb223, 3, none⟩ = some (.int .i64 t215) := (blk_cell BK223.out 3).trans rfl
            have hcz45_4 : wstored.cell? ⟨gb223, 4, none⟩ = some (.slice Ao39 t216.length co39) := (blk_cell BK223.out 4).trans rfl
            have hcz45_5 : wstored.cell? ⟨gb223, 5, none⟩ = some (.slice Ao40 t219.length co40) := (blk_cell BK223.out 5).trans rfl
            have hfz45_0 := blk_frozen BK223.out 0
            have hfz45_1 := blk_frozen BK223.out 1
            have hfz45_2 := blk_frozen BK223.out 2
            have hfz45_3 := blk_frozen BK223.out 3
            have hfz45_4 := blk_frozen BK223.out 4
            have hfz45_5 := blk_frozen BK223.out 5
            have hcz46_0 : wstored.cell? ⟨gb204, 0, none⟩ = some ((.int .i64 (wrap64 (a2)))) := (blk_cell BK204.out 0).trans rfl
            have hcz46_1 : wstored.cell? ⟨gb204, 1, none⟩ = some ((.int .i64 (wrap64 (a3)))) := (blk_cell BK204.out 1).trans rfl
            have hcz46_2 : wstored.cell? ⟨gb204, 2, none⟩ = some ((.int .i64 (wrap64 (a4)))) := (blk_cell BK204.out 2).trans rfl
            have hcz46_3 : wstored.cell? ⟨gb204, 3, none⟩ = some ((.int .i64 (wrap64 (a5)))) := (blk_cell BK204.out 3).trans rfl
            have hcz46_4 : wstored.cell? ⟨gb204, 4, none⟩ = some (.slice Ao18 t201.length co18) := (blk_cell BK204.out 4).trans rfl
            have hcz46_5 : wstored.cell? ⟨gb204, 5, none⟩ = some (.slice Ao32 x205005_2.length co32) := (blk_cell BK204.out 5).trans rfl
            have hfz46_0 := blk_frozen BK204.out 0
            have hfz46_1 := blk_frozen BK204.out 1
            have hfz46_2 := blk_frozen BK204.out 2
            have hfz46_3 := blk_frozen BK204.out 3
            have hfz46_4 := blk_frozen BK204.out 4
            have hfz46_5 := blk_frozen BK204.out 5
            as_aux_lemma =>
             go_wp2_with (first | (go_at_call 23; (with_reducible refine (iceboxref17_SameEdit.calls k2 t212 t213 t214 t215 _ _ t216 _ _ t219 (wrap64 (a2)) (wrap64 (a3)) (wrap64 (a4)) (wrap64 (a5)) _ _ t201 _ _ x205005_2 true _ ?side1 ?side2 ?side3 ?side4 ?side5 ?side6 ?side7 ?side8 A42.out).mono ?_); (case side1 => exact (Kd.R_reads' HO218.out).2.2); (case side2 => exact (Kd.R_reads' HO218.out).2.1); (case side3 => exact (Kd.R_reads' HO221.out).2.2); (case side4 => exact (Kd.R_reads' HO221.out).2.1); (case side5 => exact (Kd.R_reads' HO_205004.out).2.2); (case side6 => exact (Kd.R_reads' HO_205004.out).2.1); (case side7 => exact (Kd.R_reads' HO_205005.out).2.2); (case side8 => exact (Kd.R_reads' HO_205005.out).2.1); rintro e w47 ⟨rfl, hb⟩; have n0_ := Aside0.mk (Kd.R_below HO211.out hb); have n7_ := Aside0.mk (below_step HB.out hb); clear HO_205004 HO_205005 HO218 HO221 BK204 BK223 HO211 HB; have HO211 := n0_; have HB := n7_; clear n0_ n7_ hb))
             go_meet
             case rel => exact ⟨_, (((t209.length : Int) == 0)), (by first | rfl | (simp; done) | (simp [*]; done)), H', ⟨by have := HJ8.out; have := HK2.out; first | omega | exact Nat.le_refl _⟩, ⟨by (with_reducible repeat (first | apply Kd.R_alloc | apply Kd.R_drewN | apply Kd.R_drew)); exact HO211.out⟩, ⟨by repeat (first | (with_reducible first | exact HB.out | apply below_alloc | apply pw_below_drewN | apply below_drew1 | refine below_set ?_ GE204.out | refine below_set ?_ GE223.out) | exact HB.out | exact Below.refl _ _)⟩⟩
           ·
            replace c43 := Bool.eq_false_iff.mpr c43
            subst c43
            have H1 : (iceboxlaw17_EditBack.j2 k2 l6 l7 t209 true) = some r := by rw [if_neg (show ¬ (false = true) by decide)] at H; exact H
            clear H
            have H := H1
            clear H1
            have H' := Aside0.mk H
            clear H
            have hnb48 := NB223_204.out
            have hnc48 := NB204_223.out
            have hcz49_0 : wstored.cell? ⟨gb223, 0, none⟩ = some (.int .i64 t212) := (blk_cell BK223.out 0).trans rfl
            have hcz49_1 : wstored.cell? ⟨gb223, 1, none⟩ = some (.int .i64 t213) := (blk_cell BK223.out 1).trans rfl
            have hcz49_2 : wstored.cell? ⟨gb223, 2, none⟩ = some (.int .i64 t214) := (blk_cell BK223.out 2).trans rfl
            have hcz49_3 : wstored.cell? ⟨gb223, 3, none⟩ = some (.int .i64 t215) := (blk_cell BK223.out 3).trans rfl
            have hcz49_4 : wstored.cell? ⟨gb223, 4, none⟩ = some (.slice Ao39 t216.length co39) := (blk_cell BK223.out 4).trans rfl
            have hcz49_5 : wstored.cell? ⟨gb223, 5, none⟩ = some (.slice Ao40 t219.length co40) := (blk_cell BK223.out 5).trans rfl
            have hfz49_0 := blk_frozen BK223.out 0
            have hfz49_1 := blk_frozen BK223.out 1
            have hfz49_2 := blk_frozen BK223.out 2
            have hfz49_3 := blk_frozen BK223.out 3
            have hfz49_4 := blk_frozen BK223.out 4
            have hfz49_5 := blk_frozen BK223.out 5
            have hcz50_0 : wstored.cell? ⟨gb204, 0, none⟩ = some ((.int .i64 (wrap64 (a2)))) := (blk_cell BK204.out 0).trans rfl
            have hcz50_1 : wstored.cell? ⟨gb204, 1, none⟩ = some ((.int .i64 (wrap64 (a3)))) := (blk_cell BK204.out 1).trans rfl
            have hcz50_2 : wstored.cell? ⟨gb204, 2, none⟩ = some ((.int .i64 (wrap64 (a4)))) := (blk_cell BK204.out 2).trans rfl
            have hcz50_3 : wstored.cell? ⟨gb204, 3, none⟩ = some ((.int .i64 (wrap64 (a5)))) := (blk_cell BK204.out 3).trans rfl
            have hcz50_4 : wstored.cell? ⟨gb204, 4, none⟩ = some (.slice Ao18 t201.length co18) := (blk_cell BK204.out 4).trans rfl
            have hcz50_5 : wstored.cell? ⟨gb204, 5, none⟩ = some (.slice Ao32 x205005_2.length co32) := (blk_cell BK204.out 5).trans rfl
            have hfz50_0 := blk_frozen BK204.out 0
            have hfz50_1 := blk_frozen BK204.out 1
            have hfz50_2 := blk_frozen BK204.out 2
            have hfz50_3 := blk_frozen BK204.out 3
            have hfz50_4 := blk_frozen BK204.out 4
            have hfz50_5 := blk_frozen BK204.out 5
            as_aux_lemma =>
             go_wp2_with (first | (go_at_call 23; (with_reducible refine (iceboxref17_SameEdit.calls k2 t212 t213 t214 t215 _ _ t216 _ _ t219 (wrap64 (a2)) (wrap64 (a3)) (wrap64 (a4)) (wrap64 (a5)) _ _ t201 _ _ x205005_2 false _ ?side1 ?side2 ?side3 ?side4 ?side5 ?side6 ?side7 ?side8 A42.out).mono ?_); (case side1 => exact (Kd.R_reads' HO218.out).2.2); (case side2 => exact (Kd.R_reads' HO218.out).2.1); (case side3 => exact (Kd.R_reads' HO221.out).2.2); (case side4 => exact (Kd.R_reads' HO221.out).2.1); (case side5 => exact (Kd.R_reads' HO_205004.out).2.2); (case side6 => exact (Kd.R_reads' HO_205004.out).2.1); (case side7 => exact (Kd.R_reads' HO_205005.out).2.2); (case side8 => exact (Kd.R_reads' HO_205005.out).2.1); rintro e w51 ⟨rfl, hb⟩; have n0_ := Aside0.mk (Kd.R_below HO211.out hb); have n7_ := Aside0.mk (below_step HB.out hb); clear HO_205004 HO_205005 HO218 HO221 BK204 BK223 HO211 HB; have HO211 := n0_; have HB := n7_; clear n0_ n7_ hb))
             go_meet
             case rel => exact ⟨_, (true), (by first | rfl | (simp; done) | (simp [*]; done)), H', ⟨by have := HJ8.out; have := HK2.out; first | omega | exact Nat.le_refl _⟩, ⟨by (with_reducible repeat (first | apply Kd.R_alloc | apply Kd.R_drewN | apply Kd.R_drew)); exact HO211.out⟩, ⟨by repeat (first | (with_reducible first | exact HB.out | apply below_alloc | apply pw_below_drewN | apply below_drew1 | refine below_set ?_ GE204.out | refine below_set ?_ GE223.out) | exact HB.out | exact Below.refl _ _)⟩⟩
          ·
           replace c41 := Bool.eq_false_iff.mpr c41
           subst c41
           have H1 : (iceboxlaw17_EditBack.j2 k2 l6 l7 t209 true) = some r := by rw [if_neg (show ¬ (false = true) by decide)] at H; exact H
           clear H
           have H := H1
           clear H1
           have H' := Aside0.mk H
           clear H
           go_wp2
           go_meet
           case rel => exact ⟨_, (true), (by first | rfl | (simp; done) | (simp [*]; done)), H', ⟨by have := HJ8.out; have := HK2.out; first | omega | exact Nat.le_refl _⟩, ⟨HO211.out⟩, ⟨HB.out⟩⟩
         case rest =>
          as_aux_lemma =>
           clear HC30
           try clear c1
           try clear c6
           try clear c7
           obtain ⟨kq, x94_29, rfl, HA, HJ29, HO_19, HB⟩ := hcut
           cases kq with
           | zero => exact absurd HA.out (by simp [iceboxlaw17_EditBack.j2])
           | succ kj29 =>
            have H := HA.out
            clear HA
            simp only [iceboxlaw17_EditBack.j2] at H
            by_cases c52 : x94_29 = true
            ·
             subst c52
             have H1 : (none) = some r := by rw [if_pos rfl] at H; exact H
             clear H
             have H := H1
             clear H1
             exact absurd H (by simp)
            ·
             replace c52 := Bool.eq_false_iff.mpr c52
             subst c52
             have H1 : ((some (([] : List Int) : List Int)).bind fun y225 => (if y225.length + t209.length < 140737488355328 then ((some (y225 ++ t209 : List Int)).bind fun y228 => (if y228.length + l6.length < 140737488355328 then ((edit_Get.f kj29 (y228 ++ l6)).bind fun bt234 => (if 0 ≤ (wrap64 ((t209.length : Int) - 1)) then (if (wrap64 ((t209.length : Int) - 1)) ≤ (t209.length : Int) then ((edit_Get.f kj29 (t209.take ((wrap64 ((t209.length : Int) - 1)) : Int).toNat)).bind fun bt250 => ((edit_Get.f kj29 l7).bind fun bt262 => (if bt234.2.2.2.2.2.2 = true then (none) else (if bt250.2.2.2.2.2.2 = true then (none) else (if bt262.2.2.2.2.2.2 = true then ((edit_Put.f kj29 bt262.1 bt262.2.1 bt262.2.2.1 bt262.2.2.2.1 bt262.2.2.2.2.1 bt262.2.2.2.2.2.1).bind fun t274 => (if (strOfNums t274).toList = (strOfNums l7).toList then ((iceboxlaw17_awake.f kj29).bind fun t277 => (some t277)) else (none))) else ((iceboxlaw17_awake.f kj29).bind fun t278 => (some t278))))))) else (none)) else (none))) else (none))) else (none))) = some r := by rw [if_neg (show ¬ (false = true) by decide)] at H; exact H
             clear H
             have H := H1
             clear H1
             obtain ⟨y225, hy225⟩ : ∃ y_ : List Int, y_ = (([] : List Int)) := ⟨_, rfl⟩
             replace H : (if y225.length + t209.length < 140737488355328 then ((some (y225 ++ t209 : List Int)).bind fun y228 => (if y228.length + l6.length < 140737488355328 then ((edit_Get.f kj29 (y228 ++ l6)).bind fun bt234 => (if 0 ≤ (wrap64 ((t209.length : Int) - 1)) then (if (wrap64 ((t209.length : Int) - 1)) ≤ (t209.length : Int) then ((edit_Get.f kj29 (t209.take ((wrap64 ((t209.length : Int) - 1)) : Int).toNat)).bind fun bt250 => ((edit_Get.f kj29 l7).bind fun bt262 => (if bt234.2.2.2.2.2.2 = true then (none) else (if bt250.2.2.2.2.2.2 = true then (none) else (if bt262.2.2.2.2.2.2 = true then ((edit_Put.f kj29 bt262.1 bt262.2.1 bt262.2.2.1 bt262.2.2.2.1 bt262.2.2.2.2.1 bt262.2.2.2.2.2.1).bind fun t274 => (if (strOfNums t274).toList = (strOfNums l7).toList then ((iceboxlaw17_awake.f kj29).bind fun t277 => (some t277)) else (none))) else ((iceboxlaw17_awake.f kj29).bind fun t278 => (some t278))))))) else (none)) else (none))) else (none))) else (none)) = some r := by first | (rw [hy225]; with_reducible exact H) | (have H2_ := (Option.bind_some _ _).symm.trans H; rw [hy225]; with_reducible exact H2_) | (have H2_ := (Option.bind_some _ _).symm.trans H; with_reducible exact H2_) | with_reducible exact H | (rw [hy225]; exact H) | exact H
             have Ny225 := Aside0.mk hy225
             clear hy225
             by_cases c53 : y225.length + t209.length < 140737488355328
             ·
              rw [if_pos c53] at H
              have LMc53 := Aside0.mk c53
              clear c53
              obtain ⟨y228, hy228⟩ : ∃ y_ : List Int, y_ = (y225 ++ t209) := ⟨_, rfl⟩
              replace H : (if y228.length + l6.length < 140737488355328 then ((edit_Get.f kj29 (y228 ++ l6)).bind fun bt234 => (if 0 ≤ (wrap64 ((t209.length : Int) - 1)) then (if (wrap64 ((t209.length : Int) - 1)) ≤ (t209.length : Int) then ((edit_Get.f kj29 (t209.take ((wrap64 ((t209.length : Int) - 1)) : Int).toNat)).bind fun bt250 => ((edit_Get.f kj29 l7).bind fun bt262 => (if bt234.2.2.2.2.2.2 = true then (none) else (if bt250.2.2.2.2.2.2 = true then (none) else (if bt262.2.2.2.2.2.2 = true then ((edit_Put.f kj29 bt262.1 bt262.2.1 bt262.2.2.1 bt262.2.2.2.1 bt262.2.2.2.2.1 bt262.2.2.2.2.2.1).bind fun t274 => (if (strOfNums t274).toList = (strOfNums l7).toList then ((iceboxlaw17_awake.f kj29).bind fun t277 => (some t277)) else (none))) else ((iceboxlaw17_awake.f kj29).bind fun t278 => (some t278))))))) else (none)) else (none))) else (none)) = some r := by first | (rw [hy228]; with_reducible exact H) | (have H2_ := (Option.bind_some _ _).symm.trans H; rw [hy228]; with_reducible exact H2_) | (have H2_ := (Option.bind_some _ _).symm.trans H; with_reducible exact H2_) | with_reducible exact H | (rw [hy228]; exact H) | exact H
              have Ny228 := Aside0.mk hy228
              clear hy228
              by_cases c54 : y228.length + l6.length < 140737488355328
              ·
               rw [if_pos c54] at H
               have LMc54 := Aside0.mk c54
               clear c54
               obtain ⟨y231, hy231⟩ : ∃ y_ : List Int, y_ = (y228 ++ l6) := ⟨_, rfl⟩
               replace H : ((edit_Get.f kj29 y231).bind fun bt234 => (if 0 ≤ (wrap64 ((t209.length : Int) - 1)) then (if (wrap64 ((t209.length : Int) - 1)) ≤ (t209.length : Int) then ((edit_Get.f kj29 (t209.take ((wrap64 ((t209.length : Int) - 1)) : Int).toNat)).bind fun bt250 => ((edit_Get.f kj29 l7).bind fun bt262 => (if bt234.2.2.2.2.2.2 = true then (none) else (if bt250.2.2.2.2.2.2 = true then (none) else (if bt262.2.2.2.2.2.2 = true then ((edit_Put.f kj29 bt262.1 bt262.2.1 bt262.2.2.1 bt262.2.2.2.1 bt262.2.2.2.2.1 bt262.2.2.2.2.2.1).bind fun t274 => (if (strOfNums t274).toList = (strOfNums l7).toList then ((iceboxlaw17_awake.f kj29).bind fun t277 => (some t277)) else (none))) else ((iceboxlaw17_awake.f kj29).bind fun t278 => (some t278))))))) else (none)) else (none))) = some r := by first | (rw [hy231]; with_reducible exact H) | (have H2_ := (Option.bind_some _ _).symm.trans H; rw [hy231]; with_reducible exact H2_) | (have H2_ := (Option.bind_some _ _).symm.trans H; with_reducible exact H2_) | with_reducible exact H | (rw [hy231]; exact H) | exact H
               have Ny231 := Aside0.mk hy231
               clear hy231
               replace H := Option.bind_eq_some_iff.mp H
               obtain ⟨⟨t234, t235, t236, t237, t238, t241, t244⟩, A550, H⟩ := H
               replace H : (if 0 ≤ (wrap64 ((t209.length : Int) - 1)) then (if (wrap64 ((t209.length : Int) - 1)) ≤ (t209.length : Int) then ((edit_Get.f kj29 (t209.take ((wrap64 ((t209.length : Int) - 1)) : Int).toNat)).bind fun bt250 => ((edit_Get.f kj29 l7).bind fun bt262 => (if t244 = true then (none) else (if bt250.2.2.2.2.2.2 = true then (none) else (if bt262.2.2.2.2.2.2 = true then ((edit_Put.f kj29 bt262.1 bt262.2.1 bt262.2.2.1 bt262.2.2.2.1 bt262.2.2.2.2.1 bt262.2.2.2.2.2.1).bind fun t274 => (if (strOfNums t274).toList = (strOfNums l7).toList then ((iceboxlaw17_awake.f kj29).bind fun t277 => (some t277)) else (none))) else ((iceboxlaw17_awake.f kj29).bind fun t278 => (some t278))))))) else (none)) else (none)) = some r := H
               have A55 := Aside0.mk A550
               clear A550
               obtain ⟨ji56, hji56⟩ : ∃ j_ : Int, (wrap64 ((t209.length : Int) - 1)) = j_ := ⟨_, rfl⟩
               replace H : (if 0 ≤ (ji56) then (if (ji56) ≤ (t209.length : Int) then ((edit_Get.f kj29 (t209.take ((ji56) : Int).toNat)).bind fun bt250 => ((edit_Get.f kj29 l7).bind fun bt262 => (if t244 = true then (none) else (if bt250.2.2.2.2.2.2 = true then (none) else (if bt262.2.2.2.2.2.2 = true then ((edit_Put.f kj29 bt262.1 bt262.2.1 bt262.2.2.1 bt262.2.2.2.1 bt262.2.2.2.2.1 bt262.2.2.2.2.2.1).bind fun t274 => (if (strOfNums t274).toList = (strOfNums l7).toList then ((iceboxlaw17_awake.f kj29).bind fun t277 => (some t277)) else (none))) else ((iceboxlaw17_awake.f kj29).bind fun t278 => (some t278))))))) else (none)) else (none)) = some r := by first | (rw [hji56] at H; exact H) | (simp only [hji56] at H ⊢; exact H)
               (try rw [hji56] at A55)
               have hji56w : (IntKind.i64.wrap ((t209.length : Int) - 1)) = ji56 := (i64_w _).trans hji56
               by_cases c57 : 0 ≤ (ji56)
               ·
                rw [if_pos c57] at H
                have c57b0 := eq_true c57
                have c57b1 : decide (0 ≤ (ji56)) = true := decide_eq_true c57
                clear c57
                by_cases c58 : (ji56) ≤ (t209.length : Int)
                ·
                 rw [if_pos c58] at H
                 have c58b0 := eq_true c58
                 have c58b1 : decide ((ji56) ≤ (t209.length : Int)) = true := decide_eq_true c58
                 clear c58
                 obtain ⟨y246, hy246⟩ : ∃ y_ : List Int, y_ = (t209.take ((ji56) : Int).toNat) := ⟨_, rfl⟩
                 replace H : ((edit_Get.f kj29 y246).bind fun bt250 => ((edit_Get.f kj29 l7).bind fun bt262 => (if t244 = true then (none) else (if bt250.2.2.2.2.2.2 = true then (none) else (if bt262.2.2.2.2.2.2 = true then ((edit_Put.f kj29 bt262.1 bt262.2.1 bt262.2.2.1 bt262.2.2.2.1 bt262.2.2.2.2.1 bt262.2.2.2.2.2.1).bind fun t274 => (if (strOfNums t274).toList = (strOfNums l7).toList then ((iceboxlaw17_awake.f kj29).bind fun t277 => (some t277)) else (none))) else ((iceboxlaw17_awake.f kj29).bind fun t278 => (some t278))))))) = some r := by first | (rw [hy246]; with_reducible exact H) | (have H2_ := (Option.bind_some _ _).symm.trans H; rw [hy246]; with_reducible exact H2_) | (have H2_ := (Option.bind_some _ _).symm.trans H; with_reducible exact H2_) | with_reducible exact H | (rw [hy246]; exact H) | exact H
                 have Ny246 := Aside0.mk hy246
                 clear hy246
                 replace H := Option.bind_eq_some_iff.mp H
                 obtain ⟨⟨t250, t251, t252, t253, t254, t257, t260⟩, A590, H⟩ := H
                 replace H : ((edit_Get.f kj29 l7).bind fun bt262 => (if t244 = true then (none) else (if t260 = true then (none) else (if bt262.2.2.2.2.2.2 = true then ((edit_Put.f kj29 bt262.1 bt262.2.1 bt262.2.2.1 bt262.2.2.2.1 bt262.2.2.2.2.1 bt262.2.2.2.2.2.1).bind fun t274 => (if (strOfNums t274).toList = (strOfNums l7).toList then ((iceboxlaw17_awake.f kj29).bind fun t277 => (some t277)) else (none))) else ((iceboxlaw17_awake.f kj29).bind fun t278 => (some t278)))))) = some r := H
                 have A59 := Aside0.mk A590
                 clear A590
                 replace H := Option.bind_eq_some_iff.mp H
                 obtain ⟨⟨t262, t263, t264, t265, t266, t269, t272⟩, A600, H⟩ := H
                 replace H : (if t244 = true then (none) else (if t260 = true then (none) else (if t272 = true then ((edit_Put.f kj29 t262 t263 t264 t265 t266 t269).bind fun t274 => (if (strOfNums t274).toList = (strOfNums l7).toList then ((iceboxlaw17_awake.f kj29).bind fun t277 => (some t277)) else (none))) else ((iceboxlaw17_awake.f kj29).bind fun t278 => (some t278))))) = some r := H
                 have A60 := Aside0.mk A600
                 clear A600
                 by_cases c61 : t244 = true
                 ·
                  subst c61
                  have H1 : (none) = some r := by rw [if_pos rfl] at H; exact H
                  clear H
                  have H := H1
                  clear H1
                  exact absurd H (by simp)
                 ·
                  replace c61 := Bool.eq_false_iff.mpr c61
                  subst c61
                  have H1 : (if t260 = true then (none) else (if t272 = true then ((edit_Put.f kj29 t262 t263 t264 t265 t266 t269).bind fun t274 => (if (strOfNums t274).toList = (strOfNums l7).toList then ((iceboxlaw17_awake.f kj29).bind fun t277 => (some t277)) else (none))) else ((iceboxlaw17_awake.f kj29).bind fun t278 => (some t278)))) = some r := by rw [if_neg (show ¬ (false = true) by decide)] at H; exact H
                  clear H
                  have H := H1
                  clear H1
                  by_cases c62 : t260 = true
                  ·
                   subst c62
                   have H1 : (none) = some r := by rw [if_pos rfl] at H; exact H
                   clear H
                   have H := H1
                   clear H1
                   exact absurd H (by simp)
                  ·
                   replace c62 := Bool.eq_false_iff.mpr c62
                   subst c62
                   have H1 : (if t272 = true then ((edit_Put.f kj29 t262 t263 t264 t265 t266 t269).bind fun t274 => (if (strOfNums t274).toList = (strOfNums l7).toList then ((iceboxlaw17_awake.f kj29).bind fun t277 => (some t277)) else (none))) else ((iceboxlaw17_awake.f kj29).bind fun t278 => (some t278))) = some r := by rw [if_neg (show ¬ (false = true) by decide)] at H; exact H
                   clear H
                   have H := H1
                   clear H1
                   by_cases c63 : t272 = true
                   ·
                    subst c63
                    have H1 : ((edit_Put.f kj29 t262 t263 t264 t265 t266 t269).bind fun t274 => (if (strOfNums t274).toList = (strOfNums l7).toList then ((iceboxlaw17_awake.f kj29).bind fun t277 => (some t277)) else (none))) = some r := by rw [if_pos rfl] at H; exact H
                    clear H
                    have H := H1
                    clear H1
                    replace H := Option.bind_eq_some_iff.mp H
                    obtain ⟨t274, A640, H⟩ := H
                    replace H : (if (strOfNums t274).toList = (strOfNums l7).toList then ((iceboxlaw17_awake.f kj29).bind fun t277 => (some t277)) else (none)) = some r := H
                    have A64 := Aside0.mk A640
                    clear A640
                    by_cases c65 : (strOfNums t274).toList = (strOfNums l7).toList
                    ·
                     rw [if_pos c65] at H
                     have c65b0 : ((strOfNums t274).toList == (strOfNums l7).toList) = true := beq_iff_eq.mpr c65
                     have c65b1 : ((strOfNums t274).toList != (strOfNums l7).toList) = false := bne_eq_false_iff_eq.mpr c65
                     clear c65
                     replace H := Option.bind_eq_some_iff.mp H
                     obtain ⟨t277, A660, H⟩ := H
                     replace H : (some t277) = some r := H
                     have A66 := Aside0.mk A660
                     clear A660
                     obtain rfl := Option.some.inj H
                     as_aux_lemma =>
                      go_upto_region 13 with (first | ((with_reducible refine gate_dst (N := 96) rfl ?_); (try (refine gate_guard (by rfl) ?_; dsimp only)); refine Kd.R_lit (Kd.int .u8) _ 5 ?hg (N := 96) ?hd (xs := ([] : List Int)) (inner := []) (ok := fun _ => True) (okp := fun _ => True) ?hr ?hp (fun _ hk => hk) trivial (Below.refl _ _) (Nat.le_refl _) (by simp) ?_; (case hd => rfl); (case hg => rfl); (case hr => first | (go_simp; done) | (go_simp; rfl)); (case hp => exact (Reps.none _ _)); intro v226 w67 ho68 hb hg_ hnew_; clear hg_ hnew_; (first | rw [← Ny225.out] at ho68 | (simp only [Int.reduceToNat] at ho68; rw [← Ny225.out] at ho68)); have n0_ := Aside0.mk (Kd.R_elder' (by (with_reducible repeat (first | apply Kd.R_alloc | apply Kd.R_drewN | apply Kd.R_drew)); exact HO_19.out) (Kd.R_base ho68) hb); have n1_ := Aside0.mk (Kd.R_lower (Kd.R_new' ho68 (Kd.R_lt (by (with_reducible repeat (first | apply Kd.R_alloc | apply Kd.R_drewN | apply Kd.R_drew)); exact HO_19.out))) (below_size (by repeat (first | (with_reducible first | exact HB.out | apply below_alloc | apply pw_below_drewN | apply below_drew1) | exact HB.out | exact Below.refl _ _)))); have n2_ := Aside0.mk (below_step (by repeat (first | (with_reducible first | exact HB.out | apply below_alloc | apply pw_below_drewN | apply below_drew1) | exact HB.out | exact Below.refl _ _)) hb); clear HO_19; clear HB; have HO_19 := n0_; have HO227 := n1_; have HB := n2_; clear n0_ n1_ n2_; clear hb ho68) | ((with_reducible refine gate_builtin (b := .append) (xs := #[.tmp 96, .tmp 97]) rfl ?_); (try (refine gate_guard (by rfl) ?_; dsimp only)); at_builtin; refine Kd.R_append_rows (Kd.int .u8) (w0 := w) w.heap.size rfl (.tmp 96) (.tmp 97) 26 5 (.int .u8 0) 1 rfl Try.underlying26 info5 rfl (by decide) (by omega) v226 y225 t209 _ _ _ (fun k_ => some k_ ≠ (.slice Ao34 t209.length co34 : Value).ownBlock) (fun _ => False) rfl rfl ?aO ?aR (fun _ _ h => h) (fun _ h => h.elim) ?aF ?aB ?aS ?aL ?_; (case aR => repeat (first | exact (Kd.R_reads' HO_19.out).2.2 | (with_reducible refine Kd.C_alloc ?_ _) | (with_reducible refine Kd.C_drewN ?_ _) | (with_reducible refine Kd.C_drew ?_))); (case aB => exact (by repeat (first | (with_reducible first | exact HB.out | apply below_alloc | apply pw_below_drewN | apply below_drew1) | exact HB.out | exact Below.refl _ _))); (case aF => exact (fun k_ hk => Kd.fresh' (Kd.R_lt (by (with_reducible repeat (first | apply Kd.R_alloc | apply Kd.R_drewN | apply Kd.R_drew)); exact HO_19.out)) k_ hk)); (case aO => exact (by (with_reducible repeat (first | apply Kd.R_alloc | apply Kd.R_drewN | apply Kd.R_drew)); exact Kd.R_mono HO227.out (fun _ hk => hk.2))); (case aS => exact (below_size (by repeat (first | (with_reducible first | exact HB.out | apply below_alloc | apply pw_below_drewN | apply below_drew1) | exact HB.out | exact Below.refl _ _)))); (case aL => have := LMc53.out; omega); intro v229 w69 ho hb hg hat; rw [← Ny228.out] at ho; have n0_ := Aside0.mk (Kd.R_after (ok := (fun _ => True)) (by (with_reducible repeat (first | apply Kd.R_alloc | apply Kd.R_drewN | apply Kd.R_drew)); exact HO_19.out) hg hat); have n1_ := Aside0.mk (hb); have n2_ := Aside0.mk (ho); clear HO_19; clear HB; clear HO227; have HO_19 := n0_; have HB := n1_; have HO230 := n2_; clear n0_ n1_ n2_; clear ho hb hg hat) | ((with_reducible refine gate_builtin (b := .append) (xs := #[.tmp 98, .tmp 99]) rfl ?_); (try (refine gate_guard (by rfl) ?_; dsimp only)); at_builtin; refine Kd.R_append_rows (Kd.int .u8) (w0 := w) w.heap.size rfl (.tmp 98) (.tmp 99) 26 5 (.int .u8 0) 1 rfl Try.underlying26 info5 rfl (by decide) (by omega) v229 y228 l6 _ _ _ (fun k_ => some k_ ≠ (.slice Ao34 t209.length co34 : Value).ownBlock) (fun _ => False) rfl rfl ?aO ?aR (fun _ _ h => h) (fun _ h => h.elim) ?aF ?aB ?aS ?aL ?_; (case aR => repeat (first | exact (Kd.C_below HR6.out HB.out) | (with_reducible refine Kd.C_alloc ?_ _) | (with_reducible refine Kd.C_drewN ?_ _) | (with_reducible refine Kd.C_drew ?_))); (case aB => exact (by repeat (first | (with_reducible first | exact HB.out | apply below_alloc | apply pw_below_drewN | apply below_drew1) | exact HB.out | exact Below.refl _ _))); (case aF => exact (fun k_ hk => Kd.fresh' (Kd.R_lt (by (with_reducible repeat (first | apply Kd.R_alloc | apply Kd.R_drewN | apply Kd.R_drew)); exact HO_19.out)) k_ hk)); (case aO => exact (by (with_reducible repeat (first | apply Kd.R_alloc | apply Kd.R_drewN | apply Kd.R_drew)); exact HO230.out)); (case aS => exact (below_size (by repeat (first | (with_reducible first | exact HB.out | apply below_alloc | apply pw_below_drewN | apply below_drew1) | exact HB.out | exact Below.refl _ _)))); (case aL => have := LMc54.out; omega); intro v232 w70 ho hb hg hat; rw [← Ny231.out] at ho; have n0_ := Aside0.mk (Kd.R_after (ok := (fun _ => True)) (by (with_reducible repeat (first | apply Kd.R_alloc | apply Kd.R_drewN | apply Kd.R_drew)); exact HO_19.out) hg hat); have n1_ := Aside0.mk (hb); have n2_ := Aside0.mk (ho); clear HO_19; clear HB; clear HO230; have HO_19 := n0_; have HB := n1_; have HO233 := n2_; clear n0_ n1_ n2_; clear ho hb hg hat; obtain ⟨Ao71, co71, eo71⟩ := Kd.R_slice HO233.out; subst eo71) | ((with_reducible refine gate_callee (f := 17) rfl ?_); refine goesL_ (some 101) rfl rfl Try.func17 (by kernel_rfl) rfl #[.slice Ao71 y231.length co71] rfl (by (try simp only [List.map_toArray, List.map_cons, List.map_nil]); first | done | rfl | (simp only [List.length_drop, List.length_take]; rfl)) ?_; (with_reducible refine (edit_Get.calls kj29 _ _ y231 t234 t235 t236 t237 t238 t241 false _ ?side1 ?side2 A55.out).mono ?_); (case side1 => repeat (first | exact (Kd.R_reads' HO233.out).2.2 | (with_reducible refine Kd.C_alloc ?_ _) | (with_reducible refine Kd.C_drewN ?_ _) | (with_reducible refine Kd.C_drew ?_))); (case side2 => exact (Kd.R_reads' HO233.out).2.1); rintro e w72 ⟨v239, v242, rfl, ho0, ho1, hb⟩; refine ⟨_, rfl, ?_⟩; have n0_ := Aside0.mk (Kd.R_below (by (with_reducible repeat (first | apply Kd.R_alloc | apply Kd.R_drewN | apply Kd.R_drew)); exact HO_19.out) hb); have n2_ := Aside0.mk (Kd.R_lower ho0 (below_size (by repeat (first | (with_reducible first | exact HB.out | apply below_alloc | apply pw_below_drewN | apply below_drew1) | exact HB.out | exact Below.refl _ _)))); have n3_ := Aside0.mk (Kd.R_lower ho1 (below_size (by repeat (first | (with_reducible first | exact HB.out | apply below_alloc | apply pw_below_drewN | apply below_drew1) | exact HB.out | exact Below.refl _ _)))); have n4_ := Aside0.mk (below_step (by repeat (first | (with_reducible first | exact HB.out | apply below_alloc | apply pw_below_drewN | apply below_drew1) | exact HB.out | exact Below.refl _ _)) hb); clear HO_19; clear HO233; clear HB; have HO_19 := n0_; have HO240 := n2_; have HO243 := n3_; have HB := n4_; clear n0_ n2_ n3_ n4_; (try clear hb); (try clear hb2); (try clear hk); (try clear hi); (try clear ho0); (try clear ho1)) | ((with_reducible refine gate_dst (N := 22) rfl ?_); (try (refine gate_guard (by rfl) ?_; dsimp only)); refine box_event ?hg (N := 22) ?hd (cs := #[.int .i64 0, .int .i64 0, .int .i64 0, .int .i64 0, .slice none 0 0, .slice none 0 0]) (t := 25) ?hr ?_; (case hd => rfl); (case hg => rfl); (case hr => first | (go_simp; done) | (go_simp; rfl)); intro gb245 hg w73 hbox hb; have n0_ := Aside0.mk (Kd.R_below (by (with_reducible repeat (first | apply Kd.R_alloc | apply Kd.R_drewN | apply Kd.R_drew)); exact HO_19.out) hb); have n2_ := Aside0.mk (Kd.R_below (by (with_reducible repeat (first | apply Kd.R_alloc | apply Kd.R_drewN | apply Kd.R_drew)); exact HO240.out) hb); have n3_ := Aside0.mk (Kd.R_below (by (with_reducible repeat (first | apply Kd.R_alloc | apply Kd.R_drewN | apply Kd.R_drew)); exact HO243.out) hb); have n4_ := Aside0.mk (below_step (by repeat (first | (with_reducible first | exact HB.out | apply below_alloc | apply pw_below_drewN | apply below_drew1) | exact HB.out | exact Below.refl _ _)) hb); have n5_ := Aside0.mk (hbox); have n7_ := Aside0.mk ((by rw [hg]; exact (below_size (by repeat (first | (with_reducible first | exact HB.out | apply below_alloc | apply pw_below_drewN | apply below_drew1) | exact HB.out | exact Below.refl _ _))) : w.heap.size ≤ gb245)); clear HO_19; clear HO240; clear HO243; clear HB; have HO_19 := n0_; have HO240 := n2_; have HO243 := n3_; have HB := n4_; have BK245 := n5_; have GE245 := n7_; clear n0_ n2_ n3_ n4_ n5_ n7_; clear hb hbox hg; obtain ⟨Ao75, co75, eo75⟩ := Kd.R_slice HO240.out; subst eo75; obtain ⟨Ao76, co76, eo76⟩ := Kd.R_slice HO243.out; subst eo76; clear HO240 HO243) | ((with_reducible refine gate_store (t := 25) (p := 22) rfl ?_); refine put6 rfl rfl rfl rfl rfl BK245.out HB.out GE245.out ?_; intro wst22 hB_ hK_ h8_ h31_ h64_; have n0_ := Aside0.mk (h8_ _ _ _ HO_19.out); have n1_ := Aside0.mk (hB_); clear HB BK245 hB_ hK_ h8_ h31_ h64_ HO_19; have HO_19 := n0_; have HB := n1_; clear n0_ n1_; have q78 : ((ji56) : Int) ≤ ((t209.length : Int) : Int) := of_decide_eq_true (by first | (with_reducible assumption) | assumption); obtain ⟨i078, hi078, _, hsz78, _⟩ := info_parts info5; have hroom78 : t209.length ≤ co34 := (Kd.R_reads' HO_19.out).2.1; have hC78 : Kd.C (Kd.int .u8) _ Ao34 t209.length t209 := (Kd.R_reads' HO_19.out).2.2; have hcut78 := cut_to (P := Try.prog) 26 5 .i64 Try.underlying26 hi078 Ao34 t209.length co34 (ji56) (of_decide_eq_true (by first | (with_reducible assumption) | assumption)) q78 hroom78; have hr78 := Kd.C_take (m := ((ji56) : Int).toNat) hC78 (by omega); have hy78 : y246.length = ((ji56) : Int).toNat := (by rw [Ny246.out, List.length_take]; omega); rw [← Ny246.out] at hr78; rw [← hy78] at hcut78; have HR249 := Aside0.mk hr78; have HC249 := Aside0.mk (show y246.length ≤ co34 from by omega); clear hr78 hC78 hroom78 hi078 hsz78; have KY78 := Aside0.mk hy78; clear hy78; have KL78 := Aside0.mk (show ((ji56) : Int).toNat ≤ t209.length from by omega); replace q78 := eq_true q78))
                      as_aux_lemma =>
                       go_upto_region 14 with (first | ((with_reducible refine gate_callee (f := 17) rfl ?_); refine goesL_ (some 110) rfl rfl Try.func17 (by kernel_rfl) rfl #[.slice Ao34 y246.length co34] rfl (by (try simp only [List.map_toArray, List.map_cons, List.map_nil]); first | done | rfl | (simp only [List.length_drop, List.length_take]; rfl)) ?_; (with_reducible refine (edit_Get.calls kj29 _ _ y246 t250 t251 t252 t253 t254 t257 false _ ?side1 ?side2 A59.out).mono ?_); (case side1 => repeat (first | exact (by repeat (first | (with_reducible exact HR249.out) | (with_reducible refine Kd.C_alloc ?_ _) | (with_reducible refine Kd.C_drewN ?_ _) | (with_reducible refine Kd.C_drew ?_) | exact HR249.out)) | (with_reducible refine Kd.C_alloc ?_ _) | (with_reducible refine Kd.C_drewN ?_ _) | (with_reducible refine Kd.C_drew ?_))); (case side2 => exact HC249.out); rintro e w79 ⟨v255, v258, rfl, ho0, ho1, hb⟩; refine ⟨_, rfl, ?_⟩; have n4_ := Aside0.mk (Kd.R_lower ho0 (below_size (by repeat (first | (with_reducible first | exact HB.out | apply below_alloc | apply pw_below_drewN | apply below_drew1) | exact HB.out | exact Below.refl _ _)))); have n5_ := Aside0.mk (Kd.R_lower ho1 (below_size (by repeat (first | (with_reducible first | exact HB.out | apply below_alloc | apply pw_below_drewN | apply below_drew1) | exact HB.out | exact Below.refl _ _)))); have n8_ := Aside0.mk (below_step (by repeat (first | (with_reducible first | exact HB.out | apply below_alloc | apply pw_below_drewN | apply below_drew1) | exact HB.out | exact Below.refl _ _)) hb); clear HO_19; clear HR249; clear HB; have HO256 := n4_; have HO259 := n5_; have HB := n8_; clear n4_ n5_ n8_; (try clear hb); (try clear hb2); (try clear hk); (try clear hi); (try clear ho0); (try clear ho1)) | ((with_reducible refine gate_dst (N := 24) rfl ?_); (try (refine gate_guard (by rfl) ?_; dsimp only)); refine box_event ?hg (N := 24) ?hd (cs := #[.int .i64 0, .int .i64 0, .int .i64 0, .int .i64 0, .slice none 0 0, .slice none 0 0]) (t := 25) ?hr ?_; (case hd => rfl); (case hg => rfl); (case hr => first | (go_simp; done) | (go_simp; rfl)); intro gb261 hg w80 hbox hb; have n4_ := Aside0.mk (Kd.R_below (by (with_reducible repeat (first | apply Kd.R_alloc | apply Kd.R_drewN | apply Kd.R_drew)); exact HO256.out) hb); have n5_ := Aside0.mk (Kd.R_below (by (with_reducible repeat (first | apply Kd.R_alloc | apply Kd.R_drewN | apply Kd.R_drew)); exact HO259.out) hb); have n8_ := Aside0.mk (below_step (by repeat (first | (with_reducible first | exact HB.out | apply below_alloc | apply pw_below_drewN | apply below_drew1) | exact HB.out | exact Below.refl _ _)) hb); have n9_ := Aside0.mk (hbox); have n11_ := Aside0.mk ((by rw [hg]; exact (below_size (by repeat (first | (with_reducible first | exact HB.out | apply below_alloc | apply pw_below_drewN | apply below_drew1) | exact HB.out | exact Below.refl _ _))) : w.heap.size ≤ gb261)); clear HO256; clear HO259; clear HB; have HO256 := n4_; have HO259 := n5_; have HB := n8_; have BK261 := n9_; have GE261 := n11_; clear n4_ n5_ n8_ n9_ n11_; clear hb hbox hg; obtain ⟨Ao83, co83, eo83⟩ := Kd.R_slice HO256.out; subst eo83; obtain ⟨Ao84, co84, eo84⟩ := Kd.R_slice HO259.out; subst eo84; clear HO256 HO259) | ((with_reducible refine gate_store (t := 25) (p := 24) rfl ?_); refine put6 rfl rfl rfl rfl rfl BK261.out HB.out GE261.out ?_; intro wst24 hB_ hK_ h8_ h31_ h64_; have n0_ := Aside0.mk (hB_); clear HB BK261 hB_ hK_ h8_ h31_ h64_; have HB := n0_; clear n0_))
                       as_aux_lemma =>
                        go_upto_region 15 with (first | ((with_reducible refine gate_callee (f := 17) rfl ?_); refine goesL_ (some 115) rfl rfl Try.func17 (by kernel_rfl) rfl #[.slice A7 l7.length c7] rfl (by (try simp only [List.map_toArray, List.map_cons, List.map_nil]); first | done | rfl | (simp only [List.length_drop, List.length_take]; rfl)) ?_; (with_reducible refine (edit_Get.calls kj29 _ _ l7 t262 t263 t264 t265 t266 t269 true _ ?side1 ?side2 A60.out).mono ?_); (case side1 => exact Kd.C_below HR7.out HB.out); (case side2 => exact HC7.out); rintro e w85 ⟨v267, v270, rfl, ho0, ho1, hb⟩; refine ⟨_, rfl, ?_⟩; have n6_ := Aside0.mk (Kd.R_lower ho0 (below_size (by repeat (first | (with_reducible first | exact HB.out | apply below_alloc | apply pw_below_drewN | apply below_drew1) | exact HB.out | exact Below.refl _ _)))); have n7_ := Aside0.mk (Kd.R_lower ho1 (below_size (by repeat (first | (with_reducible first | exact HB.out | apply below_alloc | apply pw_below_drewN | apply below_drew1) | exact HB.out | exact Below.refl _ _)))); have n10_ := Aside0.mk (below_step (by repeat (first | (with_reducible first | exact HB.out | apply below_alloc | apply pw_below_drewN | apply below_drew1) | exact HB.out | exact Below.refl _ _)) hb); clear HB; have HO268 := n6_; have HO271 := n7_; have HB := n10_; clear n6_ n7_ n10_; (try clear hb); (try clear hb2); (try clear hk); (try clear hi); (try clear ho0); (try clear ho1)) | ((with_reducible refine gate_dst (N := 26) rfl ?_); (try (refine gate_guard (by rfl) ?_; dsimp only)); refine box_event ?hg (N := 26) ?hd (cs := #[.int .i64 0, .int .i64 0, .int .i64 0, .int .i64 0, .slice none 0 0, .slice none 0 0]) (t := 25) ?hr ?_; (case hd => rfl); (case hg => rfl); (case hr => first | (go_simp; done) | (go_simp; rfl)); intro gb273 hg w86 hbox hb; have n6_ := Aside0.mk (Kd.R_below (by (with_reducible repeat (first | apply Kd.R_alloc | apply Kd.R_drewN | apply Kd.R_drew)); exact HO268.out) hb); have n7_ := Aside0.mk (Kd.R_below (by (with_reducible repeat (first | apply Kd.R_alloc | apply Kd.R_drewN | apply Kd.R_drew)); exact HO271.out) hb); have n11_ := Aside0.mk (below_step (by repeat (first | (with_reducible first | exact HB.out | apply below_alloc | apply pw_below_drewN | apply below_drew1) | exact HB.out | exact Below.refl _ _)) hb); have n12_ := Aside0.mk (hbox); have n14_ := Aside0.mk ((by rw [hg]; exact (below_size (by repeat (first | (with_reducible first | exact HB.out | apply below_alloc | apply pw_below_drewN | apply below_drew1) | exact HB.out | exact Below.refl _ _))) : w.heap.size ≤ gb273)); clear HO268; clear HO271; clear HB; have HO268 := n6_; have HO271 := n7_; have HB := n11_; have BK273 := n12_; have GE273 := n14_; clear n6_ n7_ n11_ n12_ n14_; clear hb hbox hg; obtain ⟨Ao90, co90, eo90⟩ := Kd.R_slice HO268.out; subst eo90; obtain ⟨Ao91, co91, eo91⟩ := Kd.R_slice HO271.out; subst eo91) | ((with_reducible refine gate_store (t := 25) (p := 26) rfl ?_); refine put6 rfl rfl rfl rfl rfl BK273.out HB.out GE273.out ?_; intro wst26 hB_ hK_ h8_ h31_ h64_; have n0_ := Aside0.mk (h31_ _ _ _ HO268.out); have n1_ := Aside0.mk (h64_ _ _ _ HO271.out); have n2_ := Aside0.mk (hK_); have n3_ := Aside0.mk (hB_); clear HB BK273 hB_ hK_ h8_ h31_ h64_ HO268 HO271; have HO268 := n0_; have HO271 := n1_; have BK273 := n2_; have HB := n3_; clear n0_ n1_ n2_ n3_))
                        as_aux_lemma =>
                         have n0_ := Aside0.mk (Kd.R_drew HO268.out)
                         have n1_ := Aside0.mk (Kd.R_drew HO271.out)
                         have n2_ := Aside0.mk (blk_drew BK273.out)
                         have n3_ := Aside0.mk (below_drew1 HB.out)
                         clear HO268 HO271 BK273 HB
                         have HO268 := n0_
                         have HO271 := n1_
                         have BK273 := n2_
                         have HB := n3_
                         clear n0_ n1_ n2_ n3_
                         as_aux_lemma =>
                          refine start_ (n := 22) (S := fun w' => w'.cell? ⟨gb273, 0, none⟩ = some (.int .i64 t262) ∧ w'.cell? ⟨gb273, 1, none⟩ = some (.int .i64 t263) ∧ w'.cell? ⟨gb273, 2, none⟩ = some (.int .i64 t264) ∧ w'.cell? ⟨gb273, 3, none⟩ = some (.int .i64 t265) ∧ w'.cell? ⟨gb273, 4, none⟩ = some (.slice Ao90 t266.length co90) ∧ w'.cell? ⟨gb273, 5, none⟩ = some (.slice Ao91 t269.length co91) ∧ (convert 26 9 (.slice A7 l7.length c7)).run Try.prog w' = .ok (.string (strOfNums l7)) w') (ds := []) #[false, false, false, false, false, false, false, false, false, false, false, false, false, false, false, false, false, false, false, false, false, false] (by kernel_rfl) rfl rfl ⟨(blk_cell BK273.out 0).trans rfl, (blk_cell BK273.out 1).trans rfl, (blk_cell BK273.out 2).trans rfl, (blk_cell BK273.out 3).trans rfl, (blk_cell BK273.out 4).trans rfl, (blk_cell BK273.out 5).trans rfl, (Kd.C_string (P := Try.prog) (A := A7) (c := c7) Try.underlying26 Try.underlying5 Try.underlying9 (Kd.C_below HR7.out (by repeat (first | (with_reducible first | exact HB.out | apply below_alloc | apply pw_below_drewN | apply below_drew1 | refine below_set ?_ GE273.out) | exact HB.out | exact Below.refl _ _))))⟩ (fun hHeld => ?_); refine with_tabW iceboxlaw17_EditBack.tab15 iceboxlaw17_EditBack.bits15 (fun HT_ HW_ => ?_)
                          generalize wst26.drew = w93 at HO268 HO271 BK273 HB hHeld ⊢
                          refine pure_ (i := 0) (N := some 118) (v := ?_) (a' := ?_) #[true, false, false, false, false, false, false, false, false, false, false, false, false, false, false, false, false, false, false, false, false, false] rfl rfl (any_of HT_.out (by kernel_rfl)) (fun _ _ _ h => h) (Or.inl ⟨by rfl, ?_⟩) ?_ ?_
                          rotate_left
                          ·
                           intro w'
                           go_simp
                           with_reducible rfl
                          rotate_left
                          ·
                           simp only [Act.put, List.setIfInBounds_toArray, List.set_cons_zero, List.set_cons_succ, i64_w, i32_w]
                           rfl
                          refine pure_ (i := 1) (N := some 119) (v := ?_) (a' := ?_) #[true, true, false, false, false, false, false, false, false, false, false, false, false, false, false, false, false, false, false, false, false, false] rfl rfl (any_of HT_.out (by kernel_rfl)) (fun _ _ _ h => h) (Or.inl ⟨by rfl, ?_⟩) ?_ ?_
                          rotate_left
                          ·
                           intro w'
                           go_simp
                           with_reducible rfl
                          rotate_left
                          ·
                           simp only [Act.put, List.setIfInBounds_toArray, List.set_cons_zero, List.set_cons_succ, i64_w, i32_w]
                           rfl
                          refine pure_ (i := 2) (N := some 120) (v := ?_) (a' := ?_) #[true, true, true, false, false, false, false, false, false, false, false, false, false, false, false, false, false, false, false, false, false, false] rfl rfl (any_of HT_.out (by kernel_rfl)) (fun _ _ _ h => h) (Or.inl ⟨by rfl, ?_⟩) ?_ ?_
                          rotate_left
                          ·
                           intro w'
                           go_simp
                           with_reducible rfl
                          rotate_left
                          ·
                           simp only [Act.put, List.setIfInBounds_toArray, List.set_cons_zero, List.set_cons_succ, i64_w, i32_w]
                           rfl
                          refine pure_ (i := 3) (N := some 121) (v := ?_) (a' := ?_) #[true, true, true, true, false, false, false, false, false, false, false, false, false, false, false, false, false, false, false, false, false, false] rfl rfl (any_of HT_.out (by kernel_rfl)) (fun _ _ _ h => h) (Or.inl ⟨by rfl, ?_⟩) ?_ ?_
                          rotate_left
                          ·
                           intro w'
                           go_simp
                           with_reducible rfl
                          rotate_left
                          ·
                           simp only [Act.put, List.setIfInBounds_toArray, List.set_cons_zero, List.set_cons_succ, i64_w, i32_w]
                           rfl
                          refine pure_ (i := 4) (N := some 122) (v := ?_) (a' := ?_) #[true, true, true, true, true, false, false, false, false, false, false, false, false, false, false, false, false, false, false, false, false, false] rfl rfl (any_of HT_.out (by kernel_rfl)) (fun _ _ _ h => h) (Or.inl ⟨by rfl, ?_⟩) ?_ ?_
                          rotate_left
                          ·
                           intro w'
                           go_simp
                           with_reducible rfl
                          rotate_left
                          ·
                           simp only [Act.put, List.setIfInBounds_toArray, List.set_cons_zero, List.set_cons_succ, i64_w, i32_w]
                           rfl
                          as_aux_lemma =>
                           refine pure_ (i := 5) (N := some 123) (v := ?_) (a' := ?_) #[true, true, true, true, true, true, false, false, false, false, false, false, false, false, false, false, false, false, false, false, false, false] rfl rfl (any_of HT_.out (by kernel_rfl)) (fun _ _ _ h => h) (Or.inl ⟨by rfl, ?_⟩) ?_ ?_
                           rotate_left
                           ·
                            intro w'
                            go_simp
                            with_reducible rfl
                           rotate_left
                           ·
                            simp only [Act.put, List.setIfInBounds_toArray, List.set_cons_zero, List.set_cons_succ, i64_w, i32_w]
                            rfl
                           refine pure_ (i := 6) (N := some 124) (v := ?_) (a' := ?_) #[true, true, true, true, true, true, true, false, false, false, false, false, false, false, false, false, false, false, false, false, false, false] rfl rfl (any_of HT_.out (by kernel_rfl)) (fun _ _ _ h => h) (Or.inl ⟨by rfl, ?_⟩) ?_ ?_
                           rotate_left
                           ·
                            intro w'
                            go_simp
                            with_reducible rfl
                           rotate_left
                           ·
                            simp only [Act.put, List.setIfInBounds_toArray, List.set_cons_zero, List.set_cons_succ, i64_w, i32_w]
                            rfl
                           refine pure_ (i := 7) (N := some 125) (v := ?_) (a' := ?_) #[true, true, true, true, true, true, true, true, false, false, false, false, false, false, false, false, false, false, false, false, false, false] rfl rfl (any_of HT_.out (by kernel_rfl)) (fun _ _ _ h => h) (Or.inl ⟨by rfl, ?_⟩) ?_ ?_
                           rotate_left
                           ·
                            intro w'
                            go_simp
                            with_reducible rfl
                           rotate_left
                           ·
                            simp only [Act.put, List.setIfInBounds_toArray, List.set_cons_zero, List.set_cons_succ, i64_w, i32_w]
                            rfl
                           refine pure_ (i := 8) (N := some 126) (v := ?_) (a' := ?_) #[true, true, true, true, true, true, true, true, true, false, false, false, false, false, false, false, false, false, false, false, false, false] rfl rfl (any_of HT_.out (by kernel_rfl)) (fun _ _ _ h => h) (Or.inl ⟨by rfl, ?_⟩) ?_ ?_
                           rotate_left
                           ·
                            intro w'
                            go_simp
                            with_reducible rfl
                           rotate_left
                           ·
                            simp only [Act.put, List.setIfInBounds_toArray, List.set_cons_zero, List.set_cons_succ, i64_w, i32_w]
                            rfl
                           refine pure_ (i := 9) (N := some 127) (v := ?_) (a' := ?_) #[true, true, true, true, true, true, true, true, true, true, false, false, false, false, false, false, false, false, false, false, false, false] rfl rfl (any_of HT_.out (by kernel_rfl)) (fun _ _ _ h => h) (Or.inl ⟨by rfl, ?_⟩) ?_ ?_
                           rotate_left
                           ·
                            intro w'
                            go_simp
                            with_reducible rfl
                           rotate_left
                           ·
                            simp only [Act.put, List.setIfInBounds_toArray, List.set_cons_zero, List.set_cons_succ, i64_w, i32_w]
                            rfl
                           refine pure_ (i := 13) (N := some 131) (v := ?_) (a' := ?_) #[true, true, true, true, true, true, true, true, true, true, false, false, false, true, false, false, false, false, false, false, false, false] rfl rfl (any_of HT_.out (by kernel_rfl)) (fun _ _ _ h => h) (Or.inl ⟨by rfl, ?_⟩) ?_ ?_
                           rotate_left
                           ·
                            intro w'
                            go_simp
                            with_reducible rfl
                           rotate_left
                           ·
                            simp only [Act.put, List.setIfInBounds_toArray, List.set_cons_zero, List.set_cons_succ, i64_w, i32_w]
                            rfl
                           as_aux_lemma =>
                            refine take_ (i := 10) (N := some 128) (v := ?_) (a' := ?_) #[true, true, true, true, true, true, true, true, true, true, true, false, false, true, false, false, false, false, false, false, false, false] rfl rfl (take_ofW HT_.out HW_.out (by kernel_rfl)) (fun _ _ _ h => h) (Or.inl ⟨by rfl, ?_⟩) hHeld ?_ ?_
                            rotate_left
                            ·
                             rintro w' ⟨s0, s1, s2, s3, s4, s5, s6⟩
                             go_simp
                             with_reducible rfl
                            rotate_left
                            ·
                             simp only [Act.put, List.setIfInBounds_toArray, List.set_cons_zero, List.set_cons_succ, i64_w, i32_w]
                             rfl
                            refine take_ (i := 14) (N := some 132) (v := ?_) (a' := ?_) #[true, true, true, true, true, true, true, true, true, true, true, false, false, true, true, false, false, false, false, false, false, false] rfl rfl (take_ofW HT_.out HW_.out (by kernel_rfl)) (fun _ _ _ h => h) (Or.inl ⟨by rfl, ?_⟩) hHeld ?_ ?_
                            rotate_left
                            ·
                             rintro w' ⟨s0, s1, s2, s3, s4, s5, s6⟩
                             go_simp
                             with_reducible rfl
                            rotate_left
                            ·
                             simp only [Act.put, List.setIfInBounds_toArray, List.set_cons_zero, List.set_cons_succ, i64_w, i32_w]
                             rfl
                            refine one_ (i := 11) (N := some 129) #[true, true, true, true, true, true, true, true, true, true, true, true, false, true, true, false, false, false, false, false, false, false] rfl rfl (one_of HT_.out (by kernel_rfl)) (by decide) (fun K hK => ?_)
                            refine goes_ Try.func21 (by kernel_rfl) rfl #[.agg #[.int .i64 t262, .int .i64 t263, .int .i64 t264, .int .i64 t265, .slice Ao90 t266.length co90, .slice Ao91 t269.length co91]] (by rfl) rfl rfl (by (try simp only [List.map_toArray, List.map_cons, List.map_nil]); first | done | rfl | (simp only [List.length_drop, List.length_take]; rfl)) ?_
                            with_reducible refine (edit_Put.calls kj29 t262 t263 t264 t265 _ _ t266 _ _ t269 t274 _ ?side1 ?side2 ?side3 ?side4 A64.out).mono ?_
                            (case side1 => repeat (first | exact (Kd.R_reads' HO268.out).2.2 | (with_reducible refine Kd.C_alloc ?_ _) | (with_reducible refine Kd.C_drewN ?_ _) | (with_reducible refine Kd.C_drew ?_)))
                            (case side2 => exact (Kd.R_reads' HO268.out).2.1)
                            (case side3 => repeat (first | exact (Kd.R_reads' HO271.out).2.2 | (with_reducible refine Kd.C_alloc ?_ _) | (with_reducible refine Kd.C_drewN ?_ _) | (with_reducible refine Kd.C_drew ?_)))
                            (case side4 => exact (Kd.R_reads' HO271.out).2.1)
                            rintro e w94 ⟨v275, rfl, ho0, hb⟩
                            refine ⟨_, rfl, ?_⟩
                            have n6_ := Aside0.mk (Kd.R_below (by (with_reducible repeat (first | apply Kd.R_alloc | apply Kd.R_drewN | apply Kd.R_drew)); exact HO268.out) hb)
                            have n7_ := Aside0.mk (Kd.R_below (by (with_reducible repeat (first | apply Kd.R_alloc | apply Kd.R_drewN | apply Kd.R_drew)); exact HO271.out) hb)
                            have n8_ := Aside0.mk (Kd.R_lower ho0 (below_size (by repeat (first | (with_reducible first | exact HB.out | apply below_alloc | apply pw_below_drewN | apply below_drew1) | exact HB.out | exact Below.refl _ _))))
                            have n11_ := Aside0.mk (blk_below (g := gb273) (o := .cells #[.int .i64 t262, .int .i64 t263, .int .i64 t264, .int .i64 t265, .slice Ao90 t266.length co90, .slice Ao91 t269.length co91] 25 (0, 0)) (by (with_reducible repeat (first | refine blk_drewN ?_ _ | refine blk_drew ?_ | refine blk_alloc ?_ _)); exact BK273.out) hb)
                            have n12_ := Aside0.mk (below_step (by repeat (first | (with_reducible first | exact HB.out | apply below_alloc | apply pw_below_drewN | apply below_drew1 | refine below_set ?_ GE273.out) | exact HB.out | exact Below.refl _ _)) hb)
                            clear HO268
                            clear HO271
                            clear BK273
                            clear HB
                            have HO268 := n6_
                            have HO271 := n7_
                            have HO276 := n8_
                            have BK273 := n11_
                            have HB := n12_
                            clear n6_ n7_ n8_ n11_ n12_
                            (try clear hb)
                            (try clear ho0)
                            refine hK.out _ _ ⟨(blk_cell BK273.out 0).trans rfl, (blk_cell BK273.out 1).trans rfl, (blk_cell BK273.out 2).trans rfl, (blk_cell BK273.out 3).trans rfl, (blk_cell BK273.out 4).trans rfl, (blk_cell BK273.out 5).trans rfl, (Kd.C_string (P := Try.prog) (A := A7) (c := c7) Try.underlying26 Try.underlying5 Try.underlying9 (Kd.C_below HR7.out (by repeat (first | (with_reducible first | exact HB.out | apply below_alloc | apply pw_below_drewN | apply below_drew1 | refine below_set ?_ GE273.out) | exact HB.out | exact Below.refl _ _))))⟩ (fun hHeld => ?_)
                            clear hK K
                            refine norm_ (a' := ?_) ?_ ?_
                            rotate_left
                            ·
                             show Act.put _ (some 129) _ = _
                             simp only [Act.put, List.setIfInBounds_toArray, List.set_cons_zero, List.set_cons_succ, i64_w, i32_w]
                             rfl
                            refine one_ (i := 12) (N := some 130) #[true, true, true, true, true, true, true, true, true, true, true, true, true, true, true, false, false, false, false, false, false, false] rfl rfl (one_of HT_.out (by kernel_rfl)) (by decide) (fun K hK => ?_)
                            have hcv95 := own_string (P := Try.prog) Try.underlying26 Try.underlying5 Try.underlying9 (Kd.own_of_R HO276.out)
                            refine value_ (w1 := ?_) (v := ?_) (by rfl) rfl ?_ ?_
                            rotate_left 2
                            ·
                             go_simp
                             constructor
                             · rfl
                             · rfl
                            clear hcv95
                            refine hK.out _ _ ⟨(blk_cell BK273.out 0).trans rfl, (blk_cell BK273.out 1).trans rfl, (blk_cell BK273.out 2).trans rfl, (blk_cell BK273.out 3).trans rfl, (blk_cell BK273.out 4).trans rfl, (blk_cell BK273.out 5).trans rfl, (Kd.C_string (P := Try.prog) (A := A7) (c := c7) Try.underlying26 Try.underlying5 Try.underlying9 (Kd.C_below HR7.out (by repeat (first | (with_reducible first | exact HB.out | apply below_alloc | apply pw_below_drewN | apply below_drew1 | refine below_set ?_ GE273.out) | exact HB.out | exact Below.refl _ _))))⟩ (fun hHeld => ?_)
                            clear hK K
                            refine norm_ (a' := ?_) ?_ ?_
                            rotate_left
                            ·
                             show Act.put _ (some 130) _ = _
                             simp only [Act.put, List.setIfInBounds_toArray, List.set_cons_zero, List.set_cons_succ, i64_w, i32_w]
                             rfl
                            refine pure_ (i := 15) (N := some 133) (v := ?_) (a' := ?_) #[true, true, true, true, true, true, true, true, true, true, true, true, true, true, true, true, false, false, false, false, false, false] rfl rfl (any_of HT_.out (by kernel_rfl)) (fun _ _ _ h => h) (Or.inl ⟨by rfl, ?_⟩) ?_ ?_
                            rotate_left
                            ·
                             intro w'
                             go_simp
                             with_reducible rfl
                            rotate_left
                            ·
                             simp only [Act.put, List.setIfInBounds_toArray, List.set_cons_zero, List.set_cons_succ, i64_w, i32_w]
                             rfl
                            refine pure_ (i := 16) (N := some 134) (v := ?_) (a' := ?_) #[true, true, true, true, true, true, true, true, true, true, true, true, true, true, true, true, true, false, false, false, false, false] rfl rfl (any_of HT_.out (by kernel_rfl)) (fun _ _ _ h => h) (Or.inl ⟨by rfl, ?_⟩) ?_ ?_
                            rotate_left
                            ·
                             intro w'
                             go_simp
                             with_reducible rfl
                            rotate_left
                            ·
                             simp only [Act.put, List.setIfInBounds_toArray, List.set_cons_zero, List.set_cons_succ, i64_w, i32_w]
                             rfl
                            as_aux_lemma =>
                             refine pure_ (i := 17) (N := some 135) (v := ?_) (a' := ?_) #[true, true, true, true, true, true, true, true, true, true, true, true, true, true, true, true, true, true, false, false, false, false] rfl rfl (any_of HT_.out (by kernel_rfl)) (fun _ _ _ h => h) (Or.inl ⟨by rfl, ?_⟩) ?_ ?_
                             rotate_left
                             ·
                              intro w'
                              go_simp
                              with_reducible rfl
                             rotate_left
                             ·
                              simp only [Act.put, List.setIfInBounds_toArray, List.set_cons_zero, List.set_cons_succ, i64_w, i32_w]
                              rfl
                             refine pure_ (i := 18) (N := some 136) (v := ?_) (a' := ?_) #[true, true, true, true, true, true, true, true, true, true, true, true, true, true, true, true, true, true, true, false, false, false] rfl rfl (any_of HT_.out (by kernel_rfl)) (fun _ _ _ h => h) (Or.inl ⟨by rfl, ?_⟩) ?_ ?_
                             rotate_left
                             ·
                              intro w'
                              go_simp
                              with_reducible rfl
                             rotate_left
                             ·
                              simp only [Act.put, List.setIfInBounds_toArray, List.set_cons_zero, List.set_cons_succ, i64_w, i32_w]
                              rfl
                             refine one_ (i := 19) (N := some 137) #[true, true, true, true, true, true, true, true, true, true, true, true, true, true, true, true, true, true, true, true, false, false] rfl rfl (one_of HT_.out (by kernel_rfl)) (by decide) (fun K hK => ?_)
                             refine goes_ Try.func14 (by kernel_rfl) rfl #[] (by rfl) rfl rfl (by (try simp only [List.map_toArray, List.map_cons, List.map_nil]); first | done | rfl | (simp only [List.length_drop, List.length_take]; rfl)) ?_
                             with_reducible refine (iceboxlaw17_awake.calls kj29  t277 _ A66.out).mono ?_
                             rintro e w98 ⟨rfl, hb⟩
                             refine ⟨_, rfl, ?_⟩
                             have n6_ := Aside0.mk (Kd.R_below (by (with_reducible repeat (first | apply Kd.R_alloc | apply Kd.R_drewN | apply Kd.R_drew)); exact HO268.out) hb)
                             have n7_ := Aside0.mk (Kd.R_below (by (with_reducible repeat (first | apply Kd.R_alloc | apply Kd.R_drewN | apply Kd.R_drew)); exact HO271.out) hb)
                             have n8_ := Aside0.mk (Kd.R_below (by (with_reducible repeat (first | apply Kd.R_alloc | apply Kd.R_drewN | apply Kd.R_drew)); exact HO276.out) hb)
                             have n11_ := Aside0.mk (blk_below (g := gb273) (o := .cells #[.int .i64 t262, .int .i64 t263, .int .i64 t264, .int .i64 t265, .slice Ao90 t266.length co90, .slice Ao91 t269.length co91] 25 (0, 0)) (by (with_reducible repeat (first | refine blk_drewN ?_ _ | refine blk_drew ?_ | refine blk_alloc ?_ _)); exact BK273.out) hb)
                             have n12_ := Aside0.mk (below_step (by repeat (first | (with_reducible first | exact HB.out | apply below_alloc | apply pw_below_drewN | apply below_drew1 | refine below_set ?_ GE273.out) | exact HB.out | exact Below.refl _ _)) hb)
                             clear HO268
                             clear HO271
                             clear HO276
                             clear BK273
                             clear HB
                             have HO268 := n6_
                             have HO271 := n7_
                             have HO276 := n8_
                             have BK273 := n11_
                             have HB := n12_
                             clear n6_ n7_ n8_ n11_ n12_
                             (try clear hb)
                             refine hK.out _ _ ⟨(blk_cell BK273.out 0).trans rfl, (blk_cell BK273.out 1).trans rfl, (blk_cell BK273.out 2).trans rfl, (blk_cell BK273.out 3).trans rfl, (blk_cell BK273.out 4).trans rfl, (blk_cell BK273.out 5).trans rfl, (Kd.C_string (P := Try.prog) (A := A7) (c := c7) Try.underlying26 Try.underlying5 Try.underlying9 (Kd.C_below HR7.out (by repeat (first | (with_reducible first | exact HB.out | apply below_alloc | apply pw_below_drewN | apply below_drew1 | refine below_set ?_ GE273.out) | exact HB.out | exact Below.refl _ _))))⟩ (fun hHeld => ?_)
                             clear hK K
                             refine norm_ (a' := ?_) ?_ ?_
                             rotate_left
                             ·
                              show Act.put _ (some 137) _ = _
                              simp only [Act.put, List.setIfInBounds_toArray, List.set_cons_zero, List.set_cons_succ, i64_w, i32_w]
                              rfl
                             refine pure_ (i := 20) (N := some 138) (v := ?_) (a' := ?_) #[true, true, true, true, true, true, true, true, true, true, true, true, true, true, true, true, true, true, true, true, true, false] rfl rfl (any_of HT_.out (by kernel_rfl)) (fun _ _ _ h => h) (Or.inl ⟨by rfl, ?_⟩) ?_ ?_
                             rotate_left
                             ·
                              intro w'
                              go_simp
                              with_reducible rfl
                             rotate_left
                             ·
                              simp only [Act.put, List.setIfInBounds_toArray, List.set_cons_zero, List.set_cons_succ, i64_w, i32_w]
                              rfl
                             refine pure_ (i := 21) (N := some 16) (v := ?_) (a' := ?_) #[true, true, true, true, true, true, true, true, true, true, true, true, true, true, true, true, true, true, true, true, true, true] rfl rfl (any_of HT_.out (by kernel_rfl)) (fun _ _ _ h => h) (Or.inl ⟨by rfl, ?_⟩) ?_ ?_
                             rotate_left
                             ·
                              intro w'
                              go_simp
                              with_reducible rfl
                             rotate_left
                             ·
                              simp only [Act.put, List.setIfInBounds_toArray, List.set_cons_zero, List.set_cons_succ, i64_w, i32_w]
                              rfl
                             as_aux_lemma =>
                              refine done_ (done_of HT_.out (by kernel_rfl)) ?_
                              try go_wp2
                              go_ret
                              exact ⟨by first | rfl | (simp [errW_none, errW_some] <;> rfl) | (simp only [← hji56]; first | rfl | (simp [errW_none, errW_some] <;> rfl)) | (simp [*, errW_none, errW_some] <;> rfl), by repeat (first | (with_reducible first | exact HB.out | apply below_alloc | apply pw_below_drewN | apply below_drew1 | refine below_set ?_ GE273.out) | exact HB.out | exact Below.refl _ _)⟩
                    ·
                     rw [if_neg c65] at H
                     have c65b0 : ((strOfNums t274).toList == (strOfNums l7).toList) = false := beq_eq_false_iff_ne.mpr c65
                     have c65b1 : ((strOfNums t274).toList != (strOfNums l7).toList) = true := bne_iff_ne.mpr c65
                     exact absurd H (by simp)
                   ·
                    replace c63 := Bool.eq_false_iff.mpr c63
                    subst c63
                    have H1 : ((iceboxlaw17_awake.f kj29).bind fun t278 => (some t278)) = some r := by rw [if_neg (show ¬ (false = true) by decide)] at H; exact H
                    clear H
                    have H := H1
                    clear H1
                    replace H := Option.bind_eq_some_iff.mp H
                    obtain ⟨t278, A990, H⟩ := H
                    replace H : (some t278) = some r := H
                    have A99 := Aside0.mk A990
                    clear A990
                    obtain rfl := Option.some.inj H
                    as_aux_lemma =>
                     go_upto_region 13 with (first | ((with_reducible refine gate_dst (N := 96) rfl ?_); (try (refine gate_guard (by rfl) ?_; dsimp only)); refine Kd.R_lit (Kd.int .u8) _ 5 ?hg (N := 96) ?hd (xs := ([] : List Int)) (inner := []) (ok := fun _ => True) (okp := fun _ => True) ?hr ?hp (fun _ hk => hk) trivial (Below.refl _ _) (Nat.le_refl _) (by simp) ?_; (case hd => rfl); (case hg => rfl); (case hr => first | (go_simp; done) | (go_simp; rfl)); (case hp => exact (Reps.none _ _)); intro v226 w100 ho101 hb hg_ hnew_; clear hg_ hnew_; (first | rw [← Ny225.out] at ho101 | (simp only [Int.reduceToNat] at ho101; rw [← Ny225.out] at ho101)); have n0_ := Aside0.mk (Kd.R_elder' (by (with_reducible repeat (first | apply Kd.R_alloc | apply Kd.R_drewN | apply Kd.R_drew)); exact HO_19.out) (Kd.R_base ho101) hb); have n1_ := Aside0.mk (Kd.R_lower (Kd.R_new' ho101 (Kd.R_lt (by (with_reducible repeat (first | apply Kd.R_alloc | apply Kd.R_drewN | apply Kd.R_drew)); exact HO_19.out))) (below_size (by repeat (first | (with_reducible first | exact HB.out | apply below_alloc | apply pw_below_drewN | apply below_drew1) | exact HB.out | exact Below.refl _ _)))); have n2_ := Aside0.mk (below_step (by repeat (first | (with_reducible first | exact HB.out | apply below_alloc | apply pw_below_drewN | apply below_drew1) | exact HB.out | exact Below.refl _ _)) hb); clear HO_19; clear HB; have HO_19 := n0_; have HO227 := n1_; have HB := n2_; clear n0_ n1_ n2_; clear hb ho101) | ((with_reducible refine gate_builtin (b := .append) (xs := #[.tmp 96, .tmp 97]) rfl ?_); (try (refine gate_guard (by rfl) ?_; dsimp only)); at_builtin; refine Kd.R_append_rows (Kd.int .u8) (w0 := w) w.heap.size rfl (.tmp 96) (.tmp 97) 26 5 (.int .u8 0) 1 rfl Try.underlying26 info5 rfl (by decide) (by omega) v226 y225 t209 _ _ _ (fun k_ => some k_ ≠ (.slice Ao34 t209.length co34 : Value).ownBlock) (fun _ => False) rfl rfl ?aO ?aR (fun _ _ h => h) (fun _ h => h.elim) ?aF ?aB ?aS ?aL ?_; (case aR => repeat (first | exact (Kd.R_reads' HO_19.out).2.2 | (with_reducible refine Kd.C_alloc ?_ _) | (with_reducible refine Kd.C_drewN ?_ _) | (with_reducible refine Kd.C_drew ?_))); (case aB => exact (by repeat (first | (with_reducible first | exact HB.out | apply below_alloc | apply pw_below_drewN | apply below_drew1) | exact HB.out | exact Below.refl _ _))); (case aF => exact (fun k_ hk => Kd.fresh' (Kd.R_lt (by (with_reducible repeat (first | apply Kd.R_alloc | apply Kd.R_drewN | apply Kd.R_drew)); exact HO_19.out)) k_ hk)); (case aO => exact (by (with_reducible repeat (first | apply Kd.R_alloc | apply Kd.R_drewN | apply Kd.R_drew)); exact Kd.R_mono HO227.out (fun _ hk => hk.2))); (case aS => exact (below_size (by repeat (first | (with_reducible first | exact HB.out | apply below_alloc | apply pw_below_drewN | apply below_drew1) | exact HB.out | exact Below.refl _ _)))); (case aL => have := LMc53.out; omega); intro v229 w102 ho hb hg hat; rw [← Ny228.out] at ho; have n0_ := Aside0.mk (Kd.R_after (ok := (fun _ => True)) (by (with_reducible repeat (first | apply Kd.R_alloc | apply Kd.R_drewN | apply Kd.R_drew)); exact HO_19.out) hg hat); have n1_ := Aside0.mk (hb); have n2_ := Aside0.mk (ho); clear HO_19; clear HB; clear HO227; have HO_19 := n0_; have HB := n1_; have HO230 := n2_; clear n0_ n1_ n2_; clear ho hb hg hat) | ((with_reducible refine gate_builtin (b := .append) (xs := #[.tmp 98, .tmp 99]) rfl ?_); (try (refine gate_guard (by rfl) ?_; dsimp only)); at_builtin; refine Kd.R_append_rows (Kd.int .u8) (w0 := w) w.heap.size rfl (.tmp 98) (.tmp 99) 26 5 (.int .u8 0) 1 rfl Try.underlying26 info5 rfl (by decide) (by omega) v229 y228 l6 _ _ _ (fun k_ => some k_ ≠ (.slice Ao34 t209.length co34 : Value).ownBlock) (fun _ => False) rfl rfl ?aO ?aR (fun _ _ h => h) (fun _ h => h.elim) ?aF ?aB ?aS ?aL ?_; (case aR => repeat (first | exact (Kd.C_below HR6.out HB.out) | (with_reducible refine Kd.C_alloc ?_ _) | (with_reducible refine Kd.C_drewN ?_ _) | (with_reducible refine Kd.C_drew ?_))); (case aB => exact (by repeat (first | (with_reducible first | exact HB.out | apply below_alloc | apply pw_below_drewN | apply below_drew1) | exact HB.out | exact Below.refl _ _))); (case aF => exact (fun k_ hk => Kd.fresh' (Kd.R_lt (by (with_reducible repeat (first | apply Kd.R_alloc | apply Kd.R_drewN | apply Kd.R_drew)); exact HO_19.out)) k_ hk)); (case aO => exact (by (with_reducible repeat (first | apply Kd.R_alloc | apply Kd.R_drewN | apply Kd.R_drew)); exact HO230.out)); (case aS => exact (below_size (by repeat (first | (with_reducible first | exact HB.out | apply below_alloc | apply pw_below_drewN | apply below_drew1) | exact HB.out | exact Below.refl _ _)))); (case aL => have := LMc54.out; omega); intro v232 w103 ho hb hg hat; rw [← Ny231.out] at ho; have n0_ := Aside0.mk (Kd.R_after (ok := (fun _ => True)) (by (with_reducible repeat (first | apply Kd.R_alloc | apply Kd.R_drewN | apply Kd.R_drew)); exact HO_19.out) hg hat); have n1_ := Aside0.mk (hb); have n2_ := Aside0.mk (ho); clear HO_19; clear HB; clear HO230; have HO_19 := n0_; have HB := n1_; have HO233 := n2_; clear n0_ n1_ n2_; clear ho hb hg hat; obtain ⟨Ao104, co104, eo104⟩ := Kd.R_slice HO233.out; subst eo104) | ((with_reducible refine gate_callee (f := 17) rfl ?_); refine goesL_ (some 101) rfl rfl Try.func17 (by kernel_rfl) rfl #[.slice Ao104 y231.length co104] rfl (by (try simp only [List.map_toArray, List.map_cons, List.map_nil]); first | done | rfl | (simp only [List.length_drop, List.length_take]; rfl)) ?_; (with_reducible refine (edit_Get.calls kj29 _ _ y231 t234 t235 t236 t237 t238 t241 false _ ?side1 ?side2 A55.out).mono ?_); (case side1 => repeat (first | exact (Kd.R_reads' HO233.out).2.2 | (with_reducible refine Kd.C_alloc ?_ _) | (with_reducible refine Kd.C_drewN ?_ _) | (with_reducible refine Kd.C_drew ?_))); (case side2 => exact (Kd.R_reads' HO233.out).2.1); rintro e w105 ⟨v239, v242, rfl, ho0, ho1, hb⟩; refine ⟨_, rfl, ?_⟩; have n0_ := Aside0.mk (Kd.R_below (by (with_reducible repeat (first | apply Kd.R_alloc | apply Kd.R_drewN | apply Kd.R_drew)); exact HO_19.out) hb); have n2_ := Aside0.mk (Kd.R_lower ho0 (below_size (by repeat (first | (with_reducible first | exact HB.out | apply below_alloc | apply pw_below_drewN | apply below_drew1) | exact HB.out | exact Below.refl _ _)))); have n3_ := Aside0.mk (Kd.R_lower ho1 (below_size (by repeat (first | (with_reducible first | exact HB.out | apply below_alloc | apply pw_below_drewN | apply below_drew1) | exact HB.out | exact Below.refl _ _)))); have n4_ := Aside0.mk (below_step (by repeat (first | (with_reducible first | exact HB.out | apply below_alloc | apply pw_below_drewN | apply below_drew1) | exact HB.out | exact Below.refl _ _)) hb); clear HO_19; clear HO233; clear HB; have HO_19 := n0_; have HO240 := n2_; have HO243 := n3_; have HB := n4_; clear n0_ n2_ n3_ n4_; (try clear hb); (try clear hb2); (try clear hk); (try clear hi); (try clear ho0); (try clear ho1)) | ((with_reducible refine gate_dst (N := 22) rfl ?_); (try (refine gate_guard (by rfl) ?_; dsimp only)); refine box_event ?hg (N := 22) ?hd (cs := #[.int .i64 0, .int .i64 0, .int .i64 0, .int .i64 0, .slice none 0 0, .slice none 0 0]) (t := 25) ?hr ?_; (case hd => rfl); (case hg => rfl); (case hr => first | (go_simp; done) | (go_simp; rfl)); intro gb245 hg w106 hbox hb; have n0_ := Aside0.mk (Kd.R_below (by (with_reducible repeat (first | apply Kd.R_alloc | apply Kd.R_drewN | apply Kd.R_drew)); exact HO_19.out) hb); have n2_ := Aside0.mk (Kd.R_below (by (with_reducible repeat (first | apply Kd.R_alloc | apply Kd.R_drewN | apply Kd.R_drew)); exact HO240.out) hb); have n3_ := Aside0.mk (Kd.R_below (by (with_reducible repeat (first | apply Kd.R_alloc | apply Kd.R_drewN | apply Kd.R_drew)); exact HO243.out) hb); have n4_ := Aside0.mk (below_step (by repeat (first | (with_reducible first | exact HB.out | apply below_alloc | apply pw_below_drewN | apply below_drew1) | exact HB.out | exact Below.refl _ _)) hb); have n5_ := Aside0.mk (hbox); have n7_ := Aside0.mk ((by rw [hg]; exact (below_size (by repeat (first | (with_reducible first | exact HB.out | apply below_alloc | apply pw_below_drewN | apply below_drew1) | exact HB.out | exact Below.refl _ _))) : w.heap.size ≤ gb245)); clear HO_19; clear HO240; clear HO243; clear HB; have HO_19 := n0_; have HO240 := n2_; have HO243 := n3_; have HB := n4_; have BK245 := n5_; have GE245 := n7_; clear n0_ n2_ n3_ n4_ n5_ n7_; clear hb hbox hg; obtain ⟨Ao108, co108, eo108⟩ := Kd.R_slice HO240.out; subst eo108; obtain ⟨Ao109, co109, eo109⟩ := Kd.R_slice HO243.out; subst eo109; clear HO240 HO243) | ((with_reducible refine gate_store (t := 25) (p := 22) rfl ?_); refine put6 rfl rfl rfl rfl rfl BK245.out HB.out GE245.out ?_; intro wst22 hB_ hK_ h8_ h31_ h64_; have n0_ := Aside0.mk (h8_ _ _ _ HO_19.out); have n1_ := Aside0.mk (hB_); clear HB BK245 hB_ hK_ h8_ h31_ h64_ HO_19; have HO_19 := n0_; have HB := n1_; clear n0_ n1_; have q111 : ((ji56) : Int) ≤ ((t209.length : Int) : Int) := of_decide_eq_true (by first | (with_reducible assumption) | assumption); obtain ⟨i0111, hi0111, _, hsz111, _⟩ := info_parts info5; have hroom111 : t209.length ≤ co34 := (Kd.R_reads' HO_19.out).2.1; have hC111 : Kd.C (Kd.int .u8) _ Ao34 t209.length t209 := (Kd.R_reads' HO_19.out).2.2; have hcut111 := cut_to (P := Try.prog) 26 5 .i64 Try.underlying26 hi0111 Ao34 t209.length co34 (ji56) (of_decide_eq_true (by first | (with_reducible assumption) | assumption)) q111 hroom111; have hr111 := Kd.C_take (m := ((ji56) : Int).toNat) hC111 (by omega); have hy111 : y246.length = ((ji56) : Int).toNat := (by rw [Ny246.out, List.length_take]; omega); rw [← Ny246.out] at hr111; rw [← hy111] at hcut111; have HR249 := Aside0.mk hr111; have HC249 := Aside0.mk (show y246.length ≤ co34 from by omega); clear hr111 hC111 hroom111 hi0111 hsz111; have KY111 := Aside0.mk hy111; clear hy111; have KL111 := Aside0.mk (show ((ji56) : Int).toNat ≤ t209.length from by omega); replace q111 := eq_true q111))
                     as_aux_lemma =>
                      go_upto_region 14 with (first | ((with_reducible refine gate_callee (f := 17) rfl ?_); refine goesL_ (some 110) rfl rfl Try.func17 (by kernel_rfl) rfl #[.slice Ao34 y246.length co34] rfl (by (try simp only [List.map_toArray, List.map_cons, List.map_nil]); first | done | rfl | (simp only [List.length_drop, List.length_take]; rfl)) ?_; (with_reducible refine (edit_Get.calls kj29 _ _ y246 t250 t251 t252 t253 t254 t257 false _ ?side1 ?side2 A59.out).mono ?_); (case side1 => repeat (first | exact (by repeat (first | (with_reducible exact HR249.out) | (with_reducible refine Kd.C_alloc ?_ _) | (with_reducible refine Kd.C_drewN ?_ _) | (with_reducible refine Kd.C_drew ?_) | exact HR249.out)) | (with_reducible refine Kd.C_alloc ?_ _) | (with_reducible refine Kd.C_drewN ?_ _) | (with_reducible refine Kd.C_drew ?_))); (case side2 => exact HC249.out); rintro e w112 ⟨v255, v258, rfl, ho0, ho1, hb⟩; refine ⟨_, rfl, ?_⟩; have n4_ := Aside0.mk (Kd.R_lower ho0 (below_size (by repeat (first | (with_reducible first | exact HB.out | apply below_alloc | apply pw_below_drewN | apply below_drew1) | exact HB.out | exact Below.refl _ _)))); have n5_ := Aside0.mk (Kd.R_lower ho1 (below_size (by repeat (first | (with_reducible first | exact HB.out | apply below_alloc | apply pw_below_drewN | apply below_drew1) | exact HB.out | exact Below.refl _ _)))); have n8_ := Aside0.mk (below_step (by repeat (first | (with_reducible first | exact HB.out | apply below_alloc | apply pw_below_drewN | apply below_drew1) | exact HB.out | exact Below.refl _ _)) hb); clear HO_19; clear HR249; clear HB; have HO256 := n4_; have HO259 := n5_; have HB := n8_; clear n4_ n5_ n8_; (try clear hb); (try clear hb2); (try clear hk); (try clear hi); (try clear ho0); (try clear ho1)) | ((with_reducible refine gate_dst (N := 24) rfl ?_); (try (refine gate_guard (by rfl) ?_; dsimp only)); refine box_event ?hg (N := 24) ?hd (cs := #[.int .i64 0, .int .i64 0, .int .i64 0, .int .i64 0, .slice none 0 0, .slice none 0 0]) (t := 25) ?hr ?_; (case hd => rfl); (case hg => rfl); (case hr => first | (go_simp; done) | (go_simp; rfl)); intro gb261 hg w113 hbox hb; have n4_ := Aside0.mk (Kd.R_below (by (with_reducible repeat (first | apply Kd.R_alloc | apply Kd.R_drewN | apply Kd.R_drew)); exact HO256.out) hb); have n5_ := Aside0.mk (Kd.R_below (by (with_reducible repeat (first | apply Kd.R_alloc | apply Kd.R_drewN | apply Kd.R_drew)); exact HO259.out) hb); have n8_ := Aside0.mk (below_step (by repeat (first | (with_reducible first | exact HB.out | apply below_alloc | apply pw_below_drewN | apply below_drew1) | exact HB.out | exact Below.refl _ _)) hb); have n9_ := Aside0.mk (hbox); have n11_ := Aside0.mk ((by rw [hg]; exact (below_size (by repeat (first | (with_reducible first | exact HB.out | apply below_alloc | apply pw_below_drewN | apply below_drew1) | exact HB.out | exact Below.refl _ _))) : w.heap.size ≤ gb261)); clear HO256; clear HO259; clear HB; have HO256 := n4_; have HO259 := n5_; have HB := n8_; have BK261 := n9_; have GE261 := n11_; clear n4_ n5_ n8_ n9_ n11_; clear hb hbox hg; obtain ⟨Ao116, co116, eo116⟩ := Kd.R_slice HO256.out; subst eo116; obtain ⟨Ao117, co117, eo117⟩ := Kd.R_slice HO259.out; subst eo117; clear HO256 HO259) | ((with_reducible refine gate_store (t := 25) (p := 24) rfl ?_); refine put6 rfl rfl rfl rfl rfl BK261.out HB.out GE261.out ?_; intro wst24 hB_ hK_ h8_ h31_ h64_; have n0_ := Aside0.mk (hB_); clear HB BK261 hB_ hK_ h8_ h31_ h64_; have HB := n0_; clear n0_))
                      as_aux_lemma =>
                       go_upto_region 15 with (first | ((with_reducible refine gate_callee (f := 17) rfl ?_); refine goesL_ (some 115) rfl rfl Try.func17 (by kernel_rfl) rfl #[.slice A7 l7.length c7] rfl (by (try simp only [List.map_toArray, List.map_cons, List.map_nil]); first | done | rfl | (simp only [List.length_drop, List.length_take]; rfl)) ?_; (with_reducible refine (edit_Get.calls kj29 _ _ l7 t262 t263 t264 t265 t266 t269 false _ ?side1 ?side2 A60.out).mono ?_); (case side1 => exact Kd.C_below HR7.out HB.out); (case side2 => exact HC7.out); rintro e w118 ⟨v267, v270, rfl, ho0, ho1, hb⟩; refine ⟨_, rfl, ?_⟩; have n6_ := Aside0.mk (Kd.R_lower ho0 (below_size (by repeat (first | (with_reducible first | exact HB.out | apply below_alloc | apply pw_below_drewN | apply below_drew1) | exact HB.out | exact Below.refl _ _)))); have n7_ := Aside0.mk (Kd.R_lower ho1 (below_size (by repeat (first | (with_reducible first | exact HB.out | apply below_alloc | apply pw_below_drewN | apply below_drew1) | exact HB.out | exact Below.refl _ _)))); have n10_ := Aside0.mk (below_step (by repeat (first | (with_reducible first | exact HB.out | apply below_alloc | apply pw_below_drewN | apply below_drew1) | exact HB.out | exact Below.refl _ _)) hb); clear HB; have HO268 := n6_; have HO271 := n7_; have HB := n10_; clear n6_ n7_ n10_; (try clear hb); (try clear hb2); (try clear hk); (try clear hi); (try clear ho0); (try clear ho1)) | ((with_reducible refine gate_dst (N := 26) rfl ?_); (try (refine gate_guard (by rfl) ?_; dsimp only)); refine box_event ?hg (N := 26) ?hd (cs := #[.int .i64 0, .int .i64 0, .int .i64 0, .int .i64 0, .slice none 0 0, .slice none 0 0]) (t := 25) ?hr ?_; (case hd => rfl); (case hg => rfl); (case hr => first | (go_simp; done) | (go_simp; rfl)); intro gb273 hg w119 hbox hb; have n6_ := Aside0.mk (Kd.R_below (by (with_reducible repeat (first | apply Kd.R_alloc | apply Kd.R_drewN | apply Kd.R_drew)); exact HO268.out) hb); have n7_ := Aside0.mk (Kd.R_below (by (with_reducible repeat (first | apply Kd.R_alloc | apply Kd.R_drewN | apply Kd.R_drew)); exact HO271.out) hb); have n11_ := Aside0.mk (below_step (by repeat (first | (with_reducible first | exact HB.out | apply below_alloc | apply pw_below_drewN | apply below_drew1) | exact HB.out | exact Below.refl _ _)) hb); have n12_ := Aside0.mk (hbox); have n14_ := Aside0.mk ((by rw [hg]; exact (below_size (by repeat (first | (with_reducible first | exact HB.out | apply below_alloc | apply pw_below_drewN | apply below_drew1) | exact HB.out | exact Below.refl _ _))) : w.heap.size ≤ gb273)); clear HO268; clear HO271; clear HB; have HO268 := n6_; have HO271 := n7_; have HB := n11_; have BK273 := n12_; have GE273 := n14_; clear n6_ n7_ n11_ n12_ n14_; clear hb hbox hg; obtain ⟨Ao123, co123, eo123⟩ := Kd.R_slice HO268.out; subst eo123; obtain ⟨Ao124, co124, eo124⟩ := Kd.R_slice HO271.out; subst eo124) | ((with_reducible refine gate_store (t := 25) (p := 26) rfl ?_); refine put6 rfl rfl rfl rfl rfl BK273.out HB.out GE273.out ?_; intro wst26 hB_ hK_ h8_ h31_ h64_; have n0_ := Aside0.mk (h31_ _ _ _ HO268.out); have n1_ := Aside0.mk (h64_ _ _ _ HO271.out); have n2_ := Aside0.mk (hK_); have n3_ := Aside0.mk (hB_); clear HB BK273 hB_ hK_ h8_ h31_ h64_ HO268 HO271; have HO268 := n0_; have HO271 := n1_; have BK273 := n2_; have HB := n3_; clear n0_ n1_ n2_ n3_))
                       as_aux_lemma =>
                        have n0_ := Aside0.mk (Kd.R_drew HO268.out)
                        have n1_ := Aside0.mk (Kd.R_drew HO271.out)
                        have n2_ := Aside0.mk (blk_drew BK273.out)
                        have n3_ := Aside0.mk (below_drew1 HB.out)
                        clear HO268 HO271 BK273 HB
                        have HO268 := n0_
                        have HO271 := n1_
                        have BK273 := n2_
                        have HB := n3_
                        clear n0_ n1_ n2_ n3_
                        as_aux_lemma =>
                         refine start_ (n := 22) (S := fun w' => True) (ds := []) #[false, false, false, false, false, false, false, false, false, false, false, false, false, false, false, false, false, false, false, false, false, false] (by kernel_rfl) rfl rfl trivial (fun hHeld => ?_); refine with_tabW iceboxlaw17_EditBack.tab15 iceboxlaw17_EditBack.bits15 (fun HT_ HW_ => ?_)
                         generalize wst26.drew = w126 at HO268 HO271 BK273 HB hHeld ⊢
                         refine pure_ (i := 0) (N := some 118) (v := ?_) (a' := ?_) #[true, false, false, false, false, false, false, false, false, false, false, false, false, false, false, false, false, false, false, false, false, false] rfl rfl (any_of HT_.out (by kernel_rfl)) (fun _ _ _ h => h) (Or.inl ⟨by rfl, ?_⟩) ?_ ?_
                         rotate_left
                         ·
                          intro w'
                          go_simp
                          with_reducible rfl
                         rotate_left
                         ·
                          simp only [Act.put, List.setIfInBounds_toArray, List.set_cons_zero, List.set_cons_succ, i64_w, i32_w]
                          rfl
                         refine pure_ (i := 1) (N := some 119) (v := ?_) (a' := ?_) #[true, true, false, false, false, false, false, false, false, false, false, false, false, false, false, false, false, false, false, false, false, false] rfl rfl (any_of HT_.out (by kernel_rfl)) (fun _ _ _ h => h) (Or.inl ⟨by rfl, ?_⟩) ?_ ?_
                         rotate_left
                         ·
                          intro w'
                          go_simp
                          with_reducible rfl
                         rotate_left
                         ·
                          simp only [Act.put, List.setIfInBounds_toArray, List.set_cons_zero, List.set_cons_succ, i64_w, i32_w]
                          rfl
                         refine pure_ (i := 2) (N := some 120) (v := ?_) (a' := ?_) #[true, true, true, false, false, false, false, false, false, false, false, false, false, false, false, false, false, false, false, false, false, false] rfl rfl (any_of HT_.out (by kernel_rfl)) (fun _ _ _ h => h) (Or.inl ⟨by rfl, ?_⟩) ?_ ?_
                         rotate_left
                         ·
                          intro w'
                          go_simp
                          with_reducible rfl
                         rotate_left
                         ·
                          simp only [Act.put, List.setIfInBounds_toArray, List.set_cons_zero, List.set_cons_succ, i64_w, i32_w]
                          rfl
                         refine pure_ (i := 3) (N := some 121) (v := ?_) (a' := ?_) #[true, true, true, true, false, false, false, false, false, false, false, false, false, false, false, false, false, false, false, false, false, false] rfl rfl (any_of HT_.out (by kernel_rfl)) (fun _ _ _ h => h) (Or.inl ⟨by rfl, ?_⟩) ?_ ?_
                         rotate_left
                         ·
                          intro w'
                          go_simp
                          with_reducible rfl
                         rotate_left
                         ·
                          simp only [Act.put, List.setIfInBounds_toArray, List.set_cons_zero, List.set_cons_succ, i64_w, i32_w]
                          rfl
                         refine pure_ (i := 4) (N := some 122) (v := ?_) (a' := ?_) #[true, true, true, true, true, false, false, false, false, false, false, false, false, false, false, false, false, false, false, false, false, false] rfl rfl (any_of HT_.out (by kernel_rfl)) (fun _ _ _ h => h) (Or.inl ⟨by rfl, ?_⟩) ?_ ?_
                         rotate_left
                         ·
                          intro w'
                          go_simp
                          with_reducible rfl
                         rotate_left
                         ·
                          simp only [Act.put, List.setIfInBounds_toArray, List.set_cons_zero, List.set_cons_succ, i64_w, i32_w]
                          rfl
                         as_aux_lemma =>
                          refine pure_ (i := 5) (N := some 123) (v := ?_) (a' := ?_) #[true, true, true, true, true, true, false, false, false, false, false, false, false, false, false, false, false, false, false, false, false, false] rfl rfl (any_of HT_.out (by kernel_rfl)) (fun _ _ _ h => h) (Or.inl ⟨by rfl, ?_⟩) ?_ ?_
                          rotate_left
                          ·
                           intro w'
                           go_simp
                           with_reducible rfl
                          rotate_left
                          ·
                           simp only [Act.put, List.setIfInBounds_toArray, List.set_cons_zero, List.set_cons_succ, i64_w, i32_w]
                           rfl
                          refine pure_ (i := 6) (N := some 124) (v := ?_) (a' := ?_) #[true, true, true, true, true, true, true, false, false, false, false, false, false, false, false, false, false, false, false, false, false, false] rfl rfl (any_of HT_.out (by kernel_rfl)) (fun _ _ _ h => h) (Or.inl ⟨by rfl, ?_⟩) ?_ ?_
                          rotate_left
                          ·
                           intro w'
                           go_simp
                           with_reducible rfl
                          rotate_left
                          ·
                           simp only [Act.put, List.setIfInBounds_toArray, List.set_cons_zero, List.set_cons_succ, i64_w, i32_w]
                           rfl
                          refine pure_ (i := 7) (N := some 125) (v := ?_) (a' := ?_) #[true, true, true, true, true, true, true, true, false, false, false, false, false, false, false, false, false, false, false, false, false, false] rfl rfl (any_of HT_.out (by kernel_rfl)) (fun _ _ _ h => h) (Or.inl ⟨by rfl, ?_⟩) ?_ ?_
                          rotate_left
                          ·
                           intro w'
                           go_simp
                           with_reducible rfl
                          rotate_left
                          ·
                           simp only [Act.put, List.setIfInBounds_toArray, List.set_cons_zero, List.set_cons_succ, i64_w, i32_w]
                           rfl
                          refine pure_ (i := 8) (N := some 126) (v := ?_) (a' := ?_) #[true, true, true, true, true, true, true, true, true, false, false, false, false, false, false, false, false, false, false, false, false, false] rfl rfl (any_of HT_.out (by kernel_rfl)) (fun _ _ _ h => h) (Or.inl ⟨by rfl, ?_⟩) ?_ ?_
                          rotate_left
                          ·
                           intro w'
                           go_simp
                           with_reducible rfl
                          rotate_left
                          ·
                           simp only [Act.put, List.setIfInBounds_toArray, List.set_cons_zero, List.set_cons_succ, i64_w, i32_w]
                           rfl
                          refine pure_ (i := 9) (N := some 127) (v := ?_) (a' := ?_) #[true, true, true, true, true, true, true, true, true, true, false, false, false, false, false, false, false, false, false, false, false, false] rfl rfl (any_of HT_.out (by kernel_rfl)) (fun _ _ _ h => h) (Or.inl ⟨by rfl, ?_⟩) ?_ ?_
                          rotate_left
                          ·
                           intro w'
                           go_simp
                           with_reducible rfl
                          rotate_left
                          ·
                           simp only [Act.put, List.setIfInBounds_toArray, List.set_cons_zero, List.set_cons_succ, i64_w, i32_w]
                           rfl
                          refine pure_ (i := 10) (N := some 128) (v := undef) (a' := ?_) #[true, true, true, true, true, true, true, true, true, true, true, false, false, false, false, false, false, false, false, false, false, false] rfl rfl (any_of HT_.out (by kernel_rfl)) (fun _ _ _ h => h) (Or.inr ⟨by rfl, rfl⟩) ?_ ?_
                          rotate_left
                          ·
                           simp only [Act.put, List.setIfInBounds_toArray, List.set_cons_zero, List.set_cons_succ, i64_w, i32_w]
                           rfl
                          as_aux_lemma =>
                           refine pure_ (i := 11) (N := some 129) (v := undef) (a' := ?_) #[true, true, true, true, true, true, true, true, true, true, true, true, false, false, false, false, false, false, false, false, false, false] rfl rfl (any_of HT_.out (by kernel_rfl)) (fun _ _ _ h => h) (Or.inr ⟨by rfl, rfl⟩) ?_ ?_
                           rotate_left
                           ·
                            simp only [Act.put, List.setIfInBounds_toArray, List.set_cons_zero, List.set_cons_succ, i64_w, i32_w]
                            rfl
                           refine pure_ (i := 12) (N := some 130) (v := undef) (a' := ?_) #[true, true, true, true, true, true, true, true, true, true, true, true, true, false, false, false, false, false, false, false, false, false] rfl rfl (any_of HT_.out (by kernel_rfl)) (fun _ _ _ h => h) (Or.inr ⟨by rfl, rfl⟩) ?_ ?_
                           rotate_left
                           ·
                            simp only [Act.put, List.setIfInBounds_toArray, List.set_cons_zero, List.set_cons_succ, i64_w, i32_w]
                            rfl
                           refine pure_ (i := 13) (N := some 131) (v := undef) (a' := ?_) #[true, true, true, true, true, true, true, true, true, true, true, true, true, true, false, false, false, false, false, false, false, false] rfl rfl (any_of HT_.out (by kernel_rfl)) (fun _ _ _ h => h) (Or.inr ⟨by rfl, rfl⟩) ?_ ?_
                           rotate_left
                           ·
                            simp only [Act.put, List.setIfInBounds_toArray, List.set_cons_zero, List.set_cons_succ, i64_w, i32_w]
                            rfl
                           refine pure_ (i := 14) (N := some 132) (v := undef) (a' := ?_) #[true, true, true, true, true, true, true, true, true, true, true, true, true, true, true, false, false, false, false, false, false, false] rfl rfl (any_of HT_.out (by kernel_rfl)) (fun _ _ _ h => h) (Or.inr ⟨by rfl, rfl⟩) ?_ ?_
                           rotate_left
                           ·
                            simp only [Act.put, List.setIfInBounds_toArray, List.set_cons_zero, List.set_cons_succ, i64_w, i32_w]
                            rfl
                           refine pure_ (i := 15) (N := some 133) (v := undef) (a' := ?_) #[true, true, true, true, true, true, true, true, true, true, true, true, true, true, true, true, false, false, false, false, false, false] rfl rfl (any_of HT_.out (by kernel_rfl)) (fun _ _ _ h => h) (Or.inr ⟨by rfl, rfl⟩) ?_ ?_
                           rotate_left
                           ·
                            simp only [Act.put, List.setIfInBounds_toArray, List.set_cons_zero, List.set_cons_succ, i64_w, i32_w]
                            rfl
                           refine pure_ (i := 16) (N := some 134) (v := ?_) (a' := ?_) #[true, true, true, true, true, true, true, true, true, true, true, true, true, true, true, true, true, false, false, false, false, false] rfl rfl (any_of HT_.out (by kernel_rfl)) (fun _ _ _ h => h) (Or.inl ⟨by rfl, ?_⟩) ?_ ?_
                           rotate_left
                           ·
                            intro w'
                            go_simp
                            with_reducible rfl
                           rotate_left
                           ·
                            simp only [Act.put, List.setIfInBounds_toArray, List.set_cons_zero, List.set_cons_succ, i64_w, i32_w]
                            rfl
                           as_aux_lemma =>
                            refine pure_ (i := 17) (N := some 135) (v := ?_) (a' := ?_) #[true, true, true, true, true, true, true, true, true, true, true, true, true, true, true, true, true, true, false, false, false, false] rfl rfl (any_of HT_.out (by kernel_rfl)) (fun _ _ _ h => h) (Or.inl ⟨by rfl, ?_⟩) ?_ ?_
                            rotate_left
                            ·
                             intro w'
                             go_simp
                             with_reducible rfl
                            rotate_left
                            ·
                             simp only [Act.put, List.setIfInBounds_toArray, List.set_cons_zero, List.set_cons_succ, i64_w, i32_w]
                             rfl
                            refine pure_ (i := 18) (N := some 136) (v := ?_) (a' := ?_) #[true, true, true, true, true, true, true, true, true, true, true, true, true, true, true, true, true, true, true, false, false, false] rfl rfl (any_of HT_.out (by kernel_rfl)) (fun _ _ _ h => h) (Or.inl ⟨by rfl, ?_⟩) ?_ ?_
                            rotate_left
                            ·
                             intro w'
                             go_simp
                             with_reducible rfl
                            rotate_left
                            ·
                             simp only [Act.put, List.setIfInBounds_toArray, List.set_cons_zero, List.set_cons_succ, i64_w, i32_w]
                             rfl
                            refine one_ (i := 19) (N := some 137) #[true, true, true, true, true, true, true, true, true, true, true, true, true, true, true, true, true, true, true, true, false, false] rfl rfl (one_of HT_.out (by kernel_rfl)) (by decide) (fun K hK => ?_)
                            refine goes_ Try.func14 (by kernel_rfl) rfl #[] (by rfl) rfl rfl (by (try simp only [List.map_toArray, List.map_cons, List.map_nil]); first | done | rfl | (simp only [List.length_drop, List.length_take]; rfl)) ?_
                            with_reducible refine (iceboxlaw17_awake.calls kj29  t278 _ A99.out).mono ?_
                            rintro e w127 ⟨rfl, hb⟩
                            refine ⟨_, rfl, ?_⟩
                            have n6_ := Aside0.mk (Kd.R_below (by (with_reducible repeat (first | apply Kd.R_alloc | apply Kd.R_drewN | apply Kd.R_drew)); exact HO268.out) hb)
                            have n7_ := Aside0.mk (Kd.R_below (by (with_reducible repeat (first | apply Kd.R_alloc | apply Kd.R_drewN | apply Kd.R_drew)); exact HO271.out) hb)
                            have n10_ := Aside0.mk (blk_below (g := gb273) (o := .cells #[.int .i64 t262, .int .i64 t263, .int .i64 t264, .int .i64 t265, .slice Ao123 t266.length co123, .slice Ao124 t269.length co124] 25 (0, 0)) (by (with_reducible repeat (first | refine blk_drewN ?_ _ | refine blk_drew ?_ | refine blk_alloc ?_ _)); exact BK273.out) hb)
                            have n11_ := Aside0.mk (below_step (by repeat (first | (with_reducible first | exact HB.out | apply below_alloc | apply pw_below_drewN | apply below_drew1 | refine below_set ?_ GE273.out) | exact HB.out | exact Below.refl _ _)) hb)
                            clear HO268
                            clear HO271
                            clear BK273
                            clear HB
                            have HO268 := n6_
                            have HO271 := n7_
                            have BK273 := n10_
                            have HB := n11_
                            clear n6_ n7_ n10_ n11_
                            (try clear hb)
                            refine hK.out _ _ trivial (fun hHeld => ?_)
                            clear hK K
                            refine norm_ (a' := ?_) ?_ ?_
                            rotate_left
                            ·
                             show Act.put _ (some 137) _ = _
                             simp only [Act.put, List.setIfInBounds_toArray, List.set_cons_zero, List.set_cons_succ, i64_w, i32_w]
                             rfl
                            refine pure_ (i := 20) (N := some 138) (v := ?_) (a' := ?_) #[true, true, true, true, true, true, true, true, true, true, true, true, true, true, true, true, true, true, true, true, true, false] rfl rfl (any_of HT_.out (by kernel_rfl)) (fun _ _ _ h => h) (Or.inl ⟨by rfl, ?_⟩) ?_ ?_
                            rotate_left
                            ·
                             intro w'
                             go_simp
                             with_reducible rfl
                            rotate_left
                            ·
                             simp only [Act.put, List.setIfInBounds_toArray, List.set_cons_zero, List.set_cons_succ, i64_w, i32_w]
                             rfl
                            refine pure_ (i := 21) (N := some 16) (v := ?_) (a' := ?_) #[true, true, true, true, true, true, true, true, true, true, true, true, true, true, true, true, true, true, true, true, true, true] rfl rfl (any_of HT_.out (by kernel_rfl)) (fun _ _ _ h => h) (Or.inl ⟨by rfl, ?_⟩) ?_ ?_
                            rotate_left
                            ·
                             intro w'
                             go_simp
                             with_reducible rfl
                            rotate_left
                            ·
                             simp only [Act.put, List.setIfInBounds_toArray, List.set_cons_zero, List.set_cons_succ, i64_w, i32_w]
                             rfl
                            as_aux_lemma =>
                             refine done_ (done_of HT_.out (by kernel_rfl)) ?_
                             try go_wp2
                             go_ret
                             exact ⟨by first | rfl | (simp [errW_none, errW_some] <;> rfl) | (simp only [← hji56]; first | rfl | (simp [errW_none, errW_some] <;> rfl)) | (simp [*, errW_none, errW_some] <;> rfl), by repeat (first | (with_reducible first | exact HB.out | apply below_alloc | apply pw_below_drewN | apply below_drew1 | refine below_set ?_ GE273.out) | exact HB.out | exact Below.refl _ _)⟩
                ·
                 rw [if_neg c58] at H
                 exact absurd H (by simp)
               ·
                rw [if_neg c57] at H
                exact absurd H (by simp)
              ·
               rw [if_neg c54] at H
               exact absurd H (by simp)
             ·
              rw [if_neg c53] at H
              exact absurd H (by simp)

/-- THE ONE PURE STATEMENT of iceboxlaw17_EditBack: yours. -/
def iceboxlaw17_EditBack.Pure : Prop := ∀ (l0 : List Int) (l1 : List Int) (a2 : Int) (a3 : Int) (a4 : Int) (a5 : Int) (l6 : List Int) (l7 : List Int), l0.length ≤ maxLen → l0.length * 1 ≤ 140737488351232 → (∀ x ∈ l0, (Lit.int .u8 x).wf = true) → l1.length ≤ maxLen → l1.length * 4 ≤ 140737488351232 → (∀ x ∈ l1, (Lit.int .u32 x).wf = true) → (Lit.int .u32 a2).wf = true → (Lit.int .u32 a3).wf = true → (Lit.int .u32 a4).wf = true → (Lit.int .u32 a5).wf = true → l6.length ≤ maxLen → l6.length * 1 ≤ 140737488351232 → (∀ x ∈ l6, (Lit.int .u8 x).wf = true) → l7.length ≤ maxLen → l7.length * 1 ≤ 140737488351232 → (∀ x ∈ l7, (Lit.int .u8 x).wf = true) → ∃ k, iceboxlaw17_EditBack.f k l0 l1 a2 a3 a4 a5 l6 l7 = some true
theorem iceboxlaw17_EditBack.walk (P : iceboxlaw17_EditBack.Pure) (a0 : Option Addr) (len0 cap0 : Nat) (z0 : List Int) (a1 : Option Addr) (len1 cap1 : Nat) (z1 : List Int) (a2 : Int) (a3 : Int) (a4 : Int) (a5 : Int) (a6 : Option Addr) (len6 cap6 : Nat) (z6 : List Int) (a7 : Option Addr) (len7 cap7 : Nat) (z7 : List Int) (w : World) (w0 : (a0 = none ∧ len0 = 0 ∧ cap0 = 0 ∧ z0 = []) ∨ ∃ x, a0 = some x ∧ len0 ≤ cap0 ∧ cap0 ≤ maxLen ∧ z0.length = cap0 ∧ (∀ i, i < z0.length → w.cell? (x.add i) = some (.int .u8 (z0.getD i 0))) ∧ ∀ n ∈ z0, (Lit.int .u8 n).wf = true) (y0 : len0 * 1 ≤ 140737488351232) (w1 : (a1 = none ∧ len1 = 0 ∧ cap1 = 0 ∧ z1 = []) ∨ ∃ x, a1 = some x ∧ len1 ≤ cap1 ∧ cap1 ≤ maxLen ∧ z1.length = cap1 ∧ (∀ i, i < z1.length → w.cell? (x.add i) = some (.int .u32 (z1.getD i 0))) ∧ ∀ n ∈ z1, (Lit.int .u32 n).wf = true) (y1 : len1 * 4 ≤ 140737488351232) (w2 : (Lit.int .u32 a2).wf = true) (w3 : (Lit.int .u32 a3).wf = true) (w4 : (Lit.int .u32 a4).wf = true) (w5 : (Lit.int .u32 a5).wf = true) (w6 : (a6 = none ∧ len6 = 0 ∧ cap6 = 0 ∧ z6 = []) ∨ ∃ x, a6 = some x ∧ len6 ≤ cap6 ∧ cap6 ≤ maxLen ∧ z6.length = cap6 ∧ (∀ i, i < z6.length → w.cell? (x.add i) = some (.int .u8 (z6.getD i 0))) ∧ ∀ n ∈ z6, (Lit.int .u8 n).wf = true) (y6 : len6 * 1 ≤ 140737488351232) (w7 : (a7 = none ∧ len7 = 0 ∧ cap7 = 0 ∧ z7 = []) ∨ ∃ x, a7 = some x ∧ len7 ≤ cap7 ∧ cap7 ≤ maxLen ∧ z7.length = cap7 ∧ (∀ i, i < z7.length → w.cell? (x.add i) = some (.int .u8 (z7.getD i 0))) ∧ ∀ n ∈ z7, (Lit.int .u8 n).wf = true) (y7 : len7 * 1 ≤ 140737488351232) :
 Calls Try.prog 4 #[.slice a0 len0 cap0, .slice a1 len1 cap1, .int .u32 a2, .int .u32 a3, .int .u32 a4, .int .u32 a5, .slice a6 len6 cap6, .slice a7 len7 cap7] w fun e w' => e = .returned (.bool true) ∧ Below w.heap.size w w' := by
 obtain ⟨l0, rfl, hr0, hm0, hw0, hc0⟩ := ReadsInt.ofRowC w0
 obtain ⟨l1, rfl, hr1, hm1, hw1, hc1⟩ := ReadsInt.ofRowC w1
 obtain ⟨l6, rfl, hr6, hm6, hw6, hc6⟩ := ReadsInt.ofRowC w6
 obtain ⟨l7, rfl, hr7, hm7, hw7, hc7⟩ := ReadsInt.ofRowC w7
 obtain ⟨k, h⟩ := P l0 l1 a2 a3 a4 a5 l6 l7 hm0 y0 hw0 hm1 y1 hw1 w2 w3 w4 w5 hm6 y6 hw6 hm7 y7 hw7
 refine (iceboxlaw17_EditBack.calls k _ _ l0 _ _ l1 a2 a3 a4 a5 _ _ l6 _ _ l7 true w ⟨rfl⟩ (Kd.C_of_reads (d := (0 : Int)) (h1 := fun _ => rfl) hr0) hc0 (Kd.C_of_reads (d := (0 : Int)) (h1 := fun _ => rfl) hr1) hc1 (Kd.C_of_reads (d := (0 : Int)) (h1 := fun _ => rfl) hr6) hc6 (Kd.C_of_reads (d := (0 : Int)) (h1 := fun _ => rfl) hr7) hc7 h).mono ?_
 rintro e w' ⟨rfl, hd⟩
 exact ⟨rfl, hd⟩

end Go.Proofs.Ytffnimaaolmbdaa.PEditBack
