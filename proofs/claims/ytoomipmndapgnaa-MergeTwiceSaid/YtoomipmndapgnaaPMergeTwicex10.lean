/- The functions that a law reaches, as Lean functions, each with the contract that its Go code comes to just these answers. Written by a program of this claim's author (wip/mkprint.py). No conditions. -/
import Derived.Test.YtoomipmndapgnaaPMergeTwicex0
import Derived.Test.YtoomipmndapgnaaPMergeTwicex2
import Derived.Test.YtoomipmndapgnaaPMergeTwicex3
import Derived.Test.YtoomipmndapgnaaPMergeTwicex8
import Derived.Test.YtoomipmndapgnaaPMergeTwicex9
namespace Go.Proofs.Ytoomipmndapgnaa.PMergeTwice
open Go.RowKit Go.Proofs.YtoomipmndapgnaaW.PrintWords Go.Proofs.YtoomipmndapgnaaW.PrintLast Go.Proofs.YtoomipmndapgnaaW.PrintMore
attribute [local go_sem] max2_int min2_int max_two min_two max_three min_three max_four min_four   -- for this text's walks alone
set_option linter.unusedVariables false
set_option linter.unusedSimpArgs false

/-! ### iceboxlaw15_MergeTwice: function 9 -/
theorem rows_lit (W : World) (vals : List Value) (xs : List (List S31)) (hl : vals.length = xs.length) (hb : xs.length ≤ 1000)
 (h : ∀ (j : Nat) (L : List S31), xs[j]? = some L → ∃ A c, vals[j]? = some (Value.slice A L.length c) ∧ L.length ≤ c ∧ Kd.C k31 W A L.length L) :
 Kd.C (Kd.slice 31 k31) (W.alloc (.cells vals.toArray 24)) (some ⟨W.heap.size, 0, none⟩) xs.length xs := by
 refine ⟨rfl, by omega, fun _ => ⟨⟨W.heap.size, 0, none⟩, rfl, fun j p hp => ?_⟩⟩
 obtain ⟨A, c, h1, h2, h3⟩ := h j p hp
 refine ⟨[.slice A p.length c], rfl, ⟨A, c, rfl, h2, Kd.C_below h3 (below_alloc (Below.refl _ _) _)⟩, fun i u hu => ?_⟩
 cases i with
 | succ i => simp at hu
 | zero =>
  simp only [List.getElem?_cons_zero, Option.some.injEq] at hu
  subst hu
  rw [add_plain]
  have := blk_cell (heap_alloc_new W (.cells vals.toArray 24)) (j * 1 + 0)
  rw [show (Kd.slice 31 k31).sz = 1 from rfl, this]
  simpa using h1
theorem row_one (W : World) (e : S31) : Kd.C k31 (W.alloc (.cells #[.string e.f0.f0, .int .i64 e.f0.f1, .int .i64 e.f0.f2, .string e.f1] 31)) (some ⟨W.heap.size, 0, none⟩) 1 [e] := by
 refine ⟨rfl, by decide, fun _ => ⟨⟨W.heap.size, 0, none⟩, rfl, fun j p hp => ?_⟩⟩
 cases j with
 | succ j => simp at hp
 | zero =>
  simp only [List.getElem?_cons_zero, Option.some.injEq] at hp
  subst hp
  refine ⟨_, rfl, k31_mk _ e, fun i u hu => ?_⟩
  rw [add_plain]
  have := blk_cell (heap_alloc_new W (.cells #[.string e.f0.f0, .int .i64 e.f0.f1, .int .i64 e.f0.f2, .string e.f1] 31)) (0 * k31.sz + i)
  rw [this]
  simpa using hu
theorem merge_one (k : Nat) (A0 : Option Addr) (L m : List S31) (w : World) (hC : Kd.C (Kd.slice 31 k31) w A0 1 [L]) (h : merge_Merge.f k [L] = some m) :
 Calls Try.prog 23 #[.slice A0 1 1] w fun e w' => ∃ v0_ : Value, e = .returned (v0_) ∧ Kd.R k31 31 w' w.heap.size (fun _ => True) v0_ m ∧ Below w.heap.size w w' :=
 merge_Merge.calls k A0 1 [L] m w hC (Nat.le_refl 1) h
theorem merge_two (k : Nat) (A0 : Option Addr) (L L2 m : List S31) (w : World) (hC : Kd.C (Kd.slice 31 k31) w A0 2 [L, L2]) (h : merge_Merge.f k [L, L2] = some m) :
 Calls Try.prog 23 #[.slice A0 2 2] w fun e w' => ∃ v0_ : Value, e = .returned (v0_) ∧ Kd.R k31 31 w' w.heap.size (fun _ => True) v0_ m ∧ Below w.heap.size w w' :=
 merge_Merge.calls k A0 2 [L, L2] m w hC (Nat.le_refl 2) h
theorem merge_three (k : Nat) (A0 : Option Addr) (L L2 L3 m : List S31) (w : World) (hC : Kd.C (Kd.slice 31 k31) w A0 3 [L, L2, L3]) (h : merge_Merge.f k [L, L2, L3] = some m) :
 Calls Try.prog 23 #[.slice A0 3 3] w fun e w' => ∃ v0_ : Value, e = .returned (v0_) ∧ Kd.R k31 31 w' w.heap.size (fun _ => True) v0_ m ∧ Below w.heap.size w w' :=
 merge_Merge.calls k A0 3 [L, L2, L3] m w hC (Nat.le_refl 3) h
theorem get_one {α : Type} {L : α} {P : Nat → α → Prop} (h : P 0 L) : ∀ (j : Nat) (x : α), ([L] : List α)[j]? = some x → P j x := by
 intro j x hj
 match j, hj with
 | 0, hj => simp only [List.getElem?_cons_zero, Option.some.injEq] at hj; subst hj; exact h
theorem get_two {α : Type} {L L2 : α} {P : Nat → α → Prop} (h : P 0 L) (h2 : P 1 L2) : ∀ (j : Nat) (x : α), ([L, L2] : List α)[j]? = some x → P j x := by
 intro j x hj
 match j, hj with
 | 0, hj => simp only [List.getElem?_cons_zero, Option.some.injEq] at hj; subst hj; exact h
 | 1, hj => simp only [List.getElem?_cons_succ, List.getElem?_cons_zero, Option.some.injEq] at hj; subst hj; exact h2
theorem get_three {α : Type} {L L2 L3 : α} {P : Nat → α → Prop} (h : P 0 L) (h2 : P 1 L2) (h3 : P 2 L3) : ∀ (j : Nat) (x : α), ([L, L2, L3] : List α)[j]? = some x → P j x := by
 intro j x hj
 match j, hj with
 | 0, hj => simp only [List.getElem?_cons_zero, Option.some.injEq] at hj; subst hj; exact h
 | 1, hj => simp only [List.getElem?_cons_succ, List.getElem?_cons_zero, Option.some.injEq] at hj; subst hj; exact h2
 | 2, hj => simp only [List.getElem?_cons_succ, List.getElem?_cons_zero, Option.some.injEq] at hj; subst hj; exact h3
def zzE (v : ByteArray) : S31 := ⟨⟨(⟨#[122, 122]⟩ : ByteArray), 5, 1⟩, v⟩
theorem sz_alloc1 (w : World) (o : Obj) : (w.alloc o).heap.size = w.heap.size + 1 := Array.size_push ..
theorem three_fact (w2 : World) (A1 : Option Addr) (c1 : Nat) (L : List S31) (a1 a2 : ByteArray) (h1 : L.length ≤ c1) (hC : Kd.C k31 w2 A1 L.length L) :
 Kd.C (Kd.slice 31 k31) ((((w2.alloc (.cells #[.string (⟨#[122, 122]⟩ : ByteArray), .int .i64 5, .int .i64 1] 29)).alloc (.cells #[.string (⟨#[122, 122]⟩ : ByteArray), .int .i64 5, .int .i64 1, .string a1] 31)).alloc (.cells #[.string (⟨#[122, 122]⟩ : ByteArray), .int .i64 5, .int .i64 1, .string a2] 31)).alloc (.cells #[.slice (some ⟨w2.heap.size + 1, 0, none⟩) 1 1, .slice A1 L.length c1, .slice (some ⟨w2.heap.size + 1 + 1, 0, none⟩) 1 1] 24)) (some ⟨w2.heap.size + 1 + 1 + 1, 0, none⟩) 3 [[zzE a1], L, [zzE a2]] := by
 have e1 : (w2.alloc (.cells #[.string (⟨#[122, 122]⟩ : ByteArray), .int .i64 5, .int .i64 1] 29)).heap.size = w2.heap.size + 1 := sz_alloc1 ..
 have r1 := row_one (w2.alloc (.cells #[.string (⟨#[122, 122]⟩ : ByteArray), .int .i64 5, .int .i64 1] 29)) (zzE a1)
 have e2 : ((w2.alloc (.cells #[.string (⟨#[122, 122]⟩ : ByteArray), .int .i64 5, .int .i64 1] 29)).alloc (.cells #[.string (⟨#[122, 122]⟩ : ByteArray), .int .i64 5, .int .i64 1, .string a1] 31)).heap.size = w2.heap.size + 1 + 1 := by rw [sz_alloc1, e1]
 have r2 := row_one ((w2.alloc (.cells #[.string (⟨#[122, 122]⟩ : ByteArray), .int .i64 5, .int .i64 1] 29)).alloc (.cells #[.string (⟨#[122, 122]⟩ : ByteArray), .int .i64 5, .int .i64 1, .string a1] 31)) (zzE a2)
 rw [e1] at r1
 rw [e2] at r2
 have h := rows_lit (((w2.alloc (.cells #[.string (⟨#[122, 122]⟩ : ByteArray), .int .i64 5, .int .i64 1] 29)).alloc (.cells #[.string (⟨#[122, 122]⟩ : ByteArray), .int .i64 5, .int .i64 1, .string a1] 31)).alloc (.cells #[.string (⟨#[122, 122]⟩ : ByteArray), .int .i64 5, .int .i64 1, .string a2] 31)) [.slice (some ⟨w2.heap.size + 1, 0, none⟩) 1 1, .slice A1 L.length c1, .slice (some ⟨w2.heap.size + 1 + 1, 0, none⟩) 1 1] [[zzE a1], L, [zzE a2]] rfl (by simp)
  (get_three ⟨_, _, rfl, Nat.le_refl 1, Kd.C_below r1 (below_alloc (Below.refl _ _) _)⟩ ⟨A1, c1, rfl, h1, Kd.C_below hC (below_alloc (below_alloc (below_alloc (Below.refl _ _) _) _) _)⟩ ⟨_, _, rfl, Nat.le_refl 1, r2⟩)
 rw [sz_alloc1, e2] at h
 exact h
def iceboxlaw15_MergeTwice.f (k : Nat) (l0 : List Int) (a1 : ByteArray) (a2 : ByteArray) : Option Bool :=
 if (l0.length : Int) > 60 then iceboxlaw15_awake.f k else (if (a1.size : Int) > 100 then iceboxlaw15_awake.f k else (if (a2.size : Int) > 100 then iceboxlaw15_awake.f k else
  ((iceboxlaw12_Make.f k l0 20).bind fun L => if L.length ≤ 1000 then ((merge_Merge.f k [L, L]).bind fun m => ((merge_Merge.f k [[zzE a1], L, [zzE a2]]).bind fun x => ((iceboxref1_SameEntries.f k m L).bind fun t1 => if t1 = true then ((merge_Merge.f k [m]).bind fun m2 => ((iceboxref1_SameEntries.f k m2 m).bind fun t2 => if t2 = true then (if x.length = L.length + 1 ∧ (rd_T31 x (L.length : Int)).f1.toList = a1.toList then iceboxlaw15_awake.f k else some false) else some false)) else some false))) else none)))
set_option maxHeartbeats 4000000 in
set_option maxRecDepth 100000 in
theorem iceboxlaw15_MergeTwice.calls (k : Nat) (A0 : Option Addr) (c0 : Nat) (l0 : List Int) (a1 : ByteArray) (a2 : ByteArray) (r : Bool) (w : World) (hR_ : Aside0 (r = true)) (hr0 : Kd.C (Kd.int .u8) w A0 l0.length l0) (hc0 : l0.length ≤ c0) (h : iceboxlaw15_MergeTwice.f k l0 a1 a2 = some r) :
 Calls Try.prog 9 #[.slice A0 l0.length c0, .string a1, .string a2] w fun e w' => e = .returned (.bool r) ∧ Below w.heap.size w w' := by
 have hu31 := Try.underlying31
 have hu29 := Try.underlying29
 have HR0 := Aside0.mk hr0
 have HC0 := Aside0.mk hc0
 unfold iceboxlaw15_MergeTwice.f at h
 by_cases g1 : (l0.length : Int) > 60
 ·
  rw [if_pos g1] at h
  have d1 : decide (60 < (l0.length : Int)) = true := decide_eq_true g1
  have d1' : decide (60 < l0.length) = true := decide_eq_true (by omega)
  have H := Aside0.mk h
  clear h hr0 hc0 g1
  go_enter Try.func9, Try.ntmps9
  go_wp2_with (first | (go_at_call 21; (with_reducible refine (iceboxlaw15_awake.calls k r _ H.out).mono ?_); rintro e w1 ⟨rfl, hb1⟩; have B1 := Aside0.mk hb1; clear hb1))
  go_ret
  exact ⟨rfl, B1.out⟩
 rw [if_neg g1] at h
 have d1 : decide (60 < (l0.length : Int)) = false := decide_eq_false g1
 have d1' : decide (60 < l0.length) = false := decide_eq_false (by omega)
 by_cases g2 : (a1.size : Int) > 100
 ·
  rw [if_pos g2] at h
  have d2 : decide (100 < (a1.size : Int)) = true := decide_eq_true g2
  have d2' : decide (100 < a1.size) = true := decide_eq_true (by omega)
  have H := Aside0.mk h
  clear h hr0 hc0 g1 g2
  go_enter Try.func9, Try.ntmps9
  go_wp2_with (first | (go_at_call 21; (with_reducible refine (iceboxlaw15_awake.calls k r _ H.out).mono ?_); rintro e w1 ⟨rfl, hb1⟩; have B1 := Aside0.mk hb1; clear hb1))
  go_ret
  exact ⟨rfl, B1.out⟩
 rw [if_neg g2] at h
 have d2 : decide (100 < (a1.size : Int)) = false := decide_eq_false g2
 have d2' : decide (100 < a1.size) = false := decide_eq_false (by omega)
 by_cases g3 : (a2.size : Int) > 100
 ·
  rw [if_pos g3] at h
  have d3 : decide (100 < (a2.size : Int)) = true := decide_eq_true g3
  have d3' : decide (100 < a2.size) = true := decide_eq_true (by omega)
  have H := Aside0.mk h
  clear h hr0 hc0 g1 g2 g3
  go_enter Try.func9, Try.ntmps9
  go_wp2_with (first | (go_at_call 21; (with_reducible refine (iceboxlaw15_awake.calls k r _ H.out).mono ?_); rintro e w1 ⟨rfl, hb1⟩; have B1 := Aside0.mk hb1; clear hb1))
  go_ret
  exact ⟨rfl, B1.out⟩
 rw [if_neg g3] at h
 have d3 : decide (100 < (a2.size : Int)) = false := decide_eq_false g3
 have d3' : decide (100 < a2.size) = false := decide_eq_false (by omega)
 replace h := Option.bind_eq_some_iff.mp h; obtain ⟨L, eL, h⟩ := h
 by_cases g4 : L.length ≤ 1000
 case neg => rw [if_neg g4] at h; exact absurd h (by simp)
 rw [if_pos g4] at h
 replace h := Option.bind_eq_some_iff.mp h; obtain ⟨m, em, h⟩ := h
 replace h := Option.bind_eq_some_iff.mp h; obtain ⟨x, ex, h⟩ := h
 replace h := Option.bind_eq_some_iff.mp h; obtain ⟨t1, e1, h⟩ := h
 have hr := hR_.out
 subst hr
 cases t1 with
 | false => rw [if_neg Bool.false_ne_true] at h; cases h
 | true =>
 rw [if_pos rfl] at h
 replace h := Option.bind_eq_some_iff.mp h; obtain ⟨m2, em2, h⟩ := h
 replace h := Option.bind_eq_some_iff.mp h; obtain ⟨t2, e2, h⟩ := h
 cases t2 with
 | false => rw [if_neg Bool.false_ne_true] at h; cases h
 | true =>
 rw [if_pos rfl] at h
 by_cases g5 : x.length = L.length + 1 ∧ (rd_T31 x (L.length : Int)).f1.toList = a1.toList
 case neg => rw [if_neg g5] at h; cases h
 rw [if_pos g5] at h
 have HL := Aside0.mk eL
 have HM := Aside0.mk em
 have HX := Aside0.mk ex
 have H1 := Aside0.mk e1
 have HM2 := Aside0.mk em2
 have H2 := Aside0.mk e2
 have HA := Aside0.mk h
 have G5 := Aside0.mk g5
 have g4' : (L.length : Int) ≤ 1000 := by omega
 clear eL em ex e1 em2 e2 h g5 hr0 hc0 g1 g2 g3 hR_
 have xb0 : ((x.length : Int) == (L.length : Int) + 1) = true := beq_iff_eq.mpr (by have := G5.out.1; omega)
 have xb1 : (L.length : Int) < (x.length : Int) := by have := G5.out.1; omega
 have xb2 : (x.length : Int) = (L.length : Int) + 1 := by have := G5.out.1; omega
 have xb3 : ((rd_T31 x (L.length : Int)).f1.toList == a1.toList) = true := beq_iff_eq.mpr G5.out.2
 go_enter Try.func9, Try.ntmps9
 go_wp2_with (first
  | (go_at_call 15; (with_reducible refine (iceboxlaw12_Make.calls k _ _ l0 20 L _ ?sa ?sb HL.out).mono ?_); (case sa => exact HR0.out); (case sb => exact HC0.out); rintro e w1 ⟨v1, rfl, ho1, hb1⟩; obtain ⟨A1, c1, rfl, hc1, hC1⟩ := Kd.R_reads ho1; have B1 := Aside0.mk hb1; have C1 := Aside0.mk hC1; have L1 := Aside0.mk hc1; clear ho1 hb1 hC1 hc1)
  | (go_at_call 23; (with_reducible refine (merge_two k _ L L m _ ?sa HM.out).mono ?_); (case sa => exact rows_lit w1 [_, _] [L, L] rfl (by simp) (get_two ⟨A1, c1, rfl, L1.out, C1.out⟩ ⟨A1, c1, rfl, L1.out, C1.out⟩)); rintro e w2 ⟨v2, rfl, ho2, hb2⟩; obtain ⟨A2, c2, rfl, hc2, hC2⟩ := Kd.R_reads ho2; have B2 := Aside0.mk (below_step (below_alloc (Below.refl _ _) _) hb2); have C2 := Aside0.mk hC2; have L2 := Aside0.mk hc2; have D2 := Aside0.mk (Kd.C_below C1.out B2.out); clear HM ho2 hb2 hC2 hc2)
  | (go_at_call 23; (with_reducible refine (merge_three k _ [zzE a1] L [zzE a2] x _ ?sa HX.out).mono ?_); (case sa => exact three_fact w2 A1 c1 L a1 a2 L1.out D2.out); rintro e w3 ⟨v3, rfl, ho3, hb3⟩; obtain ⟨A3, c3, rfl, hc3, hC3⟩ := Kd.R_reads ho3; have B3 := Aside0.mk (below_step (below_alloc (below_alloc (below_alloc (below_alloc (Below.refl _ _) _) _) _) _) hb3); have C3 := Aside0.mk hC3; have L3 := Aside0.mk hc3; have D3 := Aside0.mk (Kd.C_below D2.out B3.out); have E3 := Aside0.mk (Kd.C_below C2.out B3.out); clear HX ho3 hb3 hC3 hc3)
  | (go_at_call 20; (with_reducible refine (iceboxref1_SameEntries.calls k _ _ m _ _ L true _ ?sa ?sb ?sc ?sd H1.out).mono ?_); (case sa => exact E3.out); (case sb => exact L2.out); (case sc => exact D3.out); (case sd => exact L1.out); rintro e w4 ⟨rfl, hb4⟩; have B4 := Aside0.mk hb4.below; have E4 := Aside0.mk (Kd.C_below E3.out B4.out); clear H1 hb4)
  | (go_at_call 23; (with_reducible refine (merge_one k _ m m2 _ ?sa HM2.out).mono ?_); (case sa => exact rows_lit w4 [_] [m] rfl (by simp) (get_one ⟨A2, c2, rfl, L2.out, E4.out⟩)); rintro e w5 ⟨v5, rfl, ho5, hb5⟩; obtain ⟨A5, c5, rfl, hc5, hC5⟩ := Kd.R_reads ho5; have B5 := Aside0.mk (below_step (below_alloc (Below.refl _ _) _) hb5); have C5 := Aside0.mk hC5; have L5 := Aside0.mk hc5; have E5 := Aside0.mk (Kd.C_below E4.out B5.out); clear HM2 ho5 hb5 hC5 hc5)
  | (go_at_call 20; (with_reducible refine (iceboxref1_SameEntries.calls k _ _ m2 _ _ m true _ ?sa ?sb ?sc ?sd H2.out).mono ?_); (case sa => exact C5.out); (case sb => exact L5.out); (case sc => exact E5.out); (case sd => exact L2.out); rintro e w6 ⟨rfl, hb6⟩; have B6 := Aside0.mk hb6.below; obtain ⟨ad, ead, hx0, hx1, hx2, hx3⟩ := at_T31 (Kd.C_below C3.out (below_step (below_step B4.out B5.out) B6.out)) (L.length : Int) (Int.natCast_nonneg _) xb1; cases ead; rw [Int.toNat_natCast] at hx0 hx1 hx2 hx3; clear H2 hb6)
  | (go_at_call 21; (with_reducible refine (iceboxlaw15_awake.calls k true _ HA.out).mono ?_); rintro e w7 ⟨rfl, hb7⟩; have B7 := Aside0.mk hb7; clear hb7)
  | fail)
 go_ret
 exact ⟨rfl, below_step (below_step (below_step (below_step (below_step (below_step B1.out B2.out) B3.out) B4.out) B5.out) B6.out) B7.out⟩
theorem iceboxlaw15_MergeTwice.mono : ∀ a0 a1 a2 k, LeO (iceboxlaw15_MergeTwice.f k a0 a1 a2) (iceboxlaw15_MergeTwice.f (k + 1) a0 a1 a2) := by
 intro a0 a1 a2 k
 unfold iceboxlaw15_MergeTwice.f
 repeat' first
  | (with_reducible exact iceboxlaw15_awake.mono _)
  | (with_reducible exact iceboxlaw12_Make.mono _ _ _)
  | (with_reducible exact merge_Merge.mono _ _)
  | (with_reducible exact iceboxref1_SameEntries.mono _ _ _)
  | (with_reducible exact LeO.refl _)
  | (with_reducible exact LeO.none _)
  | (with_reducible refine LeO.ite ?_ ?_)
  | (with_reducible refine LeO.bind ?_ (fun _ => ?_))

/-- THE ONE PURE STATEMENT of iceboxlaw15_MergeTwice: yours. -/
def iceboxlaw15_MergeTwice.Pure : Prop := ∀ (l0 : List Int) (a1 : ByteArray) (a2 : ByteArray), l0.length ≤ maxLen → l0.length * 1 ≤ 140737488351232 → (∀ x ∈ l0, (Lit.int .u8 x).wf = true) → a1.size ≤ 140737488351232 → a2.size ≤ 140737488351232 → ∃ k, iceboxlaw15_MergeTwice.f k l0 a1 a2 = some true
theorem iceboxlaw15_MergeTwice.walk (P : iceboxlaw15_MergeTwice.Pure) (a0 : Option Addr) (len0 cap0 : Nat) (z0 : List Int) (a1 : ByteArray) (a2 : ByteArray) (w : World) (w0 : (a0 = none ∧ len0 = 0 ∧ cap0 = 0 ∧ z0 = []) ∨ ∃ x, a0 = some x ∧ len0 ≤ cap0 ∧ cap0 ≤ maxLen ∧ z0.length = cap0 ∧ (∀ i, i < z0.length → w.cell? (x.add i) = some (.int .u8 (z0.getD i 0))) ∧ ∀ n ∈ z0, (Lit.int .u8 n).wf = true) (y0 : len0 * 1 ≤ 140737488351232) (w1 : a1.size ≤ 140737488351232) (w2 : a2.size ≤ 140737488351232) :
 Calls Try.prog 9 #[.slice a0 len0 cap0, .string a1, .string a2] w fun e w' => e = .returned (.bool true) ∧ Below w.heap.size w w' := by
 obtain ⟨l0, rfl, hr0, hm0, hw0, hc0⟩ := ReadsInt.ofRowC w0
 obtain ⟨k, h⟩ := P l0 a1 a2 hm0 y0 hw0 w1 w2
 refine (iceboxlaw15_MergeTwice.calls k _ _ l0 a1 a2 true w ⟨rfl⟩ (Kd.C_of_reads (d := (0 : Int)) (h1 := fun _ => rfl) hr0) hc0 h).mono ?_
 rintro e w' ⟨rfl, hd⟩
 exact ⟨rfl, hd⟩

end Go.Proofs.Ytoomipmndapgnaa.PMergeTwice
