/- The functions that a law reaches, as Lean functions, each with the contract that its Go code comes to just these answers. Written by a program of this claim's author (wip/mkprint.py). No conditions. -/
import Derived.Test.YtoomipmndapgnaaPSeekFindsx0
import Derived.Test.YtoomipmndapgnaaPSeekFindsx1
import Derived.Test.YtoomipmndapgnaaPSeekFindsx2
import Derived.Test.YtoomipmndapgnaaPSeekFindsx6
namespace Go.Proofs.Ytoomipmndapgnaa.PSeekFinds
open Go.RowKit Go.Proofs.YtoomipmndapgnaaW.PrintWords Go.Proofs.YtoomipmndapgnaaW.PrintLast Go.Proofs.YtoomipmndapgnaaW.PrintMore
attribute [local go_sem] max2_int min2_int max_two min_two max_three min_three max_four min_four   -- for this text's walks alone
set_option linter.unusedVariables false
set_option linter.unusedSimpArgs false

/-! ### iceboxlaw14_SeekFinds and what it leans on -/
theorem nil_At (w : World) : Calls Try.prog 18 #[.pointer none] w fun e w' => e = .returned (.tuple #[.agg #[.string ⟨#[]⟩, .int .i64 0, .int .i64 0, .string ⟨#[]⟩], .bool false]) ∧ Below w.heap.size w w' := by
 have hu31 := Try.underlying31
 go_enter Try.func18, Try.ntmps18
 go_wp2
 go_quiet (fail)
 go_wp2
 have h0 := blk_drewN (blk_new w (.cells #[.string (⟨#[]⟩ : ByteArray), .int .i64 0, .int .i64 0, .string (⟨#[]⟩ : ByteArray)] 31)) nq
 have h1 := (blk_set h0 0 (.string (⟨#[]⟩ : ByteArray))).trans rfl
 have h2 := (blk_set h1 1 (.int .i64 0)).trans rfl
 have h3 := (blk_set h2 2 (.int .i64 0)).trans rfl
 have h4 := (blk_set h3 3 (.string (⟨#[]⟩ : ByteArray))).trans rfl
 refine bodyPost_ret (results_ct rfl _ _ w.heap.size 31 #[.string (⟨#[]⟩ : ByteArray), .int .i64 0, .int .i64 0, .string (⟨#[]⟩ : ByteArray)] (0, 0) _ rfl h4 hu31 rfl rfl) rfl ?_
 exact ⟨rfl, by repeat (first | exact Below.refl _ _ | apply below_drew | apply pw_below_drewN | apply below_alloc | refine below_set ?_ (Nat.le_refl _))⟩
theorem nil_move (h : Int) (w : World) : Calls Try.prog 48 #[.pointer none, .int .i64 h] w fun e w' => e = .returned (.bool false) ∧ Below w.heap.size w w' := by
 go_enter Try.func48, Try.ntmps48
 go_wp2_with (first | (with_reducible refine wp_label ?_) | (with_reducible refine wp_scope_straight ?_) | (simp only [Exit.noGoto_ret, Exit.noGoto_normal, Exit.noGoto_exit]))
 go_ret
 exact ⟨rfl, Below.refl _ _⟩
theorem first_move (g : Nat) (A : Option Addr) (n c : Nat) (at_ : Int) (w : World) (hg : w.heap[g]? = some (.cells #[.slice A n c, .int .i64 at_] 69 (0, 0))) :
 Calls Try.prog 48 #[.pointer (some ⟨g, 0, none⟩), .int .i64 0] w fun e w' => e = .returned (.bool (decide (0 < n))) ∧ ∃ q, w' = (w.setCell ⟨g, 1, none⟩ (.int .i64 0)).drewN q := by
 have HG := Aside0.mk hg
 have y0 : w.cell? ⟨g, 0, none⟩ = some (.slice A n c) := (blk_cell hg 0).trans rfl
 have y1 : w.cell? ⟨g, 1, none⟩ = some (.int .i64 at_) := (blk_cell hg 1).trans rfl
 have f1 : w.frozen? ⟨g, 1, none⟩ = false := blk_frozen hg 1
 clear hg
 go_enter Try.func48, Try.ntmps48
 go_wp2_with (first | (with_reducible refine wp_label ?_) | (with_reducible refine wp_scope_straight ?_) | (simp only [Exit.noGoto_ret, Exit.noGoto_normal, Exit.noGoto_exit]))
 go_quiet (fail)
 go_wp2_with (first | (with_reducible refine wp_label ?_) | (with_reducible refine wp_scope_straight ?_) | (simp only [Exit.noGoto_ret, Exit.noGoto_normal, Exit.noGoto_exit]))
 go_ret
 exact ⟨rfl, _, rfl⟩
theorem nil_First (w : World) : Calls Try.prog 33 #[.pointer none] w fun e w' => e = .returned (.bool false) ∧ Below w.heap.size w w' := by
 go_enter Try.func33, Try.ntmps33
 go_wp2_with (first | (go_at_call 48; (with_reducible refine (nil_move _ _).mono ?_); rintro e w1 ⟨rfl, hb1⟩; have B1 := Aside0.mk hb1; clear hb1))
 go_ret
 exact ⟨rfl, B1.out⟩
theorem nil_Last (w : World) : Calls Try.prog 35 #[.pointer none] w fun e w' => e = .returned (.bool false) ∧ Below w.heap.size w w' := by
 go_enter Try.func35, Try.ntmps35
 go_wp2_with (first | (go_at_call 48; (with_reducible refine (nil_move _ _).mono ?_); rintro e w1 ⟨rfl, hb1⟩; have B1 := Aside0.mk hb1; clear hb1))
 go_ret
 exact ⟨rfl, B1.out⟩
theorem nil_Next (w : World) : Calls Try.prog 17 #[.pointer none] w fun e w' => e = .returned (.bool false) ∧ Below w.heap.size w w' := by
 go_enter Try.func17, Try.ntmps17
 go_wp2_with (first | (go_at_call 48; (with_reducible refine (nil_move _ _).mono ?_); rintro e w1 ⟨rfl, hb1⟩; have B1 := Aside0.mk hb1; clear hb1))
 go_ret
 exact ⟨rfl, B1.out⟩
theorem nil_Prev (w : World) : Calls Try.prog 19 #[.pointer none] w fun e w' => e = .returned (.bool false) ∧ Below w.heap.size w w' := by
 go_enter Try.func19, Try.ntmps19
 go_wp2_with (first | (go_at_call 48; (with_reducible refine (nil_move _ _).mono ?_); rintro e w1 ⟨rfl, hb1⟩; have B1 := Aside0.mk hb1; clear hb1))
 go_ret
 exact ⟨rfl, B1.out⟩
theorem nil_Seek (u : ByteArray) (s d : Int) (w : World) : Calls Try.prog 30 #[.pointer none, .agg #[.string u, .int .i64 s, .int .i64 d]] w fun e w' => e = .returned (.bool false) ∧ Below w.heap.size w w' := by
 have hu29 := Try.underlying29
 go_enter Try.func30, Try.ntmps30
 go_wp2
 go_ret
 exact ⟨rfl, by repeat (first | exact Below.refl _ _ | apply below_alloc)⟩
theorem first_First (g : Nat) (A : Option Addr) (n c : Nat) (at_ : Int) (w : World) (hg : w.heap[g]? = some (.cells #[.slice A n c, .int .i64 at_] 69 (0, 0))) :
 Calls Try.prog 33 #[.pointer (some ⟨g, 0, none⟩)] w fun e w' => e = .returned (.bool (decide (0 < n))) ∧ ∃ q, w' = (w.setCell ⟨g, 1, none⟩ (.int .i64 0)).drewN q := by
 have HG := Aside0.mk hg
 clear hg
 go_enter Try.func33, Try.ntmps33
 go_wp2_with (first | (go_at_call 48; (with_reducible refine (first_move g A n c at_ _ HG.out).mono ?_); rintro e w1 ⟨rfl, hb1⟩; have B1 := Aside0.mk hb1; clear hb1))
 go_ret
 exact ⟨rfl, B1.out⟩
theorem compact_small (A : Option Addr) (n c : Nat) (F : Value) (w : World) (hn : n < 2) :
 Calls Try.prog 46 #[.slice A n c, F] w fun e w' => e = .returned (.slice A n c) ∧ Below w.heap.size w w' := by
 have h1 : decide ((n : Int) < 2) = true := decide_eq_true (by omega)
 have h2 : decide (n < 2) = true := decide_eq_true hn
 go_enter Try.func46, Try.ntmps46
 go_wp2_with (first | (with_reducible refine wp_label ?_) | (with_reducible refine wp_scope_straight ?_) | (simp only [Exit.noGoto_ret, Exit.noGoto_normal, Exit.noGoto_exit]))
 go_ret
 exact ⟨rfl, by repeat (first | exact Below.refl _ _ | apply below_drew | apply pw_below_drewN | apply below_alloc | refine below_set ?_ (Nat.le_refl _))⟩
def seek_small (k : Nat) (l : List S31) : Option (List S31) := (api_Entry_42.f l).bind fun c => (api_Entry_43.f k c).bind fun M => if M.length < 2 then some M else none
theorem New_small (k : Nat) (A0 : Option Addr) (c0 : Nat) (l0 : List S31) (r : List S31) (w : World) (hr0 : Kd.C k31 w A0 l0.length l0) (hc0 : l0.length ≤ c0) (h : seek_small k l0 = some r) :
 Calls Try.prog 16 #[.slice A0 l0.length c0] w fun e w' => ∃ g A c, e = .returned (.pointer (some ⟨g, 0, none⟩)) ∧ w'.heap[g]? = some (.cells #[.slice A r.length c, .int .i64 (-1)] 69 (0, 0)) ∧ w.heap.size ≤ g ∧ Below w.heap.size w w' := by
 have HR0 := Aside0.mk hr0
 have HC0 := Aside0.mk hc0
 clear hr0 hc0
 have HB := Aside0.mk (Below.refl w.heap.size w)
 unfold seek_small at h
 replace h := Option.bind_eq_some_iff.mp h; obtain ⟨t186, e1, h⟩ := h
 replace h := Option.bind_eq_some_iff.mp h; obtain ⟨t189, e2, h⟩ := h
 by_cases hs : t189.length < 2
 case neg => rw [if_neg hs] at h; cases h
 rw [if_pos hs] at h
 obtain rfl := Option.some.inj h
 have A2 := Aside0.mk e1
 have A3 := Aside0.mk e2
 have HS := Aside0.mk hs
 clear h e1 e2 hs
 go_enter Try.func16, Try.ntmps16
 go_wp2_with (first
  | (go_at_call 42; (with_reducible refine (api_Entry_42.calls _ _ l0 t186 _ ?side1 ?side2 A2.out).mono ?_); (case side1 => exact HR0.out); (case side2 => exact HC0.out); rintro e w4 ⟨v187, rfl, ho0, hb⟩; have B1 := Aside0.mk hb; have O1 := Aside0.mk ho0; clear hb ho0; obtain ⟨Ao5, co5, eo5⟩ := Kd.R_slice O1.out; subst eo5)
  | (go_at_call 43; ((with_reducible refine (api_Entry_43.calls k (fun k_ => some k_ = (.slice Ao5 t186.length co5 : Value).ownBlock) (.slice Ao5 t186.length co5) t186 t189 w _ ?side1 ?side2 A3.out).mono ?_); (case side1 => exact B1.out); (case side2 => exact Kd.R_tight rfl O1.out); rintro e w6 ⟨rfl, hy0, hb, hkp⟩; have B2 := Aside0.mk hb; have O2 := Aside0.mk hy0; have LT := Aside0.mk (show t186.length < 2 by have hq := Kd.R_slice hy0; obtain ⟨Aq, cq, eq_⟩ := hq; injection eq_ with _ e_ _; have := HS.out; omega); clear hb hy0 hkp))
  | (go_at_call 46; (with_reducible refine (compact_small Ao5 t186.length co5 _ _ ?sc).mono ?_); (case sc => exact LT.out); rintro e w7 ⟨rfl, hb⟩; have B3 := Aside0.mk (below_step B2.out hb); clear hb)
  | fail)
 go_ret
 have el : t186.length = t189.length := by
  obtain ⟨Aq, cq, eq_⟩ := Kd.R_slice O2.out
  injection eq_
 exact ⟨w7.heap.size, Ao5, co5, rfl, by rw [← el]; exact heap_alloc_new w7 _, B3.out.size, below_alloc B3.out _⟩

theorem New_nil (k : Nat) (r : List S31) (w : World) (h : seek_small k [] = some r) :
 Calls Try.prog 16 #[.slice none 0 0] w fun e w' => ∃ g A c, e = .returned (.pointer (some ⟨g, 0, none⟩)) ∧ w'.heap[g]? = some (.cells #[.slice A r.length c, .int .i64 (-1)] 69 (0, 0)) ∧ w.heap.size ≤ g ∧ Below w.heap.size w w' :=
 New_small k none 0 [] r w (Kd.C_nil _ _) (Nat.le_refl 0) h
theorem Make_one (k : Nat) (A : Option Addr) (r : List S31) (w : World) (hC : Kd.C (Kd.int .u8) w A 1 [1]) (h : iceboxlaw12_Make.f k [1] 0 = some r) :
 Calls Try.prog 15 #[.slice A 1 1, .int .u8 0] w fun e w' => ∃ v0_ : Value, e = .returned (v0_) ∧ Kd.R k31 31 w' w.heap.size (fun _ => True) v0_ r ∧ Below w.heap.size w w' :=
 iceboxlaw12_Make.calls k A 1 [1] 0 r w hC (Nat.le_refl 1) h
def iceboxlaw14_awake.f (k : Nat) : Option Bool := (seek_small k []).bind fun M0 => (iceboxlaw12_Make.f k [1] 0).bind fun L => (seek_small k L).bind fun M1 => if M0.length = 0 ∧ M1.length = 1 then some true else none
theorem one_u8 (W : World) : Kd.C (Kd.int .u8) (W.alloc (.cells #[.int .u8 1] 5)) (some ⟨W.heap.size, 0, none⟩) 1 [1] := by
 refine ⟨rfl, by decide, fun _ => ⟨⟨W.heap.size, 0, none⟩, rfl, fun j p hp => ?_⟩⟩
 cases j with
 | succ j => simp at hp
 | zero =>
  simp only [List.getElem?_cons_zero, Option.some.injEq] at hp
  subst hp
  refine ⟨[.int .u8 1], rfl, rfl, fun i u hu => ?_⟩
  rw [add_plain]
  have := blk_cell (heap_alloc_new W (.cells #[.int .u8 1] 5)) (0 * (Kd.int .u8).sz + i)
  rw [this]
  simpa using hu
theorem iceboxlaw14_awake.calls (k : Nat) (r : Bool) (w : World) (h : iceboxlaw14_awake.f k = some r) :
 Calls Try.prog 14 #[] w fun e w' => e = .returned (.bool r) ∧ Below w.heap.size w w' := by
 unfold iceboxlaw14_awake.f at h
 replace h := Option.bind_eq_some_iff.mp h; obtain ⟨M0, e1, h⟩ := h
 replace h := Option.bind_eq_some_iff.mp h; obtain ⟨L, e2, h⟩ := h
 replace h := Option.bind_eq_some_iff.mp h; obtain ⟨M1, e3, h⟩ := h
 by_cases hs : M0.length = 0 ∧ M1.length = 1
 case neg => rw [if_neg hs] at h; cases h
 rw [if_pos hs] at h
 obtain rfl := Option.some.inj h
 have A1 := Aside0.mk e1
 have A2 := Aside0.mk e2
 have A3 := Aside0.mk e3
 have HS := Aside0.mk hs
 clear h e1 e2 e3 hs
 go_enter Try.func14, Try.ntmps14
 go_wp2_with (first
  | (go_at_call 16; (with_reducible refine (New_nil k M0 _ A1.out).mono ?_); rintro e w1 ⟨g1, Aa, ca, rfl, hg1, hl1, hb1⟩; have B1 := Aside0.mk hb1; have L1 := Aside0.mk hl1; have G1 := Aside0.mk (show w1.heap[g1]? = some (.cells #[.slice Aa 0 ca, .int .i64 (-1)] 69 (0, 0)) by rw [HS.out.1] at hg1; exact hg1); clear A1 hg1 hl1 hb1)
  | (go_at_call 15; ((with_reducible refine (Make_one k _ L _ ?sa A2.out).mono ?_); (case sa => exact one_u8 w1); rintro e w2 ⟨v2, rfl, ho2, hb2⟩; obtain ⟨A4, c4, rfl, hc4, hC4⟩ := Kd.R_reads ho2; have B2 := Aside0.mk (below_step (below_alloc (Below.refl _ _) _) hb2); have C2 := Aside0.mk hC4; have L2 := Aside0.mk hc4; clear A2 ho2 hb2 hC4 hc4))
  | (go_at_call 16; (with_reducible refine (New_small k _ _ L M1 _ ?sa ?sb A3.out).mono ?_); (case sa => exact C2.out); (case sb => exact L2.out); rintro e w3 ⟨g3, Ab, cb, rfl, hg3, hl3, hb3⟩; have B3 := Aside0.mk (below_step B2.out hb3); have L3 := Aside0.mk hl3; have G3 := Aside0.mk (show w3.heap[g3]? = some (.cells #[.slice Ab 1 cb, .int .i64 (-1)] 69 (0, 0)) by rw [HS.out.2] at hg3; exact hg3); clear A3 hg3 hl3 hb3)
  | (go_at_call 33; (with_reducible refine (first_First g1 Aa 0 ca (-1) _ ?sa).mono ?_); (case sa => exact blk_below G1.out B3.out); rintro e w4 ⟨rfl, q1, hq1⟩; have Q1 := Aside0.mk hq1; have G3b := Aside0.mk (show w4.heap[g3]? = some (.cells #[.slice Ab 1 cb, .int .i64 (-1)] 69 (0, 0)) by rw [hq1]; refine blk_drewN ((Below.heap_setCell _ _ _ _ ?_).trans G3.out) _; have h1 := blk_lt G1.out; have h2 := L3.out; have h3 := B2.out.size; show g3 ≠ g1; omega); clear hq1)
  | (go_at_call 33; (with_reducible refine (first_First g3 Ab 1 cb (-1) _ ?sa).mono ?_); (case sa => exact G3b.out); rintro e w5 ⟨rfl, q2, hq2⟩; have Q2 := Aside0.mk hq2; clear hq2)
  | fail)
 go_ret
 have hw3 : Below w.heap.size w w3 := below_step B1.out B3.out
 have hw4 : Below w.heap.size w w4 := by rw [Q1.out]; exact pw_below_drewN (below_set hw3 L1.out) _
 refine ⟨rfl, ?_⟩
 rw [Q2.out]
 exact pw_below_drewN (below_set hw4 (by have h2 := L3.out; have h3 := B2.out.size; have h4 := B1.out.size; omega)) _
theorem seek_small.mono : ∀ a0 k, LeO (seek_small k a0) (seek_small (k + 1) a0) := by
 intro a0 k
 unfold seek_small
 repeat' first
  | (with_reducible exact api_Entry_43.mono _ _)
  | (with_reducible exact LeO.refl _)
  | (with_reducible exact LeO.none _)
  | (with_reducible refine LeO.ite ?_ ?_)
  | (with_reducible refine LeO.bind ?_ (fun _ => ?_))
theorem iceboxlaw14_awake.mono : ∀ k, LeO (iceboxlaw14_awake.f k) (iceboxlaw14_awake.f (k + 1)) := by
 intro k
 unfold iceboxlaw14_awake.f
 repeat' first
  | (with_reducible exact seek_small.mono _ _)
  | (with_reducible exact iceboxlaw12_Make.mono _ _ _)
  | (with_reducible exact LeO.refl _)
  | (with_reducible exact LeO.none _)
  | (with_reducible refine LeO.ite ?_ ?_)
  | (with_reducible refine LeO.bind ?_ (fun _ => ?_))
set_option maxHeartbeats 4000000 in
set_option maxRecDepth 100000 in
theorem compact_plain (k : Nat) (A : Option Addr) (c : Nat) (L : List S31) (w : World) (hC : Kd.C k31 w A L.length L) (hl : L.length ≤ 1000)
 (hn : ∀ n : Nat, n + 1 < L.length → seek_New_2.f k (rd_T31 L ((n : Int) + 1)).f0.f0 (rd_T31 L ((n : Int) + 1)).f0.f1 (rd_T31 L ((n : Int) + 1)).f0.f2 (rd_T31 L ((n : Int) + 1)).f1 (rd_T31 L (n : Int)).f0.f0 (rd_T31 L (n : Int)).f0.f1 (rd_T31 L (n : Int)).f0.f2 (rd_T31 L (n : Int)).f1 = some false) :
 Calls Try.prog 46 #[.slice A L.length c, .func (.func 47) #[] #[]] w fun e w' => e = .returned (.slice A L.length c) ∧ Below w.heap.size w w' := by
 by_cases h2 : L.length < 2
 · exact compact_small A L.length c _ w h2
 have hu31 := Try.underlying31
 have hu29 := Try.underlying29
 have HC := Aside0.mk hC
 have HN := Aside0.mk hn
 have HL := Aside0.mk hl
 have h1 : decide ((L.length : Int) < 2) = false := decide_eq_false (by omega)
 have h1' : decide (L.length < 2) = false := decide_eq_false h2
 clear hC hn hl h2
 go_enter Try.func46, Try.ntmps46
 go_wp2_with (first | (with_reducible refine wp_label ?_) | (with_reducible refine wp_scope_straight ?_) | (simp only [Exit.noGoto_ret, Exit.noGoto_normal, Exit.noGoto_exit]))
 go_loopw [5] (fun v wr => ∃ n : Nat, n + 1 ≤ L.length ∧ v = .int .i64 ((n : Int) + 1) ∧ Aside0 (Below w.heap.size w wr)) (fun v _ => L.length - (intOf v).toNat)
 case atStart => exact ⟨0, by have := of_decide_eq_false h1'; omega, rfl, ⟨Below.refl _ _⟩⟩
 case round =>
  obtain ⟨n, hn1, rfl, HB⟩ := hrel
  by_cases c : (n : Int) + 1 < (L.length : Int)
  ·
   have q0 : decide ((n : Int) + 1 < (L.length : Int)) = true := decide_eq_true c
   have p0 : (0 : Int) ≤ (n : Int) + 1 := by omega
   have p1 : (0 : Int) ≤ (n : Int) := by omega
   have c1 : (n : Int) < (L.length : Int) := by omega
   obtain ⟨ad, ead, x0, x1, x2, x3⟩ := at_T31 (Kd.C_below HC.out HB.out) ((n : Int) + 1) p0 c
   cases ead
   obtain ⟨ad', ead', z0, z1, z2, z3⟩ := at_T31 (Kd.C_below HC.out HB.out) (n : Int) p1 c1
   cases ead'
   rw [show ((n : Int) + 1).toNat = n + 1 by omega] at x0 x1 x2 x3
   rw [Int.toNat_natCast] at z0 z1 z2 z3
   have HE := Aside0.mk (HN.out n (by omega))
   have hw1 : (n : Int) + 1 ≤ 1000 := by have := HL.out; omega
   have hl1 := HL.out
   have ew0 : IntKind.i64.wrap ((n : Int) + 1 - 1) = (n : Int) := by rw [Int.add_sub_cancel, i64_w]; (unfold Go.RowKit.wrap64; omega)
   have ew1 : IntKind.i64.wrap (n : Int) = (n : Int) := by rw [i64_w]; (unfold Go.RowKit.wrap64; omega)
   clear hl1
   generalize rd_T31 L ((n : Int) + 1) = e1 at x0 x1 x2 x3 HE
   generalize rd_T31 L (n : Int) = e0 at z0 z1 z2 z3 HE
   go_wp2
   go_region_held3 (fun w' => w'.cell? (ad.add ((n + 1) * 4)) = some (.string e1.f0.f0) ∧ w'.cell? ⟨(ad.add ((n + 1) * 4)).block, (ad.add ((n + 1) * 4)).off + 1, none⟩ = some (.int .i64 e1.f0.f1) ∧ w'.cell? ⟨(ad.add ((n + 1) * 4)).block, (ad.add ((n + 1) * 4)).off + 2, none⟩ = some (.int .i64 e1.f0.f2) ∧ w'.cell? ⟨(ad.add ((n + 1) * 4)).block, (ad.add ((n + 1) * 4)).off + 3, none⟩ = some (.string e1.f1) ∧ w'.cell? (ad.add (n * 4)) = some (.string e0.f0.f0) ∧ w'.cell? ⟨(ad.add (n * 4)).block, (ad.add (n * 4)).off + 1, none⟩ = some (.int .i64 e0.f0.f1) ∧ w'.cell? ⟨(ad.add (n * 4)).block, (ad.add (n * 4)).off + 2, none⟩ = some (.int .i64 e0.f0.f2) ∧ w'.cell? ⟨(ad.add (n * 4)).block, (ad.add (n * 4)).off + 3, none⟩ = some (.string e0.f1) ∧ Below wr.heap.size wr w')
    ((repeat' apply And.intro) <;> (first | assumption | exact below_drew (Below.refl _ _) | exact Below.refl _ _ | exact below_step (below_drew (Below.refl _ _)) hb2 | exact pw_cell_below (by assumption) (by assumption) | go_keep))
    (first | (go_at_call 47; (with_reducible refine (seek_New_2.calls k _ _ _ _ _ _ _ _ false _ HE.out).mono ?_); rintro e w2 ⟨rfl, hb2⟩))
   go_wp2
   go_roundw
   case rel => exact ⟨n + 1, by omega, by go_num, ⟨below_step HB.out (by assumption : w2.cell? _ = _ ∧ _ ∧ _ ∧ _ ∧ _ ∧ _ ∧ _ ∧ _ ∧ Below wr.heap.size wr w2).2.2.2.2.2.2.2.2⟩⟩
   case measure => simp [intOf]; omega
  ·
   have q0 : decide ((n : Int) + 1 < (L.length : Int)) = false := decide_eq_false c
   go_wp2_with (first | (with_reducible refine wp_label ?_) | (with_reducible refine wp_scope_straight ?_) | (simp only [Exit.noGoto_ret, Exit.noGoto_normal, Exit.noGoto_exit]))
   go_ret
   exact ⟨rfl, HB.out⟩
def noDup (k : Nat) (L : List S31) : Bool := (List.range (L.length - 1)).all fun n => seek_New_2.f k (rd_T31 L ((n : Int) + 1)).f0.f0 (rd_T31 L ((n : Int) + 1)).f0.f1 (rd_T31 L ((n : Int) + 1)).f0.f2 (rd_T31 L ((n : Int) + 1)).f1 (rd_T31 L (n : Int)).f0.f0 (rd_T31 L (n : Int)).f0.f1 (rd_T31 L (n : Int)).f0.f2 (rd_T31 L (n : Int)).f1 == some false
def seek_New.f (k : Nat) (l : List S31) : Option (List S31) := (api_Entry_42.f l).bind fun c => (api_Entry_43.f k c).bind fun M => if M.length ≤ 1000 ∧ noDup k M = true then some M else none
set_option maxHeartbeats 4000000 in
set_option maxRecDepth 100000 in
theorem seek_New.calls (k : Nat) (A0 : Option Addr) (c0 : Nat) (l0 : List S31) (r : List S31) (w : World) (hr0 : Kd.C k31 w A0 l0.length l0) (hc0 : l0.length ≤ c0) (h : seek_New.f k l0 = some r) :
 Calls Try.prog 16 #[.slice A0 l0.length c0] w fun e w' => ∃ wb A c, e = .returned (.pointer (some ⟨wb.heap.size, 0, none⟩)) ∧ w' = wb.alloc (.cells #[.slice A r.length c, .int .i64 (-1)] 69) ∧ Kd.C k31 wb A r.length r ∧ Below w.heap.size w wb := by
 have HR0 := Aside0.mk hr0
 have HC0 := Aside0.mk hc0
 clear hr0 hc0
 have HB := Aside0.mk (Below.refl w.heap.size w)
 unfold seek_New.f at h
 replace h := Option.bind_eq_some_iff.mp h; obtain ⟨t186, e1, h⟩ := h
 replace h := Option.bind_eq_some_iff.mp h; obtain ⟨t189, e2, h⟩ := h
 by_cases hs : t189.length ≤ 1000 ∧ noDup k t189 = true
 case neg => rw [if_neg hs] at h; cases h
 rw [if_pos hs] at h
 obtain rfl := Option.some.inj h
 have A2 := Aside0.mk e1
 have A3 := Aside0.mk e2
 have HS := Aside0.mk hs.1
 have HN := Aside0.mk (show ∀ n : Nat, n + 1 < t189.length → seek_New_2.f k (rd_T31 t189 ((n : Int) + 1)).f0.f0 (rd_T31 t189 ((n : Int) + 1)).f0.f1 (rd_T31 t189 ((n : Int) + 1)).f0.f2 (rd_T31 t189 ((n : Int) + 1)).f1 (rd_T31 t189 (n : Int)).f0.f0 (rd_T31 t189 (n : Int)).f0.f1 (rd_T31 t189 (n : Int)).f0.f2 (rd_T31 t189 (n : Int)).f1 = some false by
  intro n hn
  have h2 := List.all_eq_true.1 hs.2 n (List.mem_range.2 (by omega))
  simpa using h2)
 clear h e1 e2 hs
 go_enter Try.func16, Try.ntmps16
 go_wp2_with (first
  | (go_at_call 42; (with_reducible refine (api_Entry_42.calls _ _ l0 t186 _ ?side1 ?side2 A2.out).mono ?_); (case side1 => exact HR0.out); (case side2 => exact HC0.out); rintro e w4 ⟨v187, rfl, ho0, hb⟩; have B1 := Aside0.mk hb; have O1 := Aside0.mk ho0; clear hb ho0; obtain ⟨Ao5, co5, eo5⟩ := Kd.R_slice O1.out; subst eo5)
  | (go_at_call 43; ((with_reducible refine (api_Entry_43.calls k (fun k_ => some k_ = (.slice Ao5 t186.length co5 : Value).ownBlock) (.slice Ao5 t186.length co5) t186 t189 w _ ?side1 ?side2 A3.out).mono ?_); (case side1 => exact B1.out); (case side2 => exact Kd.R_tight rfl O1.out); rintro e w6 ⟨rfl, hy0, hb, hkp⟩; have B2 := Aside0.mk hb; have el : t186.length = t189.length := (by obtain ⟨Aq, cq, eq_⟩ := Kd.R_slice hy0; injection eq_); rw [el] at hy0 ⊢; have O2 := Aside0.mk (Kd.R_reads' hy0).2.2; have EL := Aside0.mk el; clear hb hy0 hkp el))
  | (go_at_call 46; ((with_reducible refine (compact_plain k Ao5 co5 t189 _ ?sc HS.out HN.out).mono ?_); (case sc => exact O2.out); rintro e w7 ⟨rfl, hb⟩; have B3 := Aside0.mk (below_step B2.out hb); have O3 := Aside0.mk (Kd.C_below O2.out hb); clear hb))
  | fail)
 go_ret
 exact ⟨w7, Ao5, co5, rfl, rfl, O3.out, B3.out⟩
def Set1 (g : Nat) (v : Int) (w w' : World) : Prop := ∃ q q2, w' = ((w.drewN q).setCell ⟨g, 1, none⟩ (.int .i64 v)).drewN q2
theorem Set1.at_ {g : Nat} {v a : Int} {V : Value} {w w' : World} (h : Set1 g v w w') (hg : w.heap[g]? = some (.cells #[V, .int .i64 a] 69 (0, 0))) : w'.heap[g]? = some (.cells #[V, .int .i64 v] 69 (0, 0)) := by
 obtain ⟨q, q2, rfl⟩ := h
 exact blk_drewN ((blk_set (blk_drewN hg q) 1 _).trans rfl) q2
theorem Set1.below {g : Nat} {v : Int} {w0 w w' : World} (h : Set1 g v w w') (hb : Below w0.heap.size w0 w) (hg : w0.heap.size ≤ g) : Below w0.heap.size w0 w' := by
 obtain ⟨q, q2, rfl⟩ := h
 exact pw_below_drewN (below_set (pw_below_drewN hb q) hg) q2
theorem Set1.far {g k : Nat} {v : Int} {w w' : World} (h : Set1 g v w w') (hk : k ≠ g) : w'.heap[k]? = w.heap[k]? := by
 obtain ⟨q, q2, rfl⟩ := h
 exact Below.heap_setCell _ _ _ _ hk
set_option maxHeartbeats 4000000 in
set_option maxRecDepth 100000 in
theorem next_move (g : Nat) (A : Option Addr) (n c : Nat) (at_ : Int) (w : World) (h0 : -1 ≤ at_) (h1 : at_ < n) (hl : n ≤ 1000) (hg : w.heap[g]? = some (.cells #[.slice A n c, .int .i64 at_] 69 (0, 0))) :
 Calls Try.prog 48 #[.pointer (some ⟨g, 0, none⟩), .int .i64 2] w fun e w' => e = .returned (.bool (decide (at_ + 1 < n))) ∧ Set1 g (at_ + 1) w w' := by
 have HG := Aside0.mk hg
 have y0 : w.cell? ⟨g, 0, none⟩ = some (.slice A n c) := (blk_cell hg 0).trans rfl
 have y1 : w.cell? ⟨g, 1, none⟩ = some (.int .i64 at_) := (blk_cell hg 1).trans rfl
 have f1 : w.frozen? ⟨g, 1, none⟩ = false := blk_frozen hg 1
 have s0 : (w.setCell ⟨g, 1, none⟩ (.int .i64 (at_ + 1))).cell? ⟨g, 0, none⟩ = some (.slice A n c) := (blk_cell (blk_set hg 1 _) 0).trans rfl
 have s1 : (w.setCell ⟨g, 1, none⟩ (.int .i64 (at_ + 1))).cell? ⟨g, 1, none⟩ = some (.int .i64 (at_ + 1)) := (blk_cell (blk_set hg 1 _) 1).trans rfl
 have ew : IntKind.i64.wrap (at_ + 1) = at_ + 1 := by rw [i64_w]; unfold Go.RowKit.wrap64; omega
 have d0 : decide ((n : Int) ≤ at_) = false := decide_eq_false (by omega)
 have d1 : decide (0 ≤ at_ + 1) = true := decide_eq_true (by omega)
 have p1 : 0 ≤ at_ + 1 := by omega
 clear hg h0 hl
 go_enter Try.func48, Try.ntmps48
 go_wp2_with (first | (with_reducible refine wp_label ?_) | (with_reducible refine wp_scope_straight ?_) | (simp only [Exit.noGoto_ret, Exit.noGoto_normal, Exit.noGoto_exit]))
 repeat (go_quiet (fail); try go_wp2_with (first | (with_reducible refine wp_label ?_) | (with_reducible refine wp_scope_straight ?_) | (simp only [Exit.noGoto_ret, Exit.noGoto_normal, Exit.noGoto_exit])))
 go_ret
 exact ⟨rfl, _, _, rfl⟩
set_option maxHeartbeats 4000000 in
set_option maxRecDepth 100000 in
theorem prev_move (g : Nat) (A : Option Addr) (n c : Nat) (at_ : Int) (w : World) (h0 : 0 ≤ at_) (h1 : at_ ≤ n) (hl : n ≤ 1000) (hg : w.heap[g]? = some (.cells #[.slice A n c, .int .i64 at_] 69 (0, 0))) :
 Calls Try.prog 48 #[.pointer (some ⟨g, 0, none⟩), .int .i64 3] w fun e w' => e = .returned (.bool (decide (1 ≤ at_))) ∧ Set1 g (at_ - 1) w w' := by
 have HG := Aside0.mk hg
 have y0 : w.cell? ⟨g, 0, none⟩ = some (.slice A n c) := (blk_cell hg 0).trans rfl
 have y1 : w.cell? ⟨g, 1, none⟩ = some (.int .i64 at_) := (blk_cell hg 1).trans rfl
 have f1 : w.frozen? ⟨g, 1, none⟩ = false := blk_frozen hg 1
 have s0 : (w.setCell ⟨g, 1, none⟩ (.int .i64 (at_ - 1))).cell? ⟨g, 0, none⟩ = some (.slice A n c) := (blk_cell (blk_set hg 1 _) 0).trans rfl
 have s1 : (w.setCell ⟨g, 1, none⟩ (.int .i64 (at_ - 1))).cell? ⟨g, 1, none⟩ = some (.int .i64 (at_ - 1)) := (blk_cell (blk_set hg 1 _) 1).trans rfl
 have ew : IntKind.i64.wrap (at_ - 1) = at_ - 1 := by rw [i64_w]; unfold Go.RowKit.wrap64; omega
 have d0 : decide (at_ < 0) = false := decide_eq_false (by omega)
 have d1 : decide (at_ - 1 < (n : Int)) = true := decide_eq_true (by omega)
 have p1 : at_ - 1 < (n : Int) := by omega
 clear hg h0 hl
 by_cases hb : 1 ≤ at_
 ·
  have db : decide (1 ≤ at_) = true := decide_eq_true hb
  have db2 : decide (0 ≤ at_ - 1) = true := decide_eq_true (by omega)
  rw [db]
  go_enter Try.func48, Try.ntmps48
  go_wp2_with (first | (with_reducible refine wp_label ?_) | (with_reducible refine wp_scope_straight ?_) | (simp only [Exit.noGoto_ret, Exit.noGoto_normal, Exit.noGoto_exit]))
  repeat (go_quiet (fail); try go_wp2_with (first | (with_reducible refine wp_label ?_) | (with_reducible refine wp_scope_straight ?_) | (simp only [Exit.noGoto_ret, Exit.noGoto_normal, Exit.noGoto_exit])))
  go_ret
  exact ⟨rfl, 0, _, rfl⟩
 ·
  have db : decide (1 ≤ at_) = false := decide_eq_false hb
  have db2 : decide (0 ≤ at_ - 1) = false := decide_eq_false (by omega)
  rw [db]
  go_enter Try.func48, Try.ntmps48
  go_wp2_with (first | (with_reducible refine wp_label ?_) | (with_reducible refine wp_scope_straight ?_) | (simp only [Exit.noGoto_ret, Exit.noGoto_normal, Exit.noGoto_exit]))
  repeat (go_quiet (fail); try go_wp2_with (first | (with_reducible refine wp_label ?_) | (with_reducible refine wp_scope_straight ?_) | (simp only [Exit.noGoto_ret, Exit.noGoto_normal, Exit.noGoto_exit])))
  go_ret
  exact ⟨rfl, 0, _, rfl⟩
set_option maxHeartbeats 4000000 in
theorem next_Call (g : Nat) (A : Option Addr) (n c : Nat) (at_ : Int) (w : World) (h0 : -1 ≤ at_) (h1 : at_ < n) (hl : n ≤ 1000) (hg : w.heap[g]? = some (.cells #[.slice A n c, .int .i64 at_] 69 (0, 0))) :
 Calls Try.prog 17 #[.pointer (some ⟨g, 0, none⟩)] w fun e w' => e = .returned (.bool (decide (at_ + 1 < n))) ∧ Set1 g (at_ + 1) w w' := by
 have HG := Aside0.mk hg
 have H0 := Aside0.mk h0
 have H1 := Aside0.mk h1
 have HL := Aside0.mk hl
 clear hg h0 h1 hl
 go_enter Try.func17, Try.ntmps17
 go_wp2_with (first | (go_at_call 48; (with_reducible refine (next_move g A n c at_ _ H0.out H1.out HL.out HG.out).mono ?_); rintro e w1 ⟨rfl, hb1⟩; have B1 := Aside0.mk hb1; clear hb1))
 go_ret
 exact ⟨rfl, B1.out⟩
set_option maxHeartbeats 4000000 in
theorem prev_Call (g : Nat) (A : Option Addr) (n c : Nat) (at_ : Int) (w : World) (h0 : 0 ≤ at_) (h1 : at_ ≤ n) (hl : n ≤ 1000) (hg : w.heap[g]? = some (.cells #[.slice A n c, .int .i64 at_] 69 (0, 0))) :
 Calls Try.prog 19 #[.pointer (some ⟨g, 0, none⟩)] w fun e w' => e = .returned (.bool (decide (1 ≤ at_))) ∧ Set1 g (at_ - 1) w w' := by
 have HG := Aside0.mk hg
 have H0 := Aside0.mk h0
 have H1 := Aside0.mk h1
 have HL := Aside0.mk hl
 clear hg h0 h1 hl
 go_enter Try.func19, Try.ntmps19
 go_wp2_with (first | (go_at_call 48; (with_reducible refine (prev_move g A n c at_ _ H0.out H1.out HL.out HG.out).mono ?_); rintro e w1 ⟨rfl, hb1⟩; have B1 := Aside0.mk hb1; clear hb1))
 go_ret
 exact ⟨rfl, B1.out⟩
def seek_At.T3 : Bool × List (List Nat × List Nat) := (true, [([], []), ([0], [0]), ([1], [1]), ([2], [2]), ([], []), ([4], [4]), ([5], [5]), ([6], [6]), ([3, 7], [3, 7]), ([8], [8]), ([9, 0, 1, 2, 3, 4, 5, 6, 7, 8, 9], [9]), ([10, 0, 1, 2, 3, 4, 5, 6, 7, 8, 9, 10], [])])
def seek_At.B3 : List Nat := [0, 1, 3, 7, 0, 16, 48, 112, 255, 511, 1023, 2047]
theorem seek_At.tab3 : rtab .any (opsOf Try.f18 3) = seek_At.T3 := by kernel_rfl
theorem seek_At.bits3 : waitsOk seek_At.T3.2 seek_At.B3 = true := by kernel_rfl
set_option maxHeartbeats 4000000 in
set_option maxRecDepth 100000 in
theorem at_in (g : Nat) (A : Option Addr) (c : Nat) (M : List S31) (i : Nat) (w : World) (hi : i < M.length) (hl : M.length ≤ 1000) (hC : Kd.C k31 w A M.length M) (hg : w.heap[g]? = some (.cells #[.slice A M.length c, .int .i64 (i : Int)] 69 (0, 0))) :
 Calls Try.prog 18 #[.pointer (some ⟨g, 0, none⟩)] w fun e w' => e = .returned (.tuple #[.agg #[.string (rd_T31 M (i : Int)).f0.f0, .int .i64 (rd_T31 M (i : Int)).f0.f1, .int .i64 (rd_T31 M (i : Int)).f0.f2, .string (rd_T31 M (i : Int)).f1], .bool true]) ∧ Below w.heap.size w w' := by
 have hu31 := Try.underlying31
 obtain ⟨ad, ead, x0, x1, x2, x3⟩ := at_T31 hC (i : Int) (Int.natCast_nonneg _) (by omega)
 cases ead
 rw [Int.toNat_natCast] at x0 x1 x2 x3
 have y0 : w.cell? ⟨g, 0, none⟩ = some (.slice (some ad) M.length c) := (blk_cell hg 0).trans rfl
 have y1 : w.cell? ⟨g, 1, none⟩ = some (.int .i64 (i : Int)) := (blk_cell hg 1).trans rfl
 have d2 : decide (M.length ≤ i) = false := decide_eq_false (by omega)
 have gne : g ≠ w.heap.size := Nat.ne_of_lt (blk_lt hg)
 have ane : (ad.add (i * 4)).block ≠ w.heap.size := Nat.ne_of_lt (World.block_lt_of_cell? w _ x0)
 have d0 : decide ((i : Int) < 0) = false := decide_eq_false (by omega)
 have d1 : decide ((M.length : Int) ≤ (i : Int)) = false := decide_eq_false (by omega)
 have p0 : (0 : Int) ≤ (i : Int) := Int.natCast_nonneg _
 have p1 : (i : Int) < (M.length : Int) := by omega
 generalize rd_T31 M (i : Int) = e0 at x0 x1 x2 x3 ⊢
 have hgA := blk_alloc hg (.cells #[.string (⟨#[]⟩ : ByteArray), .int .i64 0, .int .i64 0, .string (⟨#[]⟩ : ByteArray)] 31)
 have y0A := (blk_cell hgA 0).trans rfl
 have y1A := (blk_cell hgA 1).trans rfl
 have x0A := (World.cell?_alloc_lt w (.cells #[.string (⟨#[]⟩ : ByteArray), .int .i64 0, .int .i64 0, .string (⟨#[]⟩ : ByteArray)] 31) _ (World.block_lt_of_cell? _ _ x0)).trans x0
 have x1A := (World.cell?_alloc_lt w (.cells #[.string (⟨#[]⟩ : ByteArray), .int .i64 0, .int .i64 0, .string (⟨#[]⟩ : ByteArray)] 31) _ (World.block_lt_of_cell? _ _ x1)).trans x1
 have x2A := (World.cell?_alloc_lt w (.cells #[.string (⟨#[]⟩ : ByteArray), .int .i64 0, .int .i64 0, .string (⟨#[]⟩ : ByteArray)] 31) _ (World.block_lt_of_cell? _ _ x2)).trans x2
 have x3A := (World.cell?_alloc_lt w (.cells #[.string (⟨#[]⟩ : ByteArray), .int .i64 0, .int .i64 0, .string (⟨#[]⟩ : ByteArray)] 31) _ (World.block_lt_of_cell? _ _ x3)).trans x3
 clear hC hg hl hgA y0 y1 x0 x1 x2 x3
 go_enter Try.func18, Try.ntmps18
 go_wp2
 go_quiet (fail)
 go_wp2
 have hgz : ((w.alloc (.cells #[.string (⟨#[]⟩ : ByteArray), .int .i64 0, .int .i64 0, .string (⟨#[]⟩ : ByteArray)] 31)).drewN nq).drew.heap[w.heap.size]? = some (.cells #[.string (⟨#[]⟩ : ByteArray), .int .i64 0, .int .i64 0, .string (⟨#[]⟩ : ByteArray)] 31 (0, 0)) := blk_drew (blk_drewN (blk_new w _) nq)
 have hbz : Below w.heap.size w ((w.alloc (.cells #[.string (⟨#[]⟩ : ByteArray), .int .i64 0, .int .i64 0, .string (⟨#[]⟩ : ByteArray)] 31)).drewN nq).drew := below_drew (pw_below_drewN (below_alloc (Below.refl _ _) _) nq)
 refine start_ (n := 12) (S := fun w' => w'.cell? ⟨g, 0, none⟩ = some (.slice (some ad) M.length c) ∧ w'.cell? ⟨g, 1, none⟩ = some (.int .i64 (i : Int)) ∧ w'.cell? (ad.add (i * 4)) = some (.string e0.f0.f0) ∧ w'.cell? ⟨(ad.add (i * 4)).block, (ad.add (i * 4)).off + 1, none⟩ = some (.int .i64 e0.f0.f1) ∧ w'.cell? ⟨(ad.add (i * 4)).block, (ad.add (i * 4)).off + 2, none⟩ = some (.int .i64 e0.f0.f2) ∧ w'.cell? ⟨(ad.add (i * 4)).block, (ad.add (i * 4)).off + 3, none⟩ = some (.string e0.f1)) (ds := [10]) #[false, false, false, false, false, false, false, false, false, false, false, false] (by kernel_rfl) rfl rfl ⟨y0A, y1A, x0A, x1A, x2A, x3A⟩ (fun hHeld => ?_); refine with_tabW seek_At.tab3 seek_At.bits3 (fun HT_ HW_ => ?_)
 generalize ((w.alloc (.cells #[.string (⟨#[]⟩ : ByteArray), .int .i64 0, .int .i64 0, .string (⟨#[]⟩ : ByteArray)] 31)).drewN nq).drew = wd at hgz hbz hHeld ⊢
 refine pure_ (i := 0) (N := some 26) (v := ?_) (a' := ?_) #[true, false, false, false, false, false, false, false, false, false, false, false] rfl rfl (any_of HT_.out (by kernel_rfl)) (fun _ _ _ h => h) (Or.inl ⟨by rfl, ?_⟩) ?_ ?_
 rotate_left
 ·
  intro w'
  go_simp
  with_reducible rfl
 rotate_left
 ·
  simp only [Act.put, List.setIfInBounds_toArray, List.set_cons_zero, List.set_cons_succ, i64_w, i32_w]
  rfl

 refine pure_ (i := 1) (N := some 27) (v := ?_) (a' := ?_) #[true, true, false, false, false, false, false, false, false, false, false, false] rfl rfl (any_of HT_.out (by kernel_rfl)) (fun _ _ _ h => h) (Or.inl ⟨by rfl, ?_⟩) ?_ ?_
 rotate_left
 ·
  intro w'
  go_simp
  with_reducible rfl
 rotate_left
 ·
  simp only [Act.put, List.setIfInBounds_toArray, List.set_cons_zero, List.set_cons_succ, i64_w, i32_w]
  rfl

 refine pure_ (i := 2) (N := some 28) (v := ?_) (a' := ?_) #[true, true, true, false, false, false, false, false, false, false, false, false] rfl rfl (any_of HT_.out (by kernel_rfl)) (fun _ _ _ h => h) (Or.inl ⟨by rfl, ?_⟩) ?_ ?_
 rotate_left
 ·
  intro w'
  go_simp
  with_reducible rfl
 rotate_left
 ·
  simp only [Act.put, List.setIfInBounds_toArray, List.set_cons_zero, List.set_cons_succ, i64_w, i32_w]
  rfl

 refine pure_ (i := 4) (N := some 30) (v := ?_) (a' := ?_) #[true, true, true, false, true, false, false, false, false, false, false, false] rfl rfl (any_of HT_.out (by kernel_rfl)) (fun _ _ _ h => h) (Or.inl ⟨by rfl, ?_⟩) ?_ ?_
 rotate_left
 ·
  intro w'
  go_simp
  with_reducible rfl
 rotate_left
 ·
  simp only [Act.put, List.setIfInBounds_toArray, List.set_cons_zero, List.set_cons_succ, i64_w, i32_w]
  rfl

 refine pure_ (i := 5) (N := some 31) (v := ?_) (a' := ?_) #[true, true, true, false, true, true, false, false, false, false, false, false] rfl rfl (any_of HT_.out (by kernel_rfl)) (fun _ _ _ h => h) (Or.inl ⟨by rfl, ?_⟩) ?_ ?_
 rotate_left
 ·
  intro w'
  go_simp
  with_reducible rfl
 rotate_left
 ·
  simp only [Act.put, List.setIfInBounds_toArray, List.set_cons_zero, List.set_cons_succ, i64_w, i32_w]
  rfl

 refine pure_ (i := 6) (N := some 32) (v := ?_) (a' := ?_) #[true, true, true, false, true, true, true, false, false, false, false, false] rfl rfl (any_of HT_.out (by kernel_rfl)) (fun _ _ _ h => h) (Or.inl ⟨by rfl, ?_⟩) ?_ ?_
 rotate_left
 ·
  intro w'
  go_simp
  with_reducible rfl
 rotate_left
 ·
  simp only [Act.put, List.setIfInBounds_toArray, List.set_cons_zero, List.set_cons_succ, i64_w, i32_w]
  rfl

 refine take_ (i := 3) (N := some 29) (v := ?_) (a' := ?_) #[true, true, true, true, true, true, true, false, false, false, false, false] rfl rfl (take_ofW HT_.out HW_.out (by kernel_rfl)) (fun _ _ _ h => h) (Or.inl ⟨by rfl, ?_⟩) hHeld ?_ ?_
 rotate_left
 ·
  rintro w' ⟨s0, s1, s2, s3, s4, s5⟩
  go_simp
  with_reducible rfl
 rotate_left
 ·
  simp only [Act.put, List.setIfInBounds_toArray, List.set_cons_zero, List.set_cons_succ, i64_w, i32_w]
  rfl

 refine take_ (i := 7) (N := some 33) (v := ?_) (a' := ?_) #[true, true, true, true, true, true, true, true, false, false, false, false] rfl rfl (take_ofW HT_.out HW_.out (by kernel_rfl)) (fun _ _ _ h => h) (Or.inl ⟨by rfl, ?_⟩) hHeld ?_ ?_
 rotate_left
 ·
  rintro w' ⟨s0, s1, s2, s3, s4, s5⟩
  go_simp
  with_reducible rfl
 rotate_left
 ·
  simp only [Act.put, List.setIfInBounds_toArray, List.set_cons_zero, List.set_cons_succ, i64_w, i32_w]
  rfl

 refine pure_ (i := 8) (N := some 34) (v := ?_) (a' := ?_) #[true, true, true, true, true, true, true, true, true, false, false, false] rfl rfl (any_of HT_.out (by kernel_rfl)) (fun _ _ _ h => h) (Or.inl ⟨by rfl, ?_⟩) ?_ ?_
 rotate_left
 ·
  intro w'
  go_simp
  with_reducible rfl
 rotate_left
 ·
  simp only [Act.put, List.setIfInBounds_toArray, List.set_cons_zero, List.set_cons_succ, i64_w, i32_w]
  rfl

 refine take_ (i := 9) (N := some 35) (v := ?_) (a' := ?_) #[true, true, true, true, true, true, true, true, true, true, false, false] rfl rfl (take_ofW HT_.out HW_.out (by kernel_rfl)) (fun _ _ _ h => h) (Or.inl ⟨by rfl, ?_⟩) hHeld ?_ ?_
 rotate_left
 ·
  rintro w' ⟨s0, s1, s2, s3, s4, s5⟩
  go_simp
  with_reducible rfl
 rotate_left
 ·
  simp only [Act.put, List.setIfInBounds_toArray, List.set_cons_zero, List.set_cons_succ, i64_w, i32_w]
  rfl

 refine last_ (i := 10) (N := none) #[true, true, true, true, true, true, true, true, true, true, true, false] rfl rfl (one_of HT_.out (by kernel_rfl)) (by decide) (fun K hK => ?_)
 have f0 := blk_frozen hgz 0
 have f1 := blk_frozen hgz 1
 have f2 := blk_frozen hgz 2
 have f3 := blk_frozen hgz 3
 have c0 : wd.cell? ⟨w.heap.size, 0, none⟩ = some (.string (⟨#[]⟩ : ByteArray)) := (blk_cell hgz 0).trans rfl
 have c1 : wd.cell? ⟨w.heap.size, 1, none⟩ = some (.int .i64 0) := (blk_cell hgz 1).trans rfl
 have c2 : wd.cell? ⟨w.heap.size, 2, none⟩ = some (.int .i64 0) := (blk_cell hgz 2).trans rfl
 have c3 : wd.cell? ⟨w.heap.size, 3, none⟩ = some (.string (⟨#[]⟩ : ByteArray)) := (blk_cell hgz 3).trans rfl
 refine skip_ (w1 := ?_) (by rfl) rfl ?_ ?_
 rotate_left
 ·
  go_simp
  rfl
 refine hK.out _ _ ?_
 clear hK K
 refine pure_ (i := 11) (N := some 3) (v := ?_) (a' := ?_) #[true, true, true, true, true, true, true, true, true, true, true, true] rfl rfl (any_of HT_.out (by kernel_rfl)) (fun _ _ _ h => h) (Or.inl ⟨by rfl, ?_⟩) ?_ ?_
 rotate_left
 ·
  intro w'
  go_simp
  with_reducible rfl
 rotate_left
 ·
  simp only [Act.put, List.setIfInBounds_toArray, List.set_cons_zero, List.set_cons_succ, i64_w, i32_w]
  rfl

 refine done_ (done_of HT_.out (by kernel_rfl)) ?_
 go_wp2
 have h1 := (blk_set hgz 0 (.string e0.f0.f0)).trans rfl
 have h2 := (blk_set h1 1 (.int .i64 e0.f0.f1)).trans rfl
 have h3 := (blk_set h2 2 (.int .i64 e0.f0.f2)).trans rfl
 have h4 := (blk_set h3 3 (.string e0.f1)).trans rfl
 refine bodyPost_ret (results_ct rfl _ _ w.heap.size 31 #[.string e0.f0.f0, .int .i64 e0.f0.f1, .int .i64 e0.f0.f2, .string e0.f1] (0, 0) _ rfl h4 hu31 rfl rfl) rfl ?_
 exact ⟨rfl, by repeat (first | exact hbz | refine below_set ?_ (Nat.le_refl _))⟩
set_option maxHeartbeats 4000000 in
set_option maxRecDepth 100000 in
theorem at_out (g : Nat) (A : Option Addr) (n c : Nat) (at_ : Int) (w : World) (h : at_ < 0 ∨ (n : Int) ≤ at_) (hg : w.heap[g]? = some (.cells #[.slice A n c, .int .i64 at_] 69 (0, 0))) :
 Calls Try.prog 18 #[.pointer (some ⟨g, 0, none⟩)] w fun e w' => e = .returned (.tuple #[.agg #[.string ⟨#[]⟩, .int .i64 0, .int .i64 0, .string ⟨#[]⟩], .bool false]) ∧ Below w.heap.size w w' := by
 have hu31 := Try.underlying31
 have hgA := blk_alloc hg (.cells #[.string (⟨#[]⟩ : ByteArray), .int .i64 0, .int .i64 0, .string (⟨#[]⟩ : ByteArray)] 31)
 have y0A := (blk_cell hgA 0).trans rfl
 have y1A := (blk_cell hgA 1).trans rfl
 clear hgA hg
 by_cases hn : at_ < 0
 ·
  have d0 : decide (at_ < 0) = true := decide_eq_true hn
  clear h
  go_enter Try.func18, Try.ntmps18
  go_wp2
  go_quiet (fail)
  go_wp2
  have h0 := blk_drewN (blk_new w (.cells #[.string (⟨#[]⟩ : ByteArray), .int .i64 0, .int .i64 0, .string (⟨#[]⟩ : ByteArray)] 31)) nq
  have h1 := (blk_set h0 0 (.string (⟨#[]⟩ : ByteArray))).trans rfl
  have h2 := (blk_set h1 1 (.int .i64 0)).trans rfl
  have h3 := (blk_set h2 2 (.int .i64 0)).trans rfl
  have h4 := (blk_set h3 3 (.string (⟨#[]⟩ : ByteArray))).trans rfl
  refine bodyPost_ret (results_ct rfl _ _ w.heap.size 31 #[.string (⟨#[]⟩ : ByteArray), .int .i64 0, .int .i64 0, .string (⟨#[]⟩ : ByteArray)] (0, 0) _ rfl h4 hu31 rfl rfl) rfl ?_
  exact ⟨rfl, by repeat (first | exact Below.refl _ _ | apply below_drew | apply pw_below_drewN | apply below_alloc | refine below_set ?_ (Nat.le_refl _))⟩
 ·
  have d0 : decide (at_ < 0) = false := decide_eq_false hn
  have hn2 : (n : Int) ≤ at_ := by omega
  have d1 : decide ((n : Int) ≤ at_) = true := decide_eq_true hn2
  clear h
  go_enter Try.func18, Try.ntmps18
  go_wp2
  go_quiet (fail)
  go_wp2
  have h0 := blk_drewN (blk_new w (.cells #[.string (⟨#[]⟩ : ByteArray), .int .i64 0, .int .i64 0, .string (⟨#[]⟩ : ByteArray)] 31)) nq
  have h1 := (blk_set h0 0 (.string (⟨#[]⟩ : ByteArray))).trans rfl
  have h2 := (blk_set h1 1 (.int .i64 0)).trans rfl
  have h3 := (blk_set h2 2 (.int .i64 0)).trans rfl
  have h4 := (blk_set h3 3 (.string (⟨#[]⟩ : ByteArray))).trans rfl
  refine bodyPost_ret (results_ct rfl _ _ w.heap.size 31 #[.string (⟨#[]⟩ : ByteArray), .int .i64 0, .int .i64 0, .string (⟨#[]⟩ : ByteArray)] (0, 0) _ rfl h4 hu31 rfl rfl) rfl ?_
  exact ⟨rfl, by repeat (first | exact Below.refl _ _ | apply below_drew | apply pw_below_drewN | apply below_alloc | refine below_set ?_ (Nat.le_refl _))⟩
theorem szA (w : World) (o : Obj) : (w.alloc o).heap.size = w.heap.size + 1 := Array.size_push ..
theorem Below.lower {B B' : Nat} {a w : World} (h : Below B a w) (hb : B' ≤ B) : Below B' a w := ⟨h.os, h.tape, h.output, h.size, fun k hk => h.block k (Nat.lt_of_lt_of_le hk hb)⟩
theorem next_j (g : Nat) (A : Option Addr) (n c : Nat) (j : Nat) (w : World) (h1 : j ≤ n) (hl : n ≤ 1000) (hg : w.heap[g]? = some (.cells #[.slice A n c, .int .i64 ((j : Int) - 1)] 69 (0, 0))) :
 Calls Try.prog 17 #[.pointer (some ⟨g, 0, none⟩)] w fun e w' => e = .returned (.bool (decide (j < n))) ∧ Set1 g (j : Int) w w' := by
 have h := next_Call g A n c ((j : Int) - 1) w (by omega) (by omega) hl hg
 rw [Int.sub_add_cancel] at h
 have e : decide ((j : Int) < (n : Int)) = decide (j < n) := by by_cases c : j < n <;> simp [c]
 rw [e] at h
 exact h
theorem prev_j (g : Nat) (A : Option Addr) (n c : Nat) (j : Nat) (w : World) (h1 : j ≤ n) (hl : n ≤ 1000) (hg : w.heap[g]? = some (.cells #[.slice A n c, .int .i64 (j : Int)] 69 (0, 0))) :
 Calls Try.prog 19 #[.pointer (some ⟨g, 0, none⟩)] w fun e w' => e = .returned (.bool (decide (1 ≤ j))) ∧ Set1 g ((j : Int) - 1) w w' := by
 have h := prev_Call g A n c (j : Int) w (by omega) (by omega) hl hg
 have e : decide (1 ≤ (j : Int)) = decide (1 ≤ j) := by by_cases c : 1 ≤ j <;> simp [c] <;> omega
 rw [e] at h
 exact h
theorem Set1.R {g base : Nat} {v : Int} {w w' : World} {u : Value} {xs : List S31} (h : Set1 g v w w') (hb : g < base) (hR : Kd.R k31 31 w base (fun _ => True) u xs) : Kd.R k31 31 w' base (fun _ => True) u xs :=
 Kd.R_mono (Kd.R_move (Kd.R_bound hR) (fun k hk => h.far (by have := hk.2.1; omega))) (fun _ _ => trivial)
theorem noDup.mono (k : Nat) (L : List S31) (h : noDup k L = true) : noDup (k + 1) L = true := by
 unfold noDup at h ⊢
 rw [List.all_eq_true] at h ⊢
 intro n hn
 have h1 := h n hn
 have h2 := beq_iff_eq.1 h1
 exact beq_iff_eq.2 (seek_New_2.mono _ _ _ _ _ _ _ _ k _ h2)
theorem seek_New.mono : ∀ a0 k, LeO (seek_New.f k a0) (seek_New.f (k + 1) a0) := by
 intro a0 k
 unfold seek_New.f
 refine LeO.bind (LeO.refl _) (fun c => LeO.bind (api_Entry_43.mono _ _) (fun M => ?_))
 intro r h
 by_cases g : M.length ≤ 1000 ∧ noDup k M = true
 ·
  rw [if_pos g] at h
  rw [if_pos ⟨g.1, noDup.mono k M g.2⟩]; exact h
 · rw [if_neg g] at h; cases h
def seekOk (k : Nat) (M : List S31) (u : ByteArray) (s d : Int) : Bool := (List.range M.length).all fun i => match key_Cmp.f k (rd_T31 M (i : Int)).f0.f0 (rd_T31 M (i : Int)).f0.f1 (rd_T31 M (i : Int)).f0.f2 u s d with
 | some c => decide (0 ≤ c) == decide (Mem_at u s d M ≤ i)
 | none => false
def findsOk (M : List S31) (u : ByteArray) (s d : Int) (n : Nat) : Bool :=
 (decide (M.length ≤ Mem_at u s d M) || !Mem_below (rd_T31 M (Mem_at u s d M : Int)) u s d) && (decide (Mem_at u s d M = 0) || Mem_below (rd_T31 M ((Mem_at u s d M : Int) - 1)) u s d) && (decide (0 < Mem_at u s d M) || decide (0 < M.length) || decide (n = 0))
def keyD (D : ByteArray) : ByteArray := (⟨#[107, 101, 121]⟩ : ByteArray) ++ D
def iceboxlaw14_SeekFinds.f (k : Nat) (l0 : List Int) (a1 a2 : Int) : Option Bool :=
 if (l0.length : Int) > 80 then iceboxlaw14_awake.f k else
  if 0 ≤ a1 ∧ a1 ≤ 255 ∧ 0 ≤ a2 ∧ a2 ≤ 255 then
  ((iceboxlaw12_Make.f k l0 9).bind fun L => (seek_New.f k L).bind fun M => (iceboxref1_Digits.f k (a1 % 15)).bind fun D =>
   if M.length ≤ 200 ∧ D.size ≤ 1000 ∧ seekOk k M (keyD D) a2 1 = true ∧ findsOk M (keyD D) a2 1 l0.length = true then iceboxlaw14_awake.f k else none) else none
set_option maxHeartbeats 4000000 in
set_option maxRecDepth 100000 in
theorem lit_x (k : Nat) (x y g : Nat) (A : Option Addr) (c : Nat) (M : List S31) (at_ : Int) (h : Nat) (u : ByteArray) (s d t : Int) (w : World) (hh : h < M.length) (hl : M.length ≤ 1000)
 (hx : w.heap[x]? = some (.cells #[.pointer (some ⟨g, 0, none⟩)] 26 (0, 0))) (hy : w.heap[y]? = some (.cells #[.string u, .int .i64 s, .int .i64 d] 29 (0, 0)))
 (hg : w.heap[g]? = some (.cells #[.slice A M.length c, .int .i64 at_] 69 (0, 0))) (hC : Kd.C k31 w A M.length M)
 (ht : key_Cmp.f k (rd_T31 M (h : Int)).f0.f0 (rd_T31 M (h : Int)).f0.f1 (rd_T31 M (h : Int)).f0.f2 u s d = some t) :
 Calls Try.prog 55 #[.int .i64 h, .pointer (some ⟨x, 0, none⟩), .pointer (some ⟨y, 0, none⟩)] w fun e w' => e = .returned (.bool (decide (0 ≤ t))) ∧ Below w.heap.size w w' := by
 obtain ⟨ad, ead, x0, x1, x2, x3⟩ := at_T31 hC (h : Int) (Int.natCast_nonneg _) (by omega)
 cases ead
 rw [Int.toNat_natCast] at x0 x1 x2 x3
 have y0 : w.cell? ⟨x, 0, none⟩ = some (.pointer (some ⟨g, 0, none⟩)) := (blk_cell hx 0).trans rfl
 have g0 : w.cell? ⟨g, 0, none⟩ = some (.slice (some ad) M.length c) := (blk_cell hg 0).trans rfl
 have z0 : w.cell? ⟨y, 0, none⟩ = some (.string u) := (blk_cell hy 0).trans rfl
 have z1 : w.cell? ⟨y, 1, none⟩ = some (.int .i64 s) := (blk_cell hy 1).trans rfl
 have z2 : w.cell? ⟨y, 2, none⟩ = some (.int .i64 d) := (blk_cell hy 2).trans rfl
 have p0 : (0 : Int) ≤ (h : Int) := Int.natCast_nonneg _
 have p1 : (h : Int) < (M.length : Int) := by omega
 have HT := Aside0.mk ht
 clear ht hx hy hg hC
 go_enter Try.func55, Try.ntmps55
 go_wp2
 go_region_held3 (fun w' => w'.cell? ⟨x, 0, none⟩ = some (.pointer (some ⟨g, 0, none⟩)) ∧ w'.cell? ⟨g, 0, none⟩ = some (.slice (some ad) M.length c) ∧ w'.cell? ⟨y, 0, none⟩ = some (.string u) ∧ w'.cell? ⟨y, 1, none⟩ = some (.int .i64 s) ∧ w'.cell? ⟨y, 2, none⟩ = some (.int .i64 d) ∧ w'.cell? (ad.add (h * 4)) = some (.string (rd_T31 M h).f0.f0) ∧ w'.cell? ⟨(ad.add (h * 4)).block, (ad.add (h * 4)).off + 1, none⟩ = some (.int .i64 (rd_T31 M h).f0.f1) ∧ w'.cell? ⟨(ad.add (h * 4)).block, (ad.add (h * 4)).off + 2, none⟩ = some (.int .i64 (rd_T31 M h).f0.f2) ∧ Below w.heap.size w w')
  ((repeat' apply And.intro) <;> (first | assumption | exact below_drew (Below.refl _ _) | exact Below.refl _ _ | exact below_step (below_drew (Below.refl _ _)) hb2 | exact pw_cell_below (by assumption) (by assumption) | go_keep))
  (first | (go_at_call 45; refine (key_Cmp.calls k _ _ _ _ _ _ t _ HT.out).mono ?_; rintro e w2 ⟨rfl, hb2⟩))
 go_wp2
 go_ret
 exact ⟨rfl, below_step (below_drew (Below.refl _ _)) hb2⟩
set_option maxHeartbeats 4000000 in
set_option maxRecDepth 100000 in
theorem search_x (k : Nat) (x y g : Nat) (A : Option Addr) (c : Nat) (M : List S31) (at_ : Int) (u : ByteArray) (s d : Int) (p : Nat) (w : World) (hp : p ≤ M.length) (hl : M.length ≤ 1000)
 (hx : w.heap[x]? = some (.cells #[.pointer (some ⟨g, 0, none⟩)] 26 (0, 0))) (hy : w.heap[y]? = some (.cells #[.string u, .int .i64 s, .int .i64 d] 29 (0, 0)))
 (hg : w.heap[g]? = some (.cells #[.slice A M.length c, .int .i64 at_] 69 (0, 0))) (hC : Kd.C k31 w A M.length M)
 (hS : ∀ h : Nat, h < M.length → ∃ t, key_Cmp.f k (rd_T31 M (h : Int)).f0.f0 (rd_T31 M (h : Int)).f0.f1 (rd_T31 M (h : Int)).f0.f2 u s d = some t ∧ decide (0 ≤ t) = decide (p ≤ h)) :
 Calls Try.prog 54 #[.int .i64 M.length, .func (.func 55) #[] #[.pointer (some ⟨x, 0, none⟩), .pointer (some ⟨y, 0, none⟩)]] w fun e w' => e = .returned (.int .i64 p) ∧ Below w.heap.size w w' := by
 have HX := Aside0.mk hx
 have HY := Aside0.mk hy
 have HG := Aside0.mk hg
 have HC := Aside0.mk hC
 have HS := Aside0.mk hS
 clear hx hy hg hC hS
 obtain ⟨n, en⟩ : ∃ n, n = M.length := ⟨_, rfl⟩
 rw [← en] at hp hl ⊢
 have EN := Aside0.mk en
 clear en
 go_enter Try.func54, Try.ntmps54
 go_wp2
 go_loopw [5, 6] (fun v5 v6 wr => ∃ i j : Nat, i ≤ p ∧ p ≤ j ∧ j ≤ n ∧ v5 = .int .i64 i ∧ v6 = .int .i64 j ∧ Aside0 (Below w.heap.size w wr)) (fun v5 v6 _ => (intOf v6).toNat - (intOf v5).toNat)
 case atStart => exact ⟨0, n, Nat.zero_le _, hp, Nat.le_refl _, rfl, rfl, ⟨Below.refl _ _⟩⟩
 case round =>
  obtain ⟨i, j, h1, h2, h3, e5, e6, HB⟩ := hrel
  subst e5 e6
  by_cases cij : (i : Int) < (j : Int)
  ·
   have q0 : decide ((i : Int) < (j : Int)) = true := decide_eq_true cij
   have q1 : decide (i < j) = true := decide_eq_true (by omega)
   have e1 : IntKind.i64.wrap ((i : Int) + (j : Int)) = (i : Int) + (j : Int) := by rw [i64_w]; unfold Go.RowKit.wrap64; omega
   obtain ⟨h, eh⟩ : ∃ h : Nat, h = (i + j) / 2 := ⟨_, rfl⟩
   have eh2 : ((i : Int) + (j : Int)) / 2 = (h : Int) := by omega
   have hi : i ≤ h := by omega
   have hj : h < j := by omega
   have EH := Aside0.mk eh
   clear eh
   obtain ⟨t, ht, hd⟩ := HS.out h (by have := EN.out; omega)
   have HT := Aside0.mk ht
   clear ht
   have hw1 : (h : Int) + 1 ≤ 1000 := by omega
   by_cases cp : p ≤ h
   ·
    rw [decide_eq_true cp] at hd
    go_wp2_with (first
     | (go_at_call 55; (try rw [eh2]); ((with_reducible refine (lit_x k x y g A c M at_ h u s d t _ ?sa ?sb ?sc ?sd ?se ?sf HT.out).mono ?_)); (case sa => have := EN.out; omega); (case sb => have := EN.out; omega); (case sc => exact blk_below HX.out HB.out); (case sd => exact blk_below HY.out HB.out); (case se => exact blk_below HG.out HB.out); (case sf => exact Kd.C_below HC.out HB.out); rintro e w1 ⟨rfl, hb⟩; have B1 := Aside0.mk (below_step HB.out hb); clear hb)
     | fail)
    go_roundw
    case rel => exact ⟨i, h, h1, cp, by omega, rfl, rfl, B1⟩
    case measure => simp [intOf]; omega
   ·
    rw [decide_eq_false cp] at hd
    go_wp2_with (first
     | (go_at_call 55; (try rw [eh2]); ((with_reducible refine (lit_x k x y g A c M at_ h u s d t _ ?sa ?sb ?sc ?sd ?se ?sf HT.out).mono ?_)); (case sa => have := EN.out; omega); (case sb => have := EN.out; omega); (case sc => exact blk_below HX.out HB.out); (case sd => exact blk_below HY.out HB.out); (case se => exact blk_below HG.out HB.out); (case sf => exact Kd.C_below HC.out HB.out); rintro e w1 ⟨rfl, hb⟩; have B1 := Aside0.mk (below_step HB.out hb); clear hb)
     | fail)
    go_roundw
    case rel => exact ⟨h + 1, j, by omega, h2, h3, by go_num, rfl, B1⟩
    case measure => simp [intOf]; omega
  ·
   have q0 : decide ((i : Int) < (j : Int)) = false := decide_eq_false cij
   have q1 : decide (i < j) = false := decide_eq_false (by omega)
   have ei : i = p := by omega
   subst ei
   go_wp2
   go_ret
   exact ⟨rfl, HB.out⟩
def seek_Seek.T3 : Bool × List (List Nat × List Nat) := (true, [([], []), ([], []), ([1], [1]), ([2], [2]), ([3], [3]), ([4], [4]), ([], []), ([5, 6], [5, 6]), ([0, 0, 1, 2, 3, 4, 5, 6, 7], [0]), ([8, 0, 1, 2, 3, 4, 5, 6, 7], [8]), ([9, 7, 7, 0, 1, 2, 3, 4, 5, 6, 7], [7, 9])])
def seek_Seek.B3 : List Nat := [0, 0, 2, 6, 14, 30, 0, 126, 255, 511, 1023]
theorem seek_Seek.tab3 : rtab .any (opsOf Try.f30 3) = seek_Seek.T3 := by kernel_rfl
theorem seek_Seek.bits3 : waitsOk seek_Seek.T3.2 seek_Seek.B3 = true := by kernel_rfl
set_option maxHeartbeats 4000000 in
set_option maxRecDepth 100000 in
theorem seek_Call (k g : Nat) (A : Option Addr) (c : Nat) (M : List S31) (at_ : Int) (u : ByteArray) (s d : Int) (w : World) (hl : M.length ≤ 1000)
 (hg : w.heap[g]? = some (.cells #[.slice A M.length c, .int .i64 at_] 69 (0, 0))) (hC : Kd.C k31 w A M.length M) (hS : seekOk k M u s d = true) :
 Calls Try.prog 30 #[.pointer (some ⟨g, 0, none⟩), .agg #[.string u, .int .i64 s, .int .i64 d]] w fun e w' => e = .returned (.bool (decide (Mem_at u s d M < M.length))) ∧ ∃ wq, Below w.heap.size w wq ∧ Set1 g (Mem_at u s d M : Int) wq w' := by
 have hu29 := Try.underlying29
 have HG := Aside0.mk hg
 have HC := Aside0.mk hC
 have HS := Aside0.mk (show ∀ h : Nat, h < M.length → ∃ t, key_Cmp.f k (rd_T31 M (h : Int)).f0.f0 (rd_T31 M (h : Int)).f0.f1 (rd_T31 M (h : Int)).f0.f2 u s d = some t ∧ decide (0 ≤ t) = decide (Mem_at u s d M ≤ h) by
  intro h hh
  have h2 := List.all_eq_true.1 hS h (List.mem_range.2 hh)
  cases e : key_Cmp.f k (rd_T31 M (h : Int)).f0.f0 (rd_T31 M (h : Int)).f0.f1 (rd_T31 M (h : Int)).f0.f2 u s d with
  | none => rw [e] at h2; cases h2
  | some t => rw [e] at h2; exact ⟨t, rfl, beq_iff_eq.1 h2⟩)
 have HP := Aside0.mk (show Mem_at u s d M ≤ M.length from Mem_at_le u s d M)
 clear hg hC hS
 generalize Mem_at u s d M = p at HS HP ⊢
 go_enter Try.func30, Try.ntmps30
 go_wp2
 obtain ⟨wd, ewd⟩ : ∃ wd, wd = (((w.alloc (.cells #[.pointer (some ⟨g, 0, none⟩)] 26)).alloc (.cells #[.string u, .int .i64 s, .int .i64 d] 29))).drew := ⟨_, rfl⟩
 have hX : wd.heap[w.heap.size]? = some (.cells #[.pointer (some ⟨g, 0, none⟩)] 26 (0, 0)) := by rw [ewd]; exact blk_drew (blk_alloc (blk_new w _) _)
 have hY : wd.heap[w.heap.size + 1]? = some (.cells #[.string u, .int .i64 s, .int .i64 d] 29 (0, 0)) := by
  have h := blk_new (w.alloc (.cells #[.pointer (some ⟨g, 0, none⟩)] 26)) (.cells #[.string u, .int .i64 s, .int .i64 d] 29)
  rw [szA] at h
  rw [ewd]; exact blk_drew h
 have hgd : wd.heap[g]? = some (.cells #[.slice A M.length c, .int .i64 at_] 69 (0, 0)) := by rw [ewd]; exact blk_drew (blk_alloc (blk_alloc HG.out _) _)
 have hbd : Below w.heap.size w wd := by rw [ewd]; exact below_drew (below_alloc (below_alloc (Below.refl _ _) _) _)
 have HX := Aside0.mk hX
 have HY := Aside0.mk hY
 have HGd := Aside0.mk hgd
 have HBd := Aside0.mk hbd
 have HCd := Aside0.mk (Kd.C_below HC.out hbd)
 have cX := (blk_cell hX 0).trans rfl
 have cG := (blk_cell hgd 0).trans rfl
 clear hX hY hgd hbd
 rw [ewd] at cX cG
 refine start_ (n := 11) (S := fun w' => w'.cell? ⟨w.heap.size, 0, none⟩ = some (.pointer (some ⟨g, 0, none⟩)) ∧ w'.cell? ⟨g, 0, none⟩ = some (.slice A M.length c)) (ds := [10]) #[false, false, false, false, false, false, false, false, false, false, false] (by kernel_rfl) rfl rfl ⟨cX, cG⟩ (fun hHeld => ?_); refine with_tabW seek_Seek.tab3 seek_Seek.bits3 (fun HT_ HW_ => ?_)
 rw [← ewd] at cX cG hHeld ⊢
 clear ewd
 refine pure_ (i := 6) (N := some 13) (v := ?_) (a' := ?_) #[false, false, false, false, false, false, true, false, false, false, false] rfl rfl (any_of HT_.out (by kernel_rfl)) (fun _ _ _ h => h) (Or.inl ⟨by rfl, ?_⟩) ?_ ?_
 rotate_left
 ·
  intro w'
  go_simp
  with_reducible rfl
 rotate_left
 ·
  simp only [Act.put, List.setIfInBounds_toArray, List.set_cons_zero, List.set_cons_succ, i64_w, i32_w]
  rfl

 refine take_ (i := 0) (N := some 7) (v := ?_) (a' := ?_) #[true, false, false, false, false, false, true, false, false, false, false] rfl rfl (take_ofW HT_.out HW_.out (by kernel_rfl)) (fun _ _ _ h => h) (Or.inl ⟨by rfl, ?_⟩) hHeld ?_ ?_
 rotate_left
 ·
  rintro w' ⟨s0, s1⟩
  go_simp
  with_reducible rfl
 rotate_left
 ·
  simp only [Act.put, List.setIfInBounds_toArray, List.set_cons_zero, List.set_cons_succ, i64_w, i32_w]
  rfl

 refine take_ (i := 1) (N := some 8) (v := ?_) (a' := ?_) #[true, true, false, false, false, false, true, false, false, false, false] rfl rfl (take_ofW HT_.out HW_.out (by kernel_rfl)) (fun _ _ _ h => h) (Or.inl ⟨by rfl, ?_⟩) hHeld ?_ ?_
 rotate_left
 ·
  rintro w' ⟨s0, s1⟩
  go_simp
  with_reducible rfl
 rotate_left
 ·
  simp only [Act.put, List.setIfInBounds_toArray, List.set_cons_zero, List.set_cons_succ, i64_w, i32_w]
  rfl

 refine pure_ (i := 2) (N := some 9) (v := ?_) (a' := ?_) #[true, true, true, false, false, false, true, false, false, false, false] rfl rfl (any_of HT_.out (by kernel_rfl)) (fun _ _ _ h => h) (Or.inl ⟨by rfl, ?_⟩) ?_ ?_
 rotate_left
 ·
  intro w'
  go_simp
  with_reducible rfl
 rotate_left
 ·
  simp only [Act.put, List.setIfInBounds_toArray, List.set_cons_zero, List.set_cons_succ, i64_w, i32_w]
  rfl

 refine pure_ (i := 3) (N := some 10) (v := ?_) (a' := ?_) #[true, true, true, true, false, false, true, false, false, false, false] rfl rfl (any_of HT_.out (by kernel_rfl)) (fun _ _ _ h => h) (Or.inl ⟨by rfl, ?_⟩) ?_ ?_
 rotate_left
 ·
  intro w'
  go_simp
  with_reducible rfl
 rotate_left
 ·
  simp only [Act.put, List.setIfInBounds_toArray, List.set_cons_zero, List.set_cons_succ, i64_w, i32_w]
  rfl

 refine take_ (i := 4) (N := some 11) (v := ?_) (a' := ?_) #[true, true, true, true, true, false, true, false, false, false, false] rfl rfl (take_ofW HT_.out HW_.out (by kernel_rfl)) (fun _ _ _ h => h) (Or.inl ⟨by rfl, ?_⟩) hHeld ?_ ?_
 rotate_left
 ·
  rintro w' ⟨s0, s1⟩
  go_simp
  with_reducible rfl
 rotate_left
 ·
  simp only [Act.put, List.setIfInBounds_toArray, List.set_cons_zero, List.set_cons_succ, i64_w, i32_w]
  rfl

 refine pure_ (i := 5) (N := some 12) (v := ?_) (a' := ?_) #[true, true, true, true, true, true, true, false, false, false, false] rfl rfl (any_of HT_.out (by kernel_rfl)) (fun _ _ _ h => h) (Or.inl ⟨by rfl, ?_⟩) ?_ ?_
 rotate_left
 ·
  intro w'
  go_simp
  with_reducible rfl
 rotate_left
 ·
  simp only [Act.put, List.setIfInBounds_toArray, List.set_cons_zero, List.set_cons_succ, i64_w, i32_w]
  rfl

 refine one_ (i := 7) (N := some 14) #[true, true, true, true, true, true, true, true, false, false, false] rfl rfl (one_of HT_.out (by kernel_rfl)) (by decide) (fun K hK => ?_)
 refine goes_ Try.func54 (by kernel_rfl) rfl #[.int .i64 M.length, .func (.func 55) #[] #[.pointer (some ⟨w.heap.size, 0, none⟩), .pointer (some ⟨w.heap.size + 1, 0, none⟩)]] (by rfl) rfl rfl (by first | rfl | (simp [Act.eval]; done) | (go_simp; done) | (simp [Act.eval]; rfl)) ?_
 refine (search_x k w.heap.size (w.heap.size + 1) g A c M at_ u s d p wd HP.out hl HX.out HY.out HGd.out HCd.out HS.out).mono ?_
 rintro e w1 ⟨rfl, hb⟩
 have hX1 := blk_below HX.out hb
 have hG1 := blk_below HGd.out hb
 have HX1 := Aside0.mk hX1
 have HG1 := Aside0.mk hG1
 have HB1 := Aside0.mk (below_step HBd.out hb)
 have f1 := blk_frozen hG1 1
 have c1 : w1.cell? ⟨g, 1, none⟩ = some (.int .i64 at_) := (blk_cell hG1 1).trans rfl
 have cX1 := (blk_cell hX1 0).trans rfl
 have cG1 := (blk_cell hG1 0).trans rfl
 clear hX1 hG1 hb hHeld cX cG
 refine ⟨_, rfl, hK.out _ _ ⟨cX1, cG1⟩ (fun hHeld => ?_)⟩
 clear hK K
 refine norm_ (a' := ?_) ?_ ?_
 rotate_left
 ·
  show Act.put _ (some 14) _ = _
  simp only [Act.put, List.setIfInBounds_toArray, List.set_cons_zero, List.set_cons_succ, i64_w, i32_w]
  rfl
 refine pure_ (i := 8) (N := some 15) (v := ?_) (a' := ?_) #[true, true, true, true, true, true, true, true, true, false, false] rfl rfl (any_of HT_.out (by kernel_rfl)) (fun _ _ _ h => h) (Or.inl ⟨by rfl, ?_⟩) ?_ ?_
 rotate_left
 ·
  intro w'
  go_simp
  with_reducible rfl
 rotate_left
 ·
  simp only [Act.put, List.setIfInBounds_toArray, List.set_cons_zero, List.set_cons_succ, i64_w, i32_w]
  rfl

 refine pure_ (i := 9) (N := some 16) (v := ?_) (a' := ?_) #[true, true, true, true, true, true, true, true, true, true, false] rfl rfl (any_of HT_.out (by kernel_rfl)) (fun _ _ _ h => h) (Or.inl ⟨by rfl, ?_⟩) ?_ ?_
 rotate_left
 ·
  intro w'
  go_simp
  with_reducible rfl
 rotate_left
 ·
  simp only [Act.put, List.setIfInBounds_toArray, List.set_cons_zero, List.set_cons_succ, i64_w, i32_w]
  rfl

 refine last_ (i := 10) (N := none) #[true, true, true, true, true, true, true, true, true, true, true] rfl rfl (one_of HT_.out (by kernel_rfl)) (by decide) (fun K hK => ?_)
 refine skip_ (w1 := ?_) (by rfl) rfl ?_ ?_
 rotate_left
 ·
  go_simp
  rfl
 refine hK.out _ _ ?_
 clear hK K
 refine done_ (done_of HT_.out (by kernel_rfl)) ?_
 have hG2 := (blk_set HG1.out 1 (.int .i64 p)).trans rfl
 have hX2 : (w1.setCell ⟨g, 1, none⟩ (.int .i64 p)).heap[w.heap.size]? = some (.cells #[.pointer (some ⟨g, 0, none⟩)] 26 (0, 0)) := by
  have hne : w.heap.size ≠ g := fun e => by have := blk_lt HG.out; omega
  rw [← HX1.out]; exact Set1.far ⟨0, 0, rfl⟩ hne
 have cX2 := (blk_cell hX2 0).trans rfl
 have cG2 := (blk_cell hG2 0).trans rfl
 have cH2 := (blk_cell hG2 1).trans rfl
 clear hG2 hX2 cX1 cG1 c1 f1 hHeld
 have E2 : ∃ q, w1.setCell ⟨g, 1, none⟩ (.int .i64 p) = (w1.setCell ⟨g, 1, none⟩ (.int .i64 p)).drewN q := ⟨0, rfl⟩
 generalize hw2 : w1.setCell ⟨g, 1, none⟩ (.int .i64 p) = w2 at cX2 cG2 cH2 ⊢
 have HW2 := Aside0.mk hw2
 clear hw2 E2
 have pz : decide ((p : Int) < (M.length : Int)) = decide (p < M.length) := by by_cases c : p < M.length <;> simp [c]
 go_wp2
 go_quiet (fail)
 go_wp2
 go_ret
 exact ⟨rfl, w1, HB1.out, 0, _, by rw [← HW2.out]; rfl⟩
theorem seek_p (k g : Nat) (A : Option Addr) (c : Nat) (M : List S31) (at_ : Int) (u : ByteArray) (s d : Int) (p : Nat) (w : World) (hl : M.length ≤ 1000)
 (hg : w.heap[g]? = some (.cells #[.slice A M.length c, .int .i64 at_] 69 (0, 0))) (hC : Kd.C k31 w A M.length M) (hS : seekOk k M u s d = true) (hp : Mem_at u s d M = p) :
 Calls Try.prog 30 #[.pointer (some ⟨g, 0, none⟩), .agg #[.string u, .int .i64 s, .int .i64 d]] w fun e w' => e = .returned (.bool (decide (p < M.length))) ∧ ∃ wq, Below w.heap.size w wq ∧ Set1 g (p : Int) wq w' := by
 subst hp
 exact seek_Call k g A c M at_ u s d w hl hg hC hS
set_option maxHeartbeats 4000000 in
set_option maxRecDepth 100000 in
theorem finds_in0 (k : Nat) (A0 : Option Addr) (c0 : Nat) (l0 : List Int) (a1 a2 : Int) (w : World) (hr0 : Kd.C (Kd.int .u8) w A0 l0.length l0) (hc0 : l0.length ≤ c0) (L M : List S31) (D : ByteArray) (HL : Aside0 (iceboxlaw12_Make.f k l0 9 = some L)) (HM : Aside0 (seek_New.f k L = some M)) (HD : Aside0 (iceboxref1_Digits.f k (a1 % 15) = some D))
 (n0 : 0 ≤ a1) (n1 : a1 ≤ 255) (m0 : 0 ≤ a2) (m1 : a2 ≤ 255) (g4 : M.length ≤ 200) (gD : D.size ≤ 1000) (U : ByteArray) (eU : (⟨#[107, 101, 121]⟩ : ByteArray) ++ D = U) (HS : Aside0 (seekOk k M U a2 1 = true)) (d1 : decide (80 < (l0.length : Int)) = false) (d1' : decide (80 < l0.length) = false) (HA : Aside0 (iceboxlaw14_awake.f k = some true))
 (p : Nat) (EP : Aside0 (p = 0)) (q6 : decide (1 ≤ p) = false) (hp : Aside0 (Mem_at U a2 1 M = p)) (PL : Aside0 (p < M.length)) (q1 : decide (p < M.length) = true) (t : Int) (HT : Aside0 (iceboxref1_Cmp.f (rd_T31 M (p : Int)).f0.f0 (rd_T31 M (p : Int)).f0.f1 (rd_T31 M (p : Int)).f0.f2 U a2 1 = some t)) (q3 : decide (t < 0) = false) :
 Calls Try.prog 11 #[.slice A0 l0.length c0, .int .u8 a1, .int .u8 a2] w fun e w' => e = .returned (.bool true) ∧ Below w.heap.size w w' := by
 have hu31 := Try.underlying31
 have hu29 := Try.underlying29
 have HR0 := Aside0.mk hr0
 have HC0 := Aside0.mk hc0
 have G4 := Aside0.mk g4
 clear hr0 hc0 g4
 go_enter Try.func11, Try.ntmps11
 go_wp2_with (first
  | (go_at_call 15; (with_reducible refine (iceboxlaw12_Make.calls k _ _ l0 9 L _ ?sa ?sb HL.out).mono ?_); (case sa => exact HR0.out); (case sb => exact HC0.out); rintro e w1 ⟨v1, rfl, ho1, hb1⟩; obtain ⟨A2, c2, rfl, hc2, hC2⟩ := Kd.R_reads ho1; have B1 := Aside0.mk hb1; have C1 := Aside0.mk hC2; have L1 := Aside0.mk hc2; clear ho1 hb1 hC2 hc2)
  | (go_at_call 16; (with_reducible refine (seek_New.calls k _ _ L M _ ?sa ?sb HM.out).mono ?_); (case sa => exact C1.out); (case sb => exact L1.out); rintro e w2 ⟨wb, A3, c3, rfl, ew2, hC3, hb3⟩; subst ew2; have B2 := Aside0.mk hb3; have C3 := Aside0.mk hC3; clear hb3 hC3; have HG0 := Aside0.mk (show (wb.alloc (.cells #[.slice A3 M.length c3, .int .i64 (-1)] 69)).heap[wb.heap.size]? = some (.cells #[.slice A3 M.length c3, .int .i64 (-1)] 69 (0, 0)) from heap_alloc_new wb _); have HS0 := Aside0.mk (szA wb (.cells #[.slice A3 M.length c3, .int .i64 (-1)] 69)))
  | (go_at_call 29; (with_reducible refine (iceboxref1_Digits.calls k (a1 % 15) D _ HD.out).mono ?_); rintro e w3 ⟨rfl, hb⟩; have HG3 := Aside0.mk (blk_below HG0.out hb); have HB3 := Aside0.mk ((below_alloc (Below.refl _ _) _).trans (Below.lower hb (by rw [HS0.out]; exact Nat.le_succ _)) : Below wb.heap.size wb w3); clear hb HS0 HG0)
  | (go_at_call 30; (with_reducible refine (seek_p k wb.heap.size A3 c3 M (-1) U a2 1 p _ ?sa ?sb ?sc HS.out hp.out).mono ?_); (case sa => have := G4.out; omega); (case sb => exact blk_alloc HG3.out _); (case sc => exact Kd.C_below C3.out (below_alloc HB3.out _)); rintro e w4 ⟨rfl, wq, hb, hs⟩; have E4 := Aside0.mk (hs.at_ (blk_below (blk_alloc HG3.out _) hb)); have NE := Aside0.mk (show w3.heap.size ≠ wb.heap.size by have := blk_lt HG3.out; omega); have B4 := Aside0.mk (hs.below (below_then (below_alloc HB3.out _) (below_alloc HB3.out _).size hb) (Nat.le_refl _)); have K4 := Aside0.mk ((hs.far NE.out).trans (blk_below (blk_new w3 _) hb)); clear hb hs HG3 HS hp)
  | (go_at_call 18; (with_reducible refine (at_in wb.heap.size A3 c3 M p _ PL.out ?sb ?sc E4.out).mono ?_); (case sb => have := G4.out; omega); (case sc => exact Kd.C_below C3.out B4.out); rintro e w5 ⟨rfl, hb⟩; have B5 := Aside0.mk (below_then B4.out B4.out.size hb); have E5 := Aside0.mk (blk_below E4.out hb); have K5 := Aside0.mk (blk_below K4.out hb); clear hb E4 B4 K4; have ka := blk_alloc K5.out (.cells #[.string (rd_T31 M (p : Int)).f0.f0, .int .i64 (rd_T31 M (p : Int)).f0.f1, .int .i64 (rd_T31 M (p : Int)).f0.f2, .string (rd_T31 M (p : Int)).f1] 31); have y0 := (blk_cell ka 0).trans rfl; have y1 := (blk_cell ka 1).trans rfl; have y2 := (blk_cell ka 2).trans rfl; clear ka)
  | (go_at_call 31; (with_reducible refine (iceboxref1_Cmp.calls _ _ _ _ _ _ t _ HT.out).mono ?_); rintro e w6 ⟨rfl, hb⟩; have B6 := Aside0.mk (below_then (below_alloc B5.out _) (below_alloc B5.out _).size hb); have E6 := Aside0.mk (blk_below (blk_alloc E5.out _) hb); have K6 := Aside0.mk (blk_below (blk_alloc K5.out _) hb); clear hb E5 B5 K5 HT y0 y1 y2)
  | (go_at_call 19; (with_reducible refine (prev_j wb.heap.size A3 M.length c3 p _ ?sa ?sb ?sc).mono ?_); (case sa => first | (have := PL.out; omega) | (have := PE.out; omega)); (case sb => have := G4.out; omega); (case sc => exact E6.out); rintro e w7 ⟨rfl, hs⟩; have B7 := Aside0.mk (hs.below B6.out (Nat.le_refl _)); have E7 := Aside0.mk (hs.at_ E6.out); have K7 := Aside0.mk ((hs.far NE.out).trans K6.out); clear hs E6 B6 K6)
  | (go_at_call 14; (with_reducible refine (iceboxlaw14_awake.calls k true _ HA.out).mono ?_); rintro e w11 ⟨rfl, hb⟩; have B11 := Aside0.mk (below_step B7.out hb); clear hb)
  | fail)
 go_ret
 exact ⟨rfl, below_step (below_step B1.out B2.out) B11.out⟩
set_option maxHeartbeats 4000000 in
set_option maxRecDepth 100000 in
theorem finds_inS (k : Nat) (A0 : Option Addr) (c0 : Nat) (l0 : List Int) (a1 a2 : Int) (w : World) (hr0 : Kd.C (Kd.int .u8) w A0 l0.length l0) (hc0 : l0.length ≤ c0) (L M : List S31) (D : ByteArray) (HL : Aside0 (iceboxlaw12_Make.f k l0 9 = some L)) (HM : Aside0 (seek_New.f k L = some M)) (HD : Aside0 (iceboxref1_Digits.f k (a1 % 15) = some D))
 (n0 : 0 ≤ a1) (n1 : a1 ≤ 255) (m0 : 0 ≤ a2) (m1 : a2 ≤ 255) (g4 : M.length ≤ 200) (gD : D.size ≤ 1000) (U : ByteArray) (eU : (⟨#[107, 101, 121]⟩ : ByteArray) ++ D = U) (HS : Aside0 (seekOk k M U a2 1 = true)) (d1 : decide (80 < (l0.length : Int)) = false) (d1' : decide (80 < l0.length) = false) (HA : Aside0 (iceboxlaw14_awake.f k = some true))
 (p : Nat) (u : Nat) (EP : Aside0 (p = u + 1)) (q6 : decide (1 ≤ p) = true) (hp : Aside0 (Mem_at U a2 1 M = p)) (PL : Aside0 (p < M.length)) (q1 : decide (p < M.length) = true) (t : Int) (HT : Aside0 (iceboxref1_Cmp.f (rd_T31 M (p : Int)).f0.f0 (rd_T31 M (p : Int)).f0.f1 (rd_T31 M (p : Int)).f0.f2 U a2 1 = some t)) (q3 : decide (t < 0) = false) (t2 : Int) (HT2 : Aside0 (iceboxref1_Cmp.f (rd_T31 M (u : Int)).f0.f0 (rd_T31 M (u : Int)).f0.f1 (rd_T31 M (u : Int)).f0.f2 U a2 1 = some t2)) (q4 : decide (t2 < 0) = true) :
 Calls Try.prog 11 #[.slice A0 l0.length c0, .int .u8 a1, .int .u8 a2] w fun e w' => e = .returned (.bool true) ∧ Below w.heap.size w w' := by
 have hu31 := Try.underlying31
 have hu29 := Try.underlying29
 have HR0 := Aside0.mk hr0
 have HC0 := Aside0.mk hc0
 have G4 := Aside0.mk g4
 clear hr0 hc0 g4
 go_enter Try.func11, Try.ntmps11
 go_wp2_with (first
  | (go_at_call 15; (with_reducible refine (iceboxlaw12_Make.calls k _ _ l0 9 L _ ?sa ?sb HL.out).mono ?_); (case sa => exact HR0.out); (case sb => exact HC0.out); rintro e w1 ⟨v1, rfl, ho1, hb1⟩; obtain ⟨A2, c2, rfl, hc2, hC2⟩ := Kd.R_reads ho1; have B1 := Aside0.mk hb1; have C1 := Aside0.mk hC2; have L1 := Aside0.mk hc2; clear ho1 hb1 hC2 hc2)
  | (go_at_call 16; (with_reducible refine (seek_New.calls k _ _ L M _ ?sa ?sb HM.out).mono ?_); (case sa => exact C1.out); (case sb => exact L1.out); rintro e w2 ⟨wb, A3, c3, rfl, ew2, hC3, hb3⟩; subst ew2; have B2 := Aside0.mk hb3; have C3 := Aside0.mk hC3; clear hb3 hC3; have HG0 := Aside0.mk (show (wb.alloc (.cells #[.slice A3 M.length c3, .int .i64 (-1)] 69)).heap[wb.heap.size]? = some (.cells #[.slice A3 M.length c3, .int .i64 (-1)] 69 (0, 0)) from heap_alloc_new wb _); have HS0 := Aside0.mk (szA wb (.cells #[.slice A3 M.length c3, .int .i64 (-1)] 69)))
  | (go_at_call 29; (with_reducible refine (iceboxref1_Digits.calls k (a1 % 15) D _ HD.out).mono ?_); rintro e w3 ⟨rfl, hb⟩; have HG3 := Aside0.mk (blk_below HG0.out hb); have HB3 := Aside0.mk ((below_alloc (Below.refl _ _) _).trans (Below.lower hb (by rw [HS0.out]; exact Nat.le_succ _)) : Below wb.heap.size wb w3); clear hb HS0 HG0)
  | (go_at_call 30; (with_reducible refine (seek_p k wb.heap.size A3 c3 M (-1) U a2 1 p _ ?sa ?sb ?sc HS.out hp.out).mono ?_); (case sa => have := G4.out; omega); (case sb => exact blk_alloc HG3.out _); (case sc => exact Kd.C_below C3.out (below_alloc HB3.out _)); rintro e w4 ⟨rfl, wq, hb, hs⟩; have E4 := Aside0.mk (hs.at_ (blk_below (blk_alloc HG3.out _) hb)); have NE := Aside0.mk (show w3.heap.size ≠ wb.heap.size by have := blk_lt HG3.out; omega); have B4 := Aside0.mk (hs.below (below_then (below_alloc HB3.out _) (below_alloc HB3.out _).size hb) (Nat.le_refl _)); have K4 := Aside0.mk ((hs.far NE.out).trans (blk_below (blk_new w3 _) hb)); clear hb hs HG3 HS hp)
  | (go_at_call 18; (with_reducible refine (at_in wb.heap.size A3 c3 M p _ PL.out ?sb ?sc E4.out).mono ?_); (case sb => have := G4.out; omega); (case sc => exact Kd.C_below C3.out B4.out); rintro e w5 ⟨rfl, hb⟩; have B5 := Aside0.mk (below_then B4.out B4.out.size hb); have E5 := Aside0.mk (blk_below E4.out hb); have K5 := Aside0.mk (blk_below K4.out hb); clear hb E4 B4 K4; have ka := blk_alloc K5.out (.cells #[.string (rd_T31 M (p : Int)).f0.f0, .int .i64 (rd_T31 M (p : Int)).f0.f1, .int .i64 (rd_T31 M (p : Int)).f0.f2, .string (rd_T31 M (p : Int)).f1] 31); have y0 := (blk_cell ka 0).trans rfl; have y1 := (blk_cell ka 1).trans rfl; have y2 := (blk_cell ka 2).trans rfl; clear ka)
  | (go_at_call 31; (with_reducible refine (iceboxref1_Cmp.calls _ _ _ _ _ _ t _ HT.out).mono ?_); rintro e w6 ⟨rfl, hb⟩; have B6 := Aside0.mk (below_then (below_alloc B5.out _) (below_alloc B5.out _).size hb); have E6 := Aside0.mk (blk_below (blk_alloc E5.out _) hb); have K6 := Aside0.mk (blk_below (blk_alloc K5.out _) hb); clear hb E5 B5 K5 HT y0 y1 y2)
  | (go_at_call 19; (with_reducible refine (prev_j wb.heap.size A3 M.length c3 p _ ?sa ?sb ?sc).mono ?_); (case sa => first | (have := PL.out; omega) | (have := PE.out; omega)); (case sb => have := G4.out; omega); (case sc => exact E6.out); rintro e w7 ⟨rfl, hs⟩; have B7 := Aside0.mk (hs.below B6.out (Nat.le_refl _)); have E7 := Aside0.mk (hs.at_ E6.out); have K7 := Aside0.mk ((hs.far NE.out).trans K6.out); clear hs E6 B6 K6)
  | (go_at_call 18; (with_reducible refine (at_in wb.heap.size A3 c3 M u _ ?sa ?sb ?sc ?sd).mono ?_); (case sa => have := EP.out; first | (have := PL.out; omega) | (have := PE.out; omega)); (case sb => have := G4.out; omega); (case sc => exact Kd.C_below C3.out B7.out); (case sd => have h := E7.out; rw [show ((p : Int) - 1) = (u : Int) by have := EP.out; omega] at h; exact h); rintro e w8 ⟨rfl, hb⟩; have B8 := Aside0.mk (below_then B7.out B7.out.size hb); have E8 := Aside0.mk (blk_below E7.out hb); have K8 := Aside0.mk (blk_below K7.out hb); clear hb E7 B7 K7; have ka := blk_alloc K8.out (.cells #[.string (rd_T31 M (u : Int)).f0.f0, .int .i64 (rd_T31 M (u : Int)).f0.f1, .int .i64 (rd_T31 M (u : Int)).f0.f2, .string (rd_T31 M (u : Int)).f1] 31); have z0 := (blk_cell ka 0).trans rfl; have z1 := (blk_cell ka 1).trans rfl; have z2 := (blk_cell ka 2).trans rfl; clear ka)
  | (go_at_call 31; (with_reducible refine (iceboxref1_Cmp.calls _ _ _ _ _ _ t2 _ HT2.out).mono ?_); rintro e w9 ⟨rfl, hb⟩; have B9 := Aside0.mk (below_then (below_alloc B8.out _) (below_alloc B8.out _).size hb); have E9 := Aside0.mk (blk_below (blk_alloc E8.out _) hb); clear hb E8 B8 K8 HT2 z0 z1 z2)
  | (go_at_call 17; (with_reducible refine (next_j wb.heap.size A3 M.length c3 p _ ?sa ?sb ?sc).mono ?_); (case sa => first | (have := PL.out; omega) | (have := PE.out; omega)); (case sb => have := G4.out; omega); (case sc => exact E9.out); rintro e w10 ⟨rfl, hs⟩; have B10 := Aside0.mk (hs.below B9.out (Nat.le_refl _)); clear hs E9 B9)
  | (go_at_call 14; (with_reducible refine (iceboxlaw14_awake.calls k true _ HA.out).mono ?_); rintro e w11 ⟨rfl, hb⟩; have B11 := Aside0.mk (below_step B10.out hb); clear hb)
  | fail)
 go_ret
 exact ⟨rfl, below_step (below_step B1.out B2.out) B11.out⟩
set_option maxHeartbeats 4000000 in
set_option maxRecDepth 100000 in
theorem finds_out0 (k : Nat) (A0 : Option Addr) (c0 : Nat) (l0 : List Int) (a1 a2 : Int) (w : World) (hr0 : Kd.C (Kd.int .u8) w A0 l0.length l0) (hc0 : l0.length ≤ c0) (L M : List S31) (D : ByteArray) (HL : Aside0 (iceboxlaw12_Make.f k l0 9 = some L)) (HM : Aside0 (seek_New.f k L = some M)) (HD : Aside0 (iceboxref1_Digits.f k (a1 % 15) = some D))
 (n0 : 0 ≤ a1) (n1 : a1 ≤ 255) (m0 : 0 ≤ a2) (m1 : a2 ≤ 255) (g4 : M.length ≤ 200) (gD : D.size ≤ 1000) (U : ByteArray) (eU : (⟨#[107, 101, 121]⟩ : ByteArray) ++ D = U) (HS : Aside0 (seekOk k M U a2 1 = true)) (d1 : decide (80 < (l0.length : Int)) = false) (d1' : decide (80 < l0.length) = false) (HA : Aside0 (iceboxlaw14_awake.f k = some true))
 (p : Nat) (EP : Aside0 (p = 0)) (q6 : decide (1 ≤ p) = false) (hp : Aside0 (Mem_at U a2 1 M = p)) (PE : Aside0 (M.length = p)) (q1 : decide (p < M.length) = false) (q5 : ((l0.length : Int) == 0) = true) :
 Calls Try.prog 11 #[.slice A0 l0.length c0, .int .u8 a1, .int .u8 a2] w fun e w' => e = .returned (.bool true) ∧ Below w.heap.size w w' := by
 have hu31 := Try.underlying31
 have hu29 := Try.underlying29
 have HR0 := Aside0.mk hr0
 have HC0 := Aside0.mk hc0
 have G4 := Aside0.mk g4
 clear hr0 hc0 g4
 go_enter Try.func11, Try.ntmps11
 go_wp2_with (first
  | (go_at_call 15; (with_reducible refine (iceboxlaw12_Make.calls k _ _ l0 9 L _ ?sa ?sb HL.out).mono ?_); (case sa => exact HR0.out); (case sb => exact HC0.out); rintro e w1 ⟨v1, rfl, ho1, hb1⟩; obtain ⟨A2, c2, rfl, hc2, hC2⟩ := Kd.R_reads ho1; have B1 := Aside0.mk hb1; have C1 := Aside0.mk hC2; have L1 := Aside0.mk hc2; clear ho1 hb1 hC2 hc2)
  | (go_at_call 16; (with_reducible refine (seek_New.calls k _ _ L M _ ?sa ?sb HM.out).mono ?_); (case sa => exact C1.out); (case sb => exact L1.out); rintro e w2 ⟨wb, A3, c3, rfl, ew2, hC3, hb3⟩; subst ew2; have B2 := Aside0.mk hb3; have C3 := Aside0.mk hC3; clear hb3 hC3; have HG0 := Aside0.mk (show (wb.alloc (.cells #[.slice A3 M.length c3, .int .i64 (-1)] 69)).heap[wb.heap.size]? = some (.cells #[.slice A3 M.length c3, .int .i64 (-1)] 69 (0, 0)) from heap_alloc_new wb _); have HS0 := Aside0.mk (szA wb (.cells #[.slice A3 M.length c3, .int .i64 (-1)] 69)))
  | (go_at_call 29; (with_reducible refine (iceboxref1_Digits.calls k (a1 % 15) D _ HD.out).mono ?_); rintro e w3 ⟨rfl, hb⟩; have HG3 := Aside0.mk (blk_below HG0.out hb); have HB3 := Aside0.mk ((below_alloc (Below.refl _ _) _).trans (Below.lower hb (by rw [HS0.out]; exact Nat.le_succ _)) : Below wb.heap.size wb w3); clear hb HS0 HG0)
  | (go_at_call 30; (with_reducible refine (seek_p k wb.heap.size A3 c3 M (-1) U a2 1 p _ ?sa ?sb ?sc HS.out hp.out).mono ?_); (case sa => have := G4.out; omega); (case sb => exact blk_alloc HG3.out _); (case sc => exact Kd.C_below C3.out (below_alloc HB3.out _)); rintro e w4 ⟨rfl, wq, hb, hs⟩; have E4 := Aside0.mk (hs.at_ (blk_below (blk_alloc HG3.out _) hb)); have NE := Aside0.mk (show w3.heap.size ≠ wb.heap.size by have := blk_lt HG3.out; omega); have B4 := Aside0.mk (hs.below (below_then (below_alloc HB3.out _) (below_alloc HB3.out _).size hb) (Nat.le_refl _)); have K4 := Aside0.mk ((hs.far NE.out).trans (blk_below (blk_new w3 _) hb)); clear hb hs HG3 HS hp)
  | (go_at_call 18; (with_reducible refine (at_out wb.heap.size A3 M.length c3 _ _ (Or.inr (by have := PE.out; omega)) E4.out).mono ?_); rintro e w5 ⟨rfl, hb⟩; have B6 := Aside0.mk (below_alloc (below_then B4.out B4.out.size hb) (.cells #[.string (⟨#[]⟩ : ByteArray), .int .i64 0, .int .i64 0, .string (⟨#[]⟩ : ByteArray)] 31)); have E6 := Aside0.mk (blk_alloc (blk_below E4.out hb) (.cells #[.string (⟨#[]⟩ : ByteArray), .int .i64 0, .int .i64 0, .string (⟨#[]⟩ : ByteArray)] 31)); have K6 := Aside0.mk (blk_alloc (blk_below K4.out hb) (.cells #[.string (⟨#[]⟩ : ByteArray), .int .i64 0, .int .i64 0, .string (⟨#[]⟩ : ByteArray)] 31)); clear hb E4 B4 K4)
  | (go_at_call 19; (with_reducible refine (prev_j wb.heap.size A3 M.length c3 p _ ?sa ?sb ?sc).mono ?_); (case sa => first | (have := PL.out; omega) | (have := PE.out; omega)); (case sb => have := G4.out; omega); (case sc => exact E6.out); rintro e w7 ⟨rfl, hs⟩; have B7 := Aside0.mk (hs.below B6.out (Nat.le_refl _)); have E7 := Aside0.mk (hs.at_ E6.out); have K7 := Aside0.mk ((hs.far NE.out).trans K6.out); clear hs E6 B6 K6)
  | (go_at_call 14; (with_reducible refine (iceboxlaw14_awake.calls k true _ HA.out).mono ?_); rintro e w11 ⟨rfl, hb⟩; have B11 := Aside0.mk (below_step B7.out hb); clear hb)
  | fail)
 go_ret
 exact ⟨rfl, below_step (below_step B1.out B2.out) B11.out⟩
set_option maxHeartbeats 4000000 in
set_option maxRecDepth 100000 in
theorem finds_outS (k : Nat) (A0 : Option Addr) (c0 : Nat) (l0 : List Int) (a1 a2 : Int) (w : World) (hr0 : Kd.C (Kd.int .u8) w A0 l0.length l0) (hc0 : l0.length ≤ c0) (L M : List S31) (D : ByteArray) (HL : Aside0 (iceboxlaw12_Make.f k l0 9 = some L)) (HM : Aside0 (seek_New.f k L = some M)) (HD : Aside0 (iceboxref1_Digits.f k (a1 % 15) = some D))
 (n0 : 0 ≤ a1) (n1 : a1 ≤ 255) (m0 : 0 ≤ a2) (m1 : a2 ≤ 255) (g4 : M.length ≤ 200) (gD : D.size ≤ 1000) (U : ByteArray) (eU : (⟨#[107, 101, 121]⟩ : ByteArray) ++ D = U) (HS : Aside0 (seekOk k M U a2 1 = true)) (d1 : decide (80 < (l0.length : Int)) = false) (d1' : decide (80 < l0.length) = false) (HA : Aside0 (iceboxlaw14_awake.f k = some true))
 (p : Nat) (u : Nat) (EP : Aside0 (p = u + 1)) (q6 : decide (1 ≤ p) = true) (hp : Aside0 (Mem_at U a2 1 M = p)) (PE : Aside0 (M.length = p)) (q1 : decide (p < M.length) = false) (t2 : Int) (HT2 : Aside0 (iceboxref1_Cmp.f (rd_T31 M (u : Int)).f0.f0 (rd_T31 M (u : Int)).f0.f1 (rd_T31 M (u : Int)).f0.f2 U a2 1 = some t2)) (q4 : decide (t2 < 0) = true) :
 Calls Try.prog 11 #[.slice A0 l0.length c0, .int .u8 a1, .int .u8 a2] w fun e w' => e = .returned (.bool true) ∧ Below w.heap.size w w' := by
 have hu31 := Try.underlying31
 have hu29 := Try.underlying29
 have HR0 := Aside0.mk hr0
 have HC0 := Aside0.mk hc0
 have G4 := Aside0.mk g4
 clear hr0 hc0 g4
 go_enter Try.func11, Try.ntmps11
 go_wp2_with (first
  | (go_at_call 15; (with_reducible refine (iceboxlaw12_Make.calls k _ _ l0 9 L _ ?sa ?sb HL.out).mono ?_); (case sa => exact HR0.out); (case sb => exact HC0.out); rintro e w1 ⟨v1, rfl, ho1, hb1⟩; obtain ⟨A2, c2, rfl, hc2, hC2⟩ := Kd.R_reads ho1; have B1 := Aside0.mk hb1; have C1 := Aside0.mk hC2; have L1 := Aside0.mk hc2; clear ho1 hb1 hC2 hc2)
  | (go_at_call 16; (with_reducible refine (seek_New.calls k _ _ L M _ ?sa ?sb HM.out).mono ?_); (case sa => exact C1.out); (case sb => exact L1.out); rintro e w2 ⟨wb, A3, c3, rfl, ew2, hC3, hb3⟩; subst ew2; have B2 := Aside0.mk hb3; have C3 := Aside0.mk hC3; clear hb3 hC3; have HG0 := Aside0.mk (show (wb.alloc (.cells #[.slice A3 M.length c3, .int .i64 (-1)] 69)).heap[wb.heap.size]? = some (.cells #[.slice A3 M.length c3, .int .i64 (-1)] 69 (0, 0)) from heap_alloc_new wb _); have HS0 := Aside0.mk (szA wb (.cells #[.slice A3 M.length c3, .int .i64 (-1)] 69)))
  | (go_at_call 29; (with_reducible refine (iceboxref1_Digits.calls k (a1 % 15) D _ HD.out).mono ?_); rintro e w3 ⟨rfl, hb⟩; have HG3 := Aside0.mk (blk_below HG0.out hb); have HB3 := Aside0.mk ((below_alloc (Below.refl _ _) _).trans (Below.lower hb (by rw [HS0.out]; exact Nat.le_succ _)) : Below wb.heap.size wb w3); clear hb HS0 HG0)
  | (go_at_call 30; (with_reducible refine (seek_p k wb.heap.size A3 c3 M (-1) U a2 1 p _ ?sa ?sb ?sc HS.out hp.out).mono ?_); (case sa => have := G4.out; omega); (case sb => exact blk_alloc HG3.out _); (case sc => exact Kd.C_below C3.out (below_alloc HB3.out _)); rintro e w4 ⟨rfl, wq, hb, hs⟩; have E4 := Aside0.mk (hs.at_ (blk_below (blk_alloc HG3.out _) hb)); have NE := Aside0.mk (show w3.heap.size ≠ wb.heap.size by have := blk_lt HG3.out; omega); have B4 := Aside0.mk (hs.below (below_then (below_alloc HB3.out _) (below_alloc HB3.out _).size hb) (Nat.le_refl _)); have K4 := Aside0.mk ((hs.far NE.out).trans (blk_below (blk_new w3 _) hb)); clear hb hs HG3 HS hp)
  | (go_at_call 18; (with_reducible refine (at_out wb.heap.size A3 M.length c3 _ _ (Or.inr (by have := PE.out; omega)) E4.out).mono ?_); rintro e w5 ⟨rfl, hb⟩; have B6 := Aside0.mk (below_alloc (below_then B4.out B4.out.size hb) (.cells #[.string (⟨#[]⟩ : ByteArray), .int .i64 0, .int .i64 0, .string (⟨#[]⟩ : ByteArray)] 31)); have E6 := Aside0.mk (blk_alloc (blk_below E4.out hb) (.cells #[.string (⟨#[]⟩ : ByteArray), .int .i64 0, .int .i64 0, .string (⟨#[]⟩ : ByteArray)] 31)); have K6 := Aside0.mk (blk_alloc (blk_below K4.out hb) (.cells #[.string (⟨#[]⟩ : ByteArray), .int .i64 0, .int .i64 0, .string (⟨#[]⟩ : ByteArray)] 31)); clear hb E4 B4 K4)
  | (go_at_call 19; (with_reducible refine (prev_j wb.heap.size A3 M.length c3 p _ ?sa ?sb ?sc).mono ?_); (case sa => first | (have := PL.out; omega) | (have := PE.out; omega)); (case sb => have := G4.out; omega); (case sc => exact E6.out); rintro e w7 ⟨rfl, hs⟩; have B7 := Aside0.mk (hs.below B6.out (Nat.le_refl _)); have E7 := Aside0.mk (hs.at_ E6.out); have K7 := Aside0.mk ((hs.far NE.out).trans K6.out); clear hs E6 B6 K6)
  | (go_at_call 18; (with_reducible refine (at_in wb.heap.size A3 c3 M u _ ?sa ?sb ?sc ?sd).mono ?_); (case sa => have := EP.out; first | (have := PL.out; omega) | (have := PE.out; omega)); (case sb => have := G4.out; omega); (case sc => exact Kd.C_below C3.out B7.out); (case sd => have h := E7.out; rw [show ((p : Int) - 1) = (u : Int) by have := EP.out; omega] at h; exact h); rintro e w8 ⟨rfl, hb⟩; have B8 := Aside0.mk (below_then B7.out B7.out.size hb); have E8 := Aside0.mk (blk_below E7.out hb); have K8 := Aside0.mk (blk_below K7.out hb); clear hb E7 B7 K7; have ka := blk_alloc K8.out (.cells #[.string (rd_T31 M (u : Int)).f0.f0, .int .i64 (rd_T31 M (u : Int)).f0.f1, .int .i64 (rd_T31 M (u : Int)).f0.f2, .string (rd_T31 M (u : Int)).f1] 31); have z0 := (blk_cell ka 0).trans rfl; have z1 := (blk_cell ka 1).trans rfl; have z2 := (blk_cell ka 2).trans rfl; clear ka)
  | (go_at_call 31; (with_reducible refine (iceboxref1_Cmp.calls _ _ _ _ _ _ t2 _ HT2.out).mono ?_); rintro e w9 ⟨rfl, hb⟩; have B9 := Aside0.mk (below_then (below_alloc B8.out _) (below_alloc B8.out _).size hb); have E9 := Aside0.mk (blk_below (blk_alloc E8.out _) hb); clear hb E8 B8 K8 HT2 z0 z1 z2)
  | (go_at_call 17; (with_reducible refine (next_j wb.heap.size A3 M.length c3 p _ ?sa ?sb ?sc).mono ?_); (case sa => first | (have := PL.out; omega) | (have := PE.out; omega)); (case sb => have := G4.out; omega); (case sc => exact E9.out); rintro e w10 ⟨rfl, hs⟩; have B10 := Aside0.mk (hs.below B9.out (Nat.le_refl _)); clear hs E9 B9)
  | (go_at_call 14; (with_reducible refine (iceboxlaw14_awake.calls k true _ HA.out).mono ?_); rintro e w11 ⟨rfl, hb⟩; have B11 := Aside0.mk (below_step B10.out hb); clear hb)
  | fail)
 go_ret
 exact ⟨rfl, below_step (below_step B1.out B2.out) B11.out⟩
set_option maxHeartbeats 4000000 in
set_option maxRecDepth 100000 in
theorem iceboxlaw14_SeekFinds.calls (k : Nat) (A0 : Option Addr) (c0 : Nat) (l0 : List Int) (a1 a2 : Int) (r : Bool) (w : World) (hR_ : Aside0 (r = true)) (hr0 : Kd.C (Kd.int .u8) w A0 l0.length l0) (hc0 : l0.length ≤ c0) (h : iceboxlaw14_SeekFinds.f k l0 a1 a2 = some r) :
 Calls Try.prog 11 #[.slice A0 l0.length c0, .int .u8 a1, .int .u8 a2] w fun e w' => e = .returned (.bool r) ∧ Below w.heap.size w w' := by
 unfold iceboxlaw14_SeekFinds.f at h
 by_cases g1 : (l0.length : Int) > 80
 ·
  rw [if_pos g1] at h
  have d1 : decide (80 < (l0.length : Int)) = true := decide_eq_true g1
  have d1' : decide (80 < l0.length) = true := decide_eq_true (by omega)
  have H := Aside0.mk h
  clear h hr0 hc0 g1
  go_enter Try.func11, Try.ntmps11
  go_wp2_with (first | (go_at_call 14; (with_reducible refine (iceboxlaw14_awake.calls k r _ H.out).mono ?_); rintro e w1 ⟨rfl, hb1⟩; have B1 := Aside0.mk hb1; clear hb1))
  go_ret
  exact ⟨rfl, B1.out⟩
 rw [if_neg g1] at h
 by_cases g2 : 0 ≤ a1 ∧ a1 ≤ 255 ∧ 0 ≤ a2 ∧ a2 ≤ 255
 case neg => rw [if_neg g2] at h; cases h
 rw [if_pos g2] at h
 replace h := Option.bind_eq_some_iff.mp h; obtain ⟨L, eL, h⟩ := h
 replace h := Option.bind_eq_some_iff.mp h; obtain ⟨M, eM, h⟩ := h
 replace h := Option.bind_eq_some_iff.mp h; obtain ⟨D, eD, h⟩ := h
 by_cases g4 : M.length ≤ 200 ∧ D.size ≤ 1000 ∧ seekOk k M (keyD D) a2 1 = true ∧ findsOk M (keyD D) a2 1 l0.length = true
 case neg => rw [if_neg g4] at h; cases h
 rw [if_pos g4] at h
 have hr := hR_.out
 subst hr
 obtain ⟨u1, u2, u3, u4⟩ := g4
 obtain ⟨U, eU⟩ : ∃ U, U = keyD D := ⟨_, rfl⟩
 rw [← eU] at u3 u4
 have eU2 : (⟨#[107, 101, 121]⟩ : ByteArray) ++ D = U := eU.symm
 obtain ⟨p, ep⟩ : ∃ p, p = Mem_at U a2 1 M := ⟨_, rfl⟩
 have hp := Aside0.mk ep.symm
 have hle : p ≤ M.length := by rw [ep]; exact Mem_at_le U a2 1 M
 unfold findsOk at u4
 rw [← ep] at u4
 simp only [Bool.and_eq_true, Bool.or_eq_true, decide_eq_true_eq, Bool.not_eq_true'] at u4
 obtain ⟨⟨v1, v2⟩, v3⟩ := u4
 have dA : decide (80 < (l0.length : Int)) = false := decide_eq_false g1
 have dB : decide (80 < l0.length) = false := decide_eq_false (by omega)
 obtain ⟨n0, n1, m0, m1⟩ := g2
 rcases Nat.lt_or_ge p M.length with cl | cl
 ·
  have v1' : Mem_below (rd_T31 M (p : Int)) U a2 1 = false := by
   rcases v1 with v1 | v1
   · omega
   · exact v1
  obtain ⟨t, ht, hb⟩ := Mem_cmp (rd_T31 M (p : Int)) U a2 1
  have q3 : decide (t < 0) = false := by rw [← hb]; exact v1'
  cases p with
  | zero => exact finds_in0 k A0 c0 l0 a1 a2 w hr0 hc0 L M D ⟨eL⟩ ⟨eM⟩ ⟨eD⟩ n0 n1 m0 m1 u1 u2 U eU2 ⟨u3⟩ dA dB ⟨h⟩ 0 ⟨rfl⟩ rfl hp ⟨cl⟩ (decide_eq_true cl) t ⟨ht⟩ q3
  | succ u =>
   have v2' : Mem_below (rd_T31 M (u : Int)) U a2 1 = true := by
    rcases v2 with v2 | v2
    · omega
    · rw [show (((u + 1 : Nat) : Int) - 1) = (u : Int) by omega] at v2; exact v2
   obtain ⟨t2, ht2, hb2⟩ := Mem_cmp (rd_T31 M (u : Int)) U a2 1
   exact finds_inS k A0 c0 l0 a1 a2 w hr0 hc0 L M D ⟨eL⟩ ⟨eM⟩ ⟨eD⟩ n0 n1 m0 m1 u1 u2 U eU2 ⟨u3⟩ dA dB ⟨h⟩ (u + 1) u ⟨rfl⟩ (decide_eq_true (by omega)) hp ⟨cl⟩ (decide_eq_true cl) t ⟨ht⟩ q3 t2 ⟨ht2⟩ (by rw [← hb2]; exact v2')
 ·
  have el : M.length = p := by omega
  have q1 : decide (p < M.length) = false := decide_eq_false (by omega)
  cases p with
  | zero =>
   have v3' : l0.length = 0 := by
    rcases v3 with (v3 | v3) | v3
    · omega
    · omega
    · exact v3
   exact finds_out0 k A0 c0 l0 a1 a2 w hr0 hc0 L M D ⟨eL⟩ ⟨eM⟩ ⟨eD⟩ n0 n1 m0 m1 u1 u2 U eU2 ⟨u3⟩ dA dB ⟨h⟩ 0 ⟨rfl⟩ rfl hp ⟨el⟩ q1 (by rw [v3']; rfl)
  | succ u =>
   have v2' : Mem_below (rd_T31 M (u : Int)) U a2 1 = true := by
    rcases v2 with v2 | v2
    · omega
    · rw [show (((u + 1 : Nat) : Int) - 1) = (u : Int) by omega] at v2; exact v2
   obtain ⟨t2, ht2, hb2⟩ := Mem_cmp (rd_T31 M (u : Int)) U a2 1
   exact finds_outS k A0 c0 l0 a1 a2 w hr0 hc0 L M D ⟨eL⟩ ⟨eM⟩ ⟨eD⟩ n0 n1 m0 m1 u1 u2 U eU2 ⟨u3⟩ dA dB ⟨h⟩ (u + 1) u ⟨rfl⟩ (decide_eq_true (by omega)) hp ⟨el⟩ q1 t2 ⟨ht2⟩ (by rw [← hb2]; exact v2')
theorem seekOk.mono (k : Nat) (M : List S31) (u : ByteArray) (s d : Int) (h : seekOk k M u s d = true) : seekOk (k + 1) M u s d = true := by
 unfold seekOk at h ⊢
 rw [List.all_eq_true] at h ⊢
 intro n hn
 have h1 := h n hn
 cases e : key_Cmp.f k (rd_T31 M (n : Int)).f0.f0 (rd_T31 M (n : Int)).f0.f1 (rd_T31 M (n : Int)).f0.f2 u s d with
 | none => rw [e] at h1; cases h1
 | some t =>
  rw [e] at h1
  rw [key_Cmp.mono _ _ _ _ _ _ k _ e]
  exact h1
theorem iceboxlaw14_SeekFinds.mono : ∀ a0 a1 a2 k, LeO (iceboxlaw14_SeekFinds.f k a0 a1 a2) (iceboxlaw14_SeekFinds.f (k + 1) a0 a1 a2) := by
 intro a0 a1 a2 k
 unfold iceboxlaw14_SeekFinds.f
 refine LeO.ite (iceboxlaw14_awake.mono _) (LeO.ite ?_ (LeO.none _))
 refine LeO.bind (iceboxlaw12_Make.mono _ _ _) (fun L => LeO.bind (seek_New.mono _ _) (fun M => LeO.bind (iceboxref1_Digits.mono _ _) (fun D => ?_)))
 intro r h
 by_cases g : M.length ≤ 200 ∧ D.size ≤ 1000 ∧ seekOk k M (keyD D) a2 1 = true ∧ findsOk M (keyD D) a2 1 a0.length = true
 ·
  rw [if_pos g] at h
  rw [if_pos ⟨g.1, g.2.1, seekOk.mono k M _ _ _ g.2.2.1, g.2.2.2⟩]; exact iceboxlaw14_awake.mono _ _ h
 · rw [if_neg g] at h; cases h

/-- THE ONE PURE STATEMENT of iceboxlaw14_SeekFinds: yours. -/
def iceboxlaw14_SeekFinds.Pure : Prop := ∀ (l0 : List Int) (a1 : Int) (a2 : Int), l0.length ≤ maxLen → l0.length * 1 ≤ 140737488351232 → (∀ x ∈ l0, (Lit.int .u8 x).wf = true) → (Lit.int .u8 a1).wf = true → (Lit.int .u8 a2).wf = true → ∃ k, iceboxlaw14_SeekFinds.f k l0 a1 a2 = some true
theorem iceboxlaw14_SeekFinds.walk (P : iceboxlaw14_SeekFinds.Pure) (a0 : Option Addr) (len0 cap0 : Nat) (z0 : List Int) (a1 : Int) (a2 : Int) (w : World) (w0 : (a0 = none ∧ len0 = 0 ∧ cap0 = 0 ∧ z0 = []) ∨ ∃ x, a0 = some x ∧ len0 ≤ cap0 ∧ cap0 ≤ maxLen ∧ z0.length = cap0 ∧ (∀ i, i < z0.length → w.cell? (x.add i) = some (.int .u8 (z0.getD i 0))) ∧ ∀ n ∈ z0, (Lit.int .u8 n).wf = true) (y0 : len0 * 1 ≤ 140737488351232) (w1 : (Lit.int .u8 a1).wf = true) (w2 : (Lit.int .u8 a2).wf = true) :
 Calls Try.prog 11 #[.slice a0 len0 cap0, .int .u8 a1, .int .u8 a2] w fun e w' => e = .returned (.bool true) ∧ Below w.heap.size w w' := by
 obtain ⟨l0, rfl, hr0, hm0, hw0, hc0⟩ := ReadsInt.ofRowC w0
 obtain ⟨k, h⟩ := P l0 a1 a2 hm0 y0 hw0 w1 w2
 refine (iceboxlaw14_SeekFinds.calls k _ _ l0 a1 a2 true w ⟨rfl⟩ (Kd.C_of_reads (d := (0 : Int)) (h1 := fun _ => rfl) hr0) hc0 h).mono ?_
 rintro e w' ⟨rfl, hd⟩
 exact ⟨rfl, hd⟩

end Go.Proofs.Ytoomipmndapgnaa.PSeekFinds
