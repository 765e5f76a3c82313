/- The functions that a law reaches, as Lean functions, each with the contract that its Go code comes to just these answers. Written by a program of this claim's author (wip/mkprint.py). No conditions. -/
import Derived.Test.YtoomipmndapgnaaPSeekWholex0
import Derived.Test.YtoomipmndapgnaaPSeekWholex2
import Derived.Test.YtoomipmndapgnaaPSeekWholex3
import Derived.Test.YtoomipmndapgnaaPSeekWholex7
namespace Go.Proofs.Ytoomipmndapgnaa.PSeekWhole
open Go.RowKit Go.Proofs.YtoomipmndapgnaaW.PrintWords Go.Proofs.YtoomipmndapgnaaW.PrintLast Go.Proofs.YtoomipmndapgnaaW.PrintMore
attribute [local go_sem] max2_int min2_int max_two min_two max_three min_three max_four min_four   -- for this text's walks alone
set_option linter.unusedVariables false
set_option linter.unusedSimpArgs false

/-! ### iceboxlaw14_SeekWhole and what it leans on -/
theorem nil_At (w : World) : Calls Try.prog 18 #[.pointer none] w fun e w' => e = .returned (.tuple #[.agg #[.string ⟨#[]⟩, .int .i64 0, .int .i64 0, .string ⟨#[]⟩], .bool false]) ∧ Below w.heap.size w w' := by
 have hu31 := Try.underlying31
 go_enter Try.func18, Try.ntmps18
 go_wp2
 go_quiet (fail)
 go_wp2
 have h0 := blk_drewN (blk_new w (.cells #[.string (⟨#[]⟩ : ByteArray), .int .i64 0, .int .i64 0, .string (⟨#[]⟩ : ByteArray)] 31)) nq
 have h1 := (blk_set h0 0 (.string (⟨#[]⟩ : ByteArray))).trans rfl
 have h2 := (blk_set h1 1 (.int .i64 0)).trans rfl
 have h3 := (blk_set h2 2 (.int .i64 0)).trans rfl
 have h4 := (blk_set h3 3 (.string (⟨#[]⟩ : ByteArray))).trans rfl
 refine bodyPost_ret (results_ct rfl _ _ w.heap.size 31 #[.string (⟨#[]⟩ : ByteArray), .int .i64 0, .int .i64 0, .string (⟨#[]⟩ : ByteArray)] (0, 0) _ rfl h4 hu31 rfl rfl) rfl ?_
 exact ⟨rfl, by repeat (first | exact Below.refl _ _ | apply below_drew | apply pw_below_drewN | apply below_alloc | refine below_set ?_ (Nat.le_refl _))⟩
theorem nil_move (h : Int) (w : World) : Calls Try.prog 48 #[.pointer none, .int .i64 h] w fun e w' => e = .returned (.bool false) ∧ Below w.heap.size w w' := by
 go_enter Try.func48, Try.ntmps48
 go_wp2_with (first | (with_reducible refine wp_label ?_) | (with_reducible refine wp_scope_straight ?_) | (simp only [Exit.noGoto_ret, Exit.noGoto_normal, Exit.noGoto_exit]))
 go_ret
 exact ⟨rfl, Below.refl _ _⟩
theorem first_move (g : Nat) (A : Option Addr) (n c : Nat) (at_ : Int) (w : World) (hg : w.heap[g]? = some (.cells #[.slice A n c, .int .i64 at_] 69 (0, 0))) :
 Calls Try.prog 48 #[.pointer (some ⟨g, 0, none⟩), .int .i64 0] w fun e w' => e = .returned (.bool (decide (0 < n))) ∧ ∃ q, w' = (w.setCell ⟨g, 1, none⟩ (.int .i64 0)).drewN q := by
 have HG := Aside0.mk hg
 have y0 : w.cell? ⟨g, 0, none⟩ = some (.slice A n c) := (blk_cell hg 0).trans rfl
 have y1 : w.cell? ⟨g, 1, none⟩ = some (.int .i64 at_) := (blk_cell hg 1).trans rfl
 have f1 : w.frozen? ⟨g, 1, none⟩ = false := blk_frozen hg 1
 clear hg
 go_enter Try.func48, Try.ntmps48
 go_wp2_with (first | (with_reducible refine wp_label ?_) | (with_reducible refine wp_scope_straight ?_) | (simp only [Exit.noGoto_ret, Exit.noGoto_normal, Exit.noGoto_exit]))
 go_quiet (fail)
 go_wp2_with (first | (with_reducible refine wp_label ?_) | (with_reducible refine wp_scope_straight ?_) | (simp only [Exit.noGoto_ret, Exit.noGoto_normal, Exit.noGoto_exit]))
 go_ret
 exact ⟨rfl, _, rfl⟩
theorem nil_First (w : World) : Calls Try.prog 33 #[.pointer none] w fun e w' => e = .returned (.bool false) ∧ Below w.heap.size w w' := by
 go_enter Try.func33, Try.ntmps33
 go_wp2_with (first | (go_at_call 48; (with_reducible refine (nil_move _ _).mono ?_); rintro e w1 ⟨rfl, hb1⟩; have B1 := Aside0.mk hb1; clear hb1))
 go_ret
 exact ⟨rfl, B1.out⟩
theorem nil_Last (w : World) : Calls Try.prog 35 #[.pointer none] w fun e w' => e = .returned (.bool false) ∧ Below w.heap.size w w' := by
 go_enter Try.func35, Try.ntmps35
 go_wp2_with (first | (go_at_call 48; (with_reducible refine (nil_move _ _).mono ?_); rintro e w1 ⟨rfl, hb1⟩; have B1 := Aside0.mk hb1; clear hb1))
 go_ret
 exact ⟨rfl, B1.out⟩
theorem nil_Next (w : World) : Calls Try.prog 17 #[.pointer none] w fun e w' => e = .returned (.bool false) ∧ Below w.heap.size w w' := by
 go_enter Try.func17, Try.ntmps17
 go_wp2_with (first | (go_at_call 48; (with_reducible refine (nil_move _ _).mono ?_); rintro e w1 ⟨rfl, hb1⟩; have B1 := Aside0.mk hb1; clear hb1))
 go_ret
 exact ⟨rfl, B1.out⟩
theorem nil_Prev (w : World) : Calls Try.prog 19 #[.pointer none] w fun e w' => e = .returned (.bool false) ∧ Below w.heap.size w w' := by
 go_enter Try.func19, Try.ntmps19
 go_wp2_with (first | (go_at_call 48; (with_reducible refine (nil_move _ _).mono ?_); rintro e w1 ⟨rfl, hb1⟩; have B1 := Aside0.mk hb1; clear hb1))
 go_ret
 exact ⟨rfl, B1.out⟩
theorem nil_Seek (u : ByteArray) (s d : Int) (w : World) : Calls Try.prog 30 #[.pointer none, .agg #[.string u, .int .i64 s, .int .i64 d]] w fun e w' => e = .returned (.bool false) ∧ Below w.heap.size w w' := by
 have hu29 := Try.underlying29
 go_enter Try.func30, Try.ntmps30
 go_wp2
 go_ret
 exact ⟨rfl, by repeat (first | exact Below.refl _ _ | apply below_alloc)⟩
theorem first_First (g : Nat) (A : Option Addr) (n c : Nat) (at_ : Int) (w : World) (hg : w.heap[g]? = some (.cells #[.slice A n c, .int .i64 at_] 69 (0, 0))) :
 Calls Try.prog 33 #[.pointer (some ⟨g, 0, none⟩)] w fun e w' => e = .returned (.bool (decide (0 < n))) ∧ ∃ q, w' = (w.setCell ⟨g, 1, none⟩ (.int .i64 0)).drewN q := by
 have HG := Aside0.mk hg
 clear hg
 go_enter Try.func33, Try.ntmps33
 go_wp2_with (first | (go_at_call 48; (with_reducible refine (first_move g A n c at_ _ HG.out).mono ?_); rintro e w1 ⟨rfl, hb1⟩; have B1 := Aside0.mk hb1; clear hb1))
 go_ret
 exact ⟨rfl, B1.out⟩
theorem compact_small (A : Option Addr) (n c : Nat) (F : Value) (w : World) (hn : n < 2) :
 Calls Try.prog 46 #[.slice A n c, F] w fun e w' => e = .returned (.slice A n c) ∧ Below w.heap.size w w' := by
 have h1 : decide ((n : Int) < 2) = true := decide_eq_true (by omega)
 have h2 : decide (n < 2) = true := decide_eq_true hn
 go_enter Try.func46, Try.ntmps46
 go_wp2_with (first | (with_reducible refine wp_label ?_) | (with_reducible refine wp_scope_straight ?_) | (simp only [Exit.noGoto_ret, Exit.noGoto_normal, Exit.noGoto_exit]))
 go_ret
 exact ⟨rfl, by repeat (first | exact Below.refl _ _ | apply below_drew | apply pw_below_drewN | apply below_alloc | refine below_set ?_ (Nat.le_refl _))⟩
def seek_small (k : Nat) (l : List S31) : Option (List S31) := (api_Entry_42.f l).bind fun c => (api_Entry_43.f k c).bind fun M => if M.length < 2 then some M else none
theorem New_small (k : Nat) (A0 : Option Addr) (c0 : Nat) (l0 : List S31) (r : List S31) (w : World) (hr0 : Kd.C k31 w A0 l0.length l0) (hc0 : l0.length ≤ c0) (h : seek_small k l0 = some r) :
 Calls Try.prog 16 #[.slice A0 l0.length c0] w fun e w' => ∃ g A c, e = .returned (.pointer (some ⟨g, 0, none⟩)) ∧ w'.heap[g]? = some (.cells #[.slice A r.length c, .int .i64 (-1)] 69 (0, 0)) ∧ w.heap.size ≤ g ∧ Below w.heap.size w w' := by
 have HR0 := Aside0.mk hr0
 have HC0 := Aside0.mk hc0
 clear hr0 hc0
 have HB := Aside0.mk (Below.refl w.heap.size w)
 unfold seek_small at h
 replace h := Option.bind_eq_some_iff.mp h; obtain ⟨t186, e1, h⟩ := h
 replace h := Option.bind_eq_some_iff.mp h; obtain ⟨t189, e2, h⟩ := h
 by_cases hs : t189.length < 2
 case neg => rw [if_neg hs] at h; cases h
 rw [if_pos hs] at h
 obtain rfl := Option.some.inj h
 have A2 := Aside0.mk e1
 have A3 := Aside0.mk e2
 have HS := Aside0.mk hs
 clear h e1 e2 hs
 go_enter Try.func16, Try.ntmps16
 go_wp2_with (first
  | (go_at_call 42; (with_reducible refine (api_Entry_42.calls _ _ l0 t186 _ ?side1 ?side2 A2.out).mono ?_); (case side1 => exact HR0.out); (case side2 => exact HC0.out); rintro e w4 ⟨v187, rfl, ho0, hb⟩; have B1 := Aside0.mk hb; have O1 := Aside0.mk ho0; clear hb ho0; obtain ⟨Ao5, co5, eo5⟩ := Kd.R_slice O1.out; subst eo5)
  | (go_at_call 43; ((with_reducible refine (api_Entry_43.calls k (fun k_ => some k_ = (.slice Ao5 t186.length co5 : Value).ownBlock) (.slice Ao5 t186.length co5) t186 t189 w _ ?side1 ?side2 A3.out).mono ?_); (case side1 => exact B1.out); (case side2 => exact Kd.R_tight rfl O1.out); rintro e w6 ⟨rfl, hy0, hb, hkp⟩; have B2 := Aside0.mk hb; have O2 := Aside0.mk hy0; have LT := Aside0.mk (show t186.length < 2 by have hq := Kd.R_slice hy0; obtain ⟨Aq, cq, eq_⟩ := hq; injection eq_ with _ e_ _; have := HS.out; omega); clear hb hy0 hkp))
  | (go_at_call 46; (with_reducible refine (compact_small Ao5 t186.length co5 _ _ ?sc).mono ?_); (case sc => exact LT.out); rintro e w7 ⟨rfl, hb⟩; have B3 := Aside0.mk (below_step B2.out hb); clear hb)
  | fail)
 go_ret
 have el : t186.length = t189.length := by
  obtain ⟨Aq, cq, eq_⟩ := Kd.R_slice O2.out
  injection eq_
 exact ⟨w7.heap.size, Ao5, co5, rfl, by rw [← el]; exact heap_alloc_new w7 _, B3.out.size, below_alloc B3.out _⟩

theorem New_nil (k : Nat) (r : List S31) (w : World) (h : seek_small k [] = some r) :
 Calls Try.prog 16 #[.slice none 0 0] w fun e w' => ∃ g A c, e = .returned (.pointer (some ⟨g, 0, none⟩)) ∧ w'.heap[g]? = some (.cells #[.slice A r.length c, .int .i64 (-1)] 69 (0, 0)) ∧ w.heap.size ≤ g ∧ Below w.heap.size w w' :=
 New_small k none 0 [] r w (Kd.C_nil _ _) (Nat.le_refl 0) h
theorem Make_one (k : Nat) (A : Option Addr) (r : List S31) (w : World) (hC : Kd.C (Kd.int .u8) w A 1 [1]) (h : iceboxlaw12_Make.f k [1] 0 = some r) :
 Calls Try.prog 15 #[.slice A 1 1, .int .u8 0] w fun e w' => ∃ v0_ : Value, e = .returned (v0_) ∧ Kd.R k31 31 w' w.heap.size (fun _ => True) v0_ r ∧ Below w.heap.size w w' :=
 iceboxlaw12_Make.calls k A 1 [1] 0 r w hC (Nat.le_refl 1) h
def iceboxlaw14_awake.f (k : Nat) : Option Bool := (seek_small k []).bind fun M0 => (iceboxlaw12_Make.f k [1] 0).bind fun L => (seek_small k L).bind fun M1 => if M0.length = 0 ∧ M1.length = 1 then some true else none
theorem one_u8 (W : World) : Kd.C (Kd.int .u8) (W.alloc (.cells #[.int .u8 1] 5)) (some ⟨W.heap.size, 0, none⟩) 1 [1] := by
 refine ⟨rfl, by decide, fun _ => ⟨⟨W.heap.size, 0, none⟩, rfl, fun j p hp => ?_⟩⟩
 cases j with
 | succ j => simp at hp
 | zero =>
  simp only [List.getElem?_cons_zero, Option.some.injEq] at hp
  subst hp
  refine ⟨[.int .u8 1], rfl, rfl, fun i u hu => ?_⟩
  rw [add_plain]
  have := blk_cell (heap_alloc_new W (.cells #[.int .u8 1] 5)) (0 * (Kd.int .u8).sz + i)
  rw [this]
  simpa using hu
theorem iceboxlaw14_awake.calls (k : Nat) (r : Bool) (w : World) (h : iceboxlaw14_awake.f k = some r) :
 Calls Try.prog 14 #[] w fun e w' => e = .returned (.bool r) ∧ Below w.heap.size w w' := by
 unfold iceboxlaw14_awake.f at h
 replace h := Option.bind_eq_some_iff.mp h; obtain ⟨M0, e1, h⟩ := h
 replace h := Option.bind_eq_some_iff.mp h; obtain ⟨L, e2, h⟩ := h
 replace h := Option.bind_eq_some_iff.mp h; obtain ⟨M1, e3, h⟩ := h
 by_cases hs : M0.length = 0 ∧ M1.length = 1
 case neg => rw [if_neg hs] at h; cases h
 rw [if_pos hs] at h
 obtain rfl := Option.some.inj h
 have A1 := Aside0.mk e1
 have A2 := Aside0.mk e2
 have A3 := Aside0.mk e3
 have HS := Aside0.mk hs
 clear h e1 e2 e3 hs
 go_enter Try.func14, Try.ntmps14
 go_wp2_with (first
  | (go_at_call 16; (with_reducible refine (New_nil k M0 _ A1.out).mono ?_); rintro e w1 ⟨g1, Aa, ca, rfl, hg1, hl1, hb1⟩; have B1 := Aside0.mk hb1; have L1 := Aside0.mk hl1; have G1 := Aside0.mk (show w1.heap[g1]? = some (.cells #[.slice Aa 0 ca, .int .i64 (-1)] 69 (0, 0)) by rw [HS.out.1] at hg1; exact hg1); clear A1 hg1 hl1 hb1)
  | (go_at_call 15; ((with_reducible refine (Make_one k _ L _ ?sa A2.out).mono ?_); (case sa => exact one_u8 w1); rintro e w2 ⟨v2, rfl, ho2, hb2⟩; obtain ⟨A4, c4, rfl, hc4, hC4⟩ := Kd.R_reads ho2; have B2 := Aside0.mk (below_step (below_alloc (Below.refl _ _) _) hb2); have C2 := Aside0.mk hC4; have L2 := Aside0.mk hc4; clear A2 ho2 hb2 hC4 hc4))
  | (go_at_call 16; (with_reducible refine (New_small k _ _ L M1 _ ?sa ?sb A3.out).mono ?_); (case sa => exact C2.out); (case sb => exact L2.out); rintro e w3 ⟨g3, Ab, cb, rfl, hg3, hl3, hb3⟩; have B3 := Aside0.mk (below_step B2.out hb3); have L3 := Aside0.mk hl3; have G3 := Aside0.mk (show w3.heap[g3]? = some (.cells #[.slice Ab 1 cb, .int .i64 (-1)] 69 (0, 0)) by rw [HS.out.2] at hg3; exact hg3); clear A3 hg3 hl3 hb3)
  | (go_at_call 33; (with_reducible refine (first_First g1 Aa 0 ca (-1) _ ?sa).mono ?_); (case sa => exact blk_below G1.out B3.out); rintro e w4 ⟨rfl, q1, hq1⟩; have Q1 := Aside0.mk hq1; have G3b := Aside0.mk (show w4.heap[g3]? = some (.cells #[.slice Ab 1 cb, .int .i64 (-1)] 69 (0, 0)) by rw [hq1]; refine blk_drewN ((Below.heap_setCell _ _ _ _ ?_).trans G3.out) _; have h1 := blk_lt G1.out; have h2 := L3.out; have h3 := B2.out.size; show g3 ≠ g1; omega); clear hq1)
  | (go_at_call 33; (with_reducible refine (first_First g3 Ab 1 cb (-1) _ ?sa).mono ?_); (case sa => exact G3b.out); rintro e w5 ⟨rfl, q2, hq2⟩; have Q2 := Aside0.mk hq2; clear hq2)
  | fail)
 go_ret
 have hw3 : Below w.heap.size w w3 := below_step B1.out B3.out
 have hw4 : Below w.heap.size w w4 := by rw [Q1.out]; exact pw_below_drewN (below_set hw3 L1.out) _
 refine ⟨rfl, ?_⟩
 rw [Q2.out]
 exact pw_below_drewN (below_set hw4 (by have h2 := L3.out; have h3 := B2.out.size; have h4 := B1.out.size; omega)) _
theorem seek_small.mono : ∀ a0 k, LeO (seek_small k a0) (seek_small (k + 1) a0) := by
 intro a0 k
 unfold seek_small
 repeat' first
  | (with_reducible exact api_Entry_43.mono _ _)
  | (with_reducible exact LeO.refl _)
  | (with_reducible exact LeO.none _)
  | (with_reducible refine LeO.ite ?_ ?_)
  | (with_reducible refine LeO.bind ?_ (fun _ => ?_))
theorem iceboxlaw14_awake.mono : ∀ k, LeO (iceboxlaw14_awake.f k) (iceboxlaw14_awake.f (k + 1)) := by
 intro k
 unfold iceboxlaw14_awake.f
 repeat' first
  | (with_reducible exact seek_small.mono _ _)
  | (with_reducible exact iceboxlaw12_Make.mono _ _ _)
  | (with_reducible exact LeO.refl _)
  | (with_reducible exact LeO.none _)
  | (with_reducible refine LeO.ite ?_ ?_)
  | (with_reducible refine LeO.bind ?_ (fun _ => ?_))
set_option maxHeartbeats 4000000 in
set_option maxRecDepth 100000 in
theorem compact_plain (k : Nat) (A : Option Addr) (c : Nat) (L : List S31) (w : World) (hC : Kd.C k31 w A L.length L) (hl : L.length ≤ 1000)
 (hn : ∀ n : Nat, n + 1 < L.length → seek_New_2.f k (rd_T31 L ((n : Int) + 1)).f0.f0 (rd_T31 L ((n : Int) + 1)).f0.f1 (rd_T31 L ((n : Int) + 1)).f0.f2 (rd_T31 L ((n : Int) + 1)).f1 (rd_T31 L (n : Int)).f0.f0 (rd_T31 L (n : Int)).f0.f1 (rd_T31 L (n : Int)).f0.f2 (rd_T31 L (n : Int)).f1 = some false) :
 Calls Try.prog 46 #[.slice A L.length c, .func (.func 47) #[] #[]] w fun e w' => e = .returned (.slice A L.length c) ∧ Below w.heap.size w w' := by
 by_cases h2 : L.length < 2
 · exact compact_small A L.length c _ w h2
 have hu31 := Try.underlying31
 have hu29 := Try.underlying29
 have HC := Aside0.mk hC
 have HN := Aside0.mk hn
 have HL := Aside0.mk hl
 have h1 : decide ((L.length : Int) < 2) = false := decide_eq_false (by omega)
 have h1' : decide (L.length < 2) = false := decide_eq_false h2
 clear hC hn hl h2
 go_enter Try.func46, Try.ntmps46
 go_wp2_with (first | (with_reducible refine wp_label ?_) | (with_reducible refine wp_scope_straight ?_) | (simp only [Exit.noGoto_ret, Exit.noGoto_normal, Exit.noGoto_exit]))
 go_loopw [5] (fun v wr => ∃ n : Nat, n + 1 ≤ L.length ∧ v = .int .i64 ((n : Int) + 1) ∧ Aside0 (Below w.heap.size w wr)) (fun v _ => L.length - (intOf v).toNat)
 case atStart => exact ⟨0, by have := of_decide_eq_false h1'; omega, rfl, ⟨Below.refl _ _⟩⟩
 case round =>
  obtain ⟨n, hn1, rfl, HB⟩ := hrel
  by_cases c : (n : Int) + 1 < (L.length : Int)
  ·
   have q0 : decide ((n : Int) + 1 < (L.length : Int)) = true := decide_eq_true c
   have p0 : (0 : Int) ≤ (n : Int) + 1 := by omega
   have p1 : (0 : Int) ≤ (n : Int) := by omega
   have c1 : (n : Int) < (L.length : Int) := by omega
   obtain ⟨ad, ead, x0, x1, x2, x3⟩ := at_T31 (Kd.C_below HC.out HB.out) ((n : Int) + 1) p0 c
   cases ead
   obtain ⟨ad', ead', z0, z1, z2, z3⟩ := at_T31 (Kd.C_below HC.out HB.out) (n : Int) p1 c1
   cases ead'
   rw [show ((n : Int) + 1).toNat = n + 1 by omega] at x0 x1 x2 x3
   rw [Int.toNat_natCast] at z0 z1 z2 z3
   have HE := Aside0.mk (HN.out n (by omega))
   have hw1 : (n : Int) + 1 ≤ 1000 := by have := HL.out; omega
   have hl1 := HL.out
   have ew0 : IntKind.i64.wrap ((n : Int) + 1 - 1) = (n : Int) := by rw [Int.add_sub_cancel, i64_w]; (unfold Go.RowKit.wrap64; omega)
   have ew1 : IntKind.i64.wrap (n : Int) = (n : Int) := by rw [i64_w]; (unfold Go.RowKit.wrap64; omega)
   clear hl1
   generalize rd_T31 L ((n : Int) + 1) = e1 at x0 x1 x2 x3 HE
   generalize rd_T31 L (n : Int) = e0 at z0 z1 z2 z3 HE
   go_wp2
   go_region_held3 (fun w' => w'.cell? (ad.add ((n + 1) * 4)) = some (.string e1.f0.f0) ∧ w'.cell? ⟨(ad.add ((n + 1) * 4)).block, (ad.add ((n + 1) * 4)).off + 1, none⟩ = some (.int .i64 e1.f0.f1) ∧ w'.cell? ⟨(ad.add ((n + 1) * 4)).block, (ad.add ((n + 1) * 4)).off + 2, none⟩ = some (.int .i64 e1.f0.f2) ∧ w'.cell? ⟨(ad.add ((n + 1) * 4)).block, (ad.add ((n + 1) * 4)).off + 3, none⟩ = some (.string e1.f1) ∧ w'.cell? (ad.add (n * 4)) = some (.string e0.f0.f0) ∧ w'.cell? ⟨(ad.add (n * 4)).block, (ad.add (n * 4)).off + 1, none⟩ = some (.int .i64 e0.f0.f1) ∧ w'.cell? ⟨(ad.add (n * 4)).block, (ad.add (n * 4)).off + 2, none⟩ = some (.int .i64 e0.f0.f2) ∧ w'.cell? ⟨(ad.add (n * 4)).block, (ad.add (n * 4)).off + 3, none⟩ = some (.string e0.f1) ∧ Below wr.heap.size wr w')
    ((repeat' apply And.intro) <;> (first | assumption | exact below_drew (Below.refl _ _) | exact Below.refl _ _ | exact below_step (below_drew (Below.refl _ _)) hb2 | exact pw_cell_below (by assumption) (by assumption) | go_keep))
    (first | (go_at_call 47; (with_reducible refine (seek_New_2.calls k _ _ _ _ _ _ _ _ false _ HE.out).mono ?_); rintro e w2 ⟨rfl, hb2⟩))
   go_wp2
   go_roundw
   case rel => exact ⟨n + 1, by omega, by go_num, ⟨below_step HB.out (by assumption : w2.cell? _ = _ ∧ _ ∧ _ ∧ _ ∧ _ ∧ _ ∧ _ ∧ _ ∧ Below wr.heap.size wr w2).2.2.2.2.2.2.2.2⟩⟩
   case measure => simp [intOf]; omega
  ·
   have q0 : decide ((n : Int) + 1 < (L.length : Int)) = false := decide_eq_false c
   go_wp2_with (first | (with_reducible refine wp_label ?_) | (with_reducible refine wp_scope_straight ?_) | (simp only [Exit.noGoto_ret, Exit.noGoto_normal, Exit.noGoto_exit]))
   go_ret
   exact ⟨rfl, HB.out⟩
def noDup (k : Nat) (L : List S31) : Bool := (List.range (L.length - 1)).all fun n => seek_New_2.f k (rd_T31 L ((n : Int) + 1)).f0.f0 (rd_T31 L ((n : Int) + 1)).f0.f1 (rd_T31 L ((n : Int) + 1)).f0.f2 (rd_T31 L ((n : Int) + 1)).f1 (rd_T31 L (n : Int)).f0.f0 (rd_T31 L (n : Int)).f0.f1 (rd_T31 L (n : Int)).f0.f2 (rd_T31 L (n : Int)).f1 == some false
def seek_New.f (k : Nat) (l : List S31) : Option (List S31) := (api_Entry_42.f l).bind fun c => (api_Entry_43.f k c).bind fun M => if M.length ≤ 1000 ∧ noDup k M = true then some M else none
set_option maxHeartbeats 4000000 in
set_option maxRecDepth 100000 in
theorem seek_New.calls (k : Nat) (A0 : Option Addr) (c0 : Nat) (l0 : List S31) (r : List S31) (w : World) (hr0 : Kd.C k31 w A0 l0.length l0) (hc0 : l0.length ≤ c0) (h : seek_New.f k l0 = some r) :
 Calls Try.prog 16 #[.slice A0 l0.length c0] w fun e w' => ∃ wb A c, e = .returned (.pointer (some ⟨wb.heap.size, 0, none⟩)) ∧ w' = wb.alloc (.cells #[.slice A r.length c, .int .i64 (-1)] 69) ∧ Kd.C k31 wb A r.length r ∧ Below w.heap.size w wb := by
 have HR0 := Aside0.mk hr0
 have HC0 := Aside0.mk hc0
 clear hr0 hc0
 have HB := Aside0.mk (Below.refl w.heap.size w)
 unfold seek_New.f at h
 replace h := Option.bind_eq_some_iff.mp h; obtain ⟨t186, e1, h⟩ := h
 replace h := Option.bind_eq_some_iff.mp h; obtain ⟨t189, e2, h⟩ := h
 by_cases hs : t189.length ≤ 1000 ∧ noDup k t189 = true
 case neg => rw [if_neg hs] at h; cases h
 rw [if_pos hs] at h
 obtain rfl := Option.some.inj h
 have A2 := Aside0.mk e1
 have A3 := Aside0.mk e2
 have HS := Aside0.mk hs.1
 have HN := Aside0.mk (show ∀ n : Nat, n + 1 < t189.length → seek_New_2.f k (rd_T31 t189 ((n : Int) + 1)).f0.f0 (rd_T31 t189 ((n : Int) + 1)).f0.f1 (rd_T31 t189 ((n : Int) + 1)).f0.f2 (rd_T31 t189 ((n : Int) + 1)).f1 (rd_T31 t189 (n : Int)).f0.f0 (rd_T31 t189 (n : Int)).f0.f1 (rd_T31 t189 (n : Int)).f0.f2 (rd_T31 t189 (n : Int)).f1 = some false by
  intro n hn
  have h2 := List.all_eq_true.1 hs.2 n (List.mem_range.2 (by omega))
  simpa using h2)
 clear h e1 e2 hs
 go_enter Try.func16, Try.ntmps16
 go_wp2_with (first
  | (go_at_call 42; (with_reducible refine (api_Entry_42.calls _ _ l0 t186 _ ?side1 ?side2 A2.out).mono ?_); (case side1 => exact HR0.out); (case side2 => exact HC0.out); rintro e w4 ⟨v187, rfl, ho0, hb⟩; have B1 := Aside0.mk hb; have O1 := Aside0.mk ho0; clear hb ho0; obtain ⟨Ao5, co5, eo5⟩ := Kd.R_slice O1.out; subst eo5)
  | (go_at_call 43; ((with_reducible refine (api_Entry_43.calls k (fun k_ => some k_ = (.slice Ao5 t186.length co5 : Value).ownBlock) (.slice Ao5 t186.length co5) t186 t189 w _ ?side1 ?side2 A3.out).mono ?_); (case side1 => exact B1.out); (case side2 => exact Kd.R_tight rfl O1.out); rintro e w6 ⟨rfl, hy0, hb, hkp⟩; have B2 := Aside0.mk hb; have el : t186.length = t189.length := (by obtain ⟨Aq, cq, eq_⟩ := Kd.R_slice hy0; injection eq_); rw [el] at hy0 ⊢; have O2 := Aside0.mk (Kd.R_reads' hy0).2.2; have EL := Aside0.mk el; clear hb hy0 hkp el))
  | (go_at_call 46; ((with_reducible refine (compact_plain k Ao5 co5 t189 _ ?sc HS.out HN.out).mono ?_); (case sc => exact O2.out); rintro e w7 ⟨rfl, hb⟩; have B3 := Aside0.mk (below_step B2.out hb); have O3 := Aside0.mk (Kd.C_below O2.out hb); clear hb))
  | fail)
 go_ret
 exact ⟨w7, Ao5, co5, rfl, rfl, O3.out, B3.out⟩
def Set1 (g : Nat) (v : Int) (w w' : World) : Prop := ∃ q q2, w' = ((w.drewN q).setCell ⟨g, 1, none⟩ (.int .i64 v)).drewN q2
theorem Set1.at_ {g : Nat} {v a : Int} {V : Value} {w w' : World} (h : Set1 g v w w') (hg : w.heap[g]? = some (.cells #[V, .int .i64 a] 69 (0, 0))) : w'.heap[g]? = some (.cells #[V, .int .i64 v] 69 (0, 0)) := by
 obtain ⟨q, q2, rfl⟩ := h
 exact blk_drewN ((blk_set (blk_drewN hg q) 1 _).trans rfl) q2
theorem Set1.below {g : Nat} {v : Int} {w0 w w' : World} (h : Set1 g v w w') (hb : Below w0.heap.size w0 w) (hg : w0.heap.size ≤ g) : Below w0.heap.size w0 w' := by
 obtain ⟨q, q2, rfl⟩ := h
 exact pw_below_drewN (below_set (pw_below_drewN hb q) hg) q2
theorem Set1.far {g k : Nat} {v : Int} {w w' : World} (h : Set1 g v w w') (hk : k ≠ g) : w'.heap[k]? = w.heap[k]? := by
 obtain ⟨q, q2, rfl⟩ := h
 exact Below.heap_setCell _ _ _ _ hk
set_option maxHeartbeats 4000000 in
set_option maxRecDepth 100000 in
theorem next_move (g : Nat) (A : Option Addr) (n c : Nat) (at_ : Int) (w : World) (h0 : -1 ≤ at_) (h1 : at_ < n) (hl : n ≤ 1000) (hg : w.heap[g]? = some (.cells #[.slice A n c, .int .i64 at_] 69 (0, 0))) :
 Calls Try.prog 48 #[.pointer (some ⟨g, 0, none⟩), .int .i64 2] w fun e w' => e = .returned (.bool (decide (at_ + 1 < n))) ∧ Set1 g (at_ + 1) w w' := by
 have HG := Aside0.mk hg
 have y0 : w.cell? ⟨g, 0, none⟩ = some (.slice A n c) := (blk_cell hg 0).trans rfl
 have y1 : w.cell? ⟨g, 1, none⟩ = some (.int .i64 at_) := (blk_cell hg 1).trans rfl
 have f1 : w.frozen? ⟨g, 1, none⟩ = false := blk_frozen hg 1
 have s0 : (w.setCell ⟨g, 1, none⟩ (.int .i64 (at_ + 1))).cell? ⟨g, 0, none⟩ = some (.slice A n c) := (blk_cell (blk_set hg 1 _) 0).trans rfl
 have s1 : (w.setCell ⟨g, 1, none⟩ (.int .i64 (at_ + 1))).cell? ⟨g, 1, none⟩ = some (.int .i64 (at_ + 1)) := (blk_cell (blk_set hg 1 _) 1).trans rfl
 have ew : IntKind.i64.wrap (at_ + 1) = at_ + 1 := by rw [i64_w]; unfold Go.RowKit.wrap64; omega
 have d0 : decide ((n : Int) ≤ at_) = false := decide_eq_false (by omega)
 have d1 : decide (0 ≤ at_ + 1) = true := decide_eq_true (by omega)
 have p1 : 0 ≤ at_ + 1 := by omega
 clear hg h0 hl
 go_enter Try.func48, Try.ntmps48
 go_wp2_with (first | (with_reducible refine wp_label ?_) | (with_reducible refine wp_scope_straight ?_) | (simp only [Exit.noGoto_ret, Exit.noGoto_normal, Exit.noGoto_exit]))
 repeat (go_quiet (fail); try go_wp2_with (first | (with_reducible refine wp_label ?_) | (with_reducible refine wp_scope_straight ?_) | (simp only [Exit.noGoto_ret, Exit.noGoto_normal, Exit.noGoto_exit])))
 go_ret
 exact ⟨rfl, _, _, rfl⟩
set_option maxHeartbeats 4000000 in
set_option maxRecDepth 100000 in
theorem prev_move (g : Nat) (A : Option Addr) (n c : Nat) (at_ : Int) (w : World) (h0 : 0 ≤ at_) (h1 : at_ ≤ n) (hl : n ≤ 1000) (hg : w.heap[g]? = some (.cells #[.slice A n c, .int .i64 at_] 69 (0, 0))) :
 Calls Try.prog 48 #[.pointer (some ⟨g, 0, none⟩), .int .i64 3] w fun e w' => e = .returned (.bool (decide (1 ≤ at_))) ∧ Set1 g (at_ - 1) w w' := by
 have HG := Aside0.mk hg
 have y0 : w.cell? ⟨g, 0, none⟩ = some (.slice A n c) := (blk_cell hg 0).trans rfl
 have y1 : w.cell? ⟨g, 1, none⟩ = some (.int .i64 at_) := (blk_cell hg 1).trans rfl
 have f1 : w.frozen? ⟨g, 1, none⟩ = false := blk_frozen hg 1
 have s0 : (w.setCell ⟨g, 1, none⟩ (.int .i64 (at_ - 1))).cell? ⟨g, 0, none⟩ = some (.slice A n c) := (blk_cell (blk_set hg 1 _) 0).trans rfl
 have s1 : (w.setCell ⟨g, 1, none⟩ (.int .i64 (at_ - 1))).cell? ⟨g, 1, none⟩ = some (.int .i64 (at_ - 1)) := (blk_cell (blk_set hg 1 _) 1).trans rfl
 have ew : IntKind.i64.wrap (at_ - 1) = at_ - 1 := by rw [i64_w]; unfold Go.RowKit.wrap64; omega
 have d0 : decide (at_ < 0) = false := decide_eq_false (by omega)
 have d1 : decide (at_ - 1 < (n : Int)) = true := decide_eq_true (by omega)
 have p1 : at_ - 1 < (n : Int) := by omega
 clear hg h0 hl
 by_cases hb : 1 ≤ at_
 ·
  have db : decide (1 ≤ at_) = true := decide_eq_true hb
  have db2 : decide (0 ≤ at_ - 1) = true := decide_eq_true (by omega)
  rw [db]
  go_enter Try.func48, Try.ntmps48
  go_wp2_with (first | (with_reducible refine wp_label ?_) | (with_reducible refine wp_scope_straight ?_) | (simp only [Exit.noGoto_ret, Exit.noGoto_normal, Exit.noGoto_exit]))
  repeat (go_quiet (fail); try go_wp2_with (first | (with_reducible refine wp_label ?_) | (with_reducible refine wp_scope_straight ?_) | (simp only [Exit.noGoto_ret, Exit.noGoto_normal, Exit.noGoto_exit])))
  go_ret
  exact ⟨rfl, 0, _, rfl⟩
 ·
  have db : decide (1 ≤ at_) = false := decide_eq_false hb
  have db2 : decide (0 ≤ at_ - 1) = false := decide_eq_false (by omega)
  rw [db]
  go_enter Try.func48, Try.ntmps48
  go_wp2_with (first | (with_reducible refine wp_label ?_) | (with_reducible refine wp_scope_straight ?_) | (simp only [Exit.noGoto_ret, Exit.noGoto_normal, Exit.noGoto_exit]))
  repeat (go_quiet (fail); try go_wp2_with (first | (with_reducible refine wp_label ?_) | (with_reducible refine wp_scope_straight ?_) | (simp only [Exit.noGoto_ret, Exit.noGoto_normal, Exit.noGoto_exit])))
  go_ret
  exact ⟨rfl, 0, _, rfl⟩
set_option maxHeartbeats 4000000 in
theorem next_Call (g : Nat) (A : Option Addr) (n c : Nat) (at_ : Int) (w : World) (h0 : -1 ≤ at_) (h1 : at_ < n) (hl : n ≤ 1000) (hg : w.heap[g]? = some (.cells #[.slice A n c, .int .i64 at_] 69 (0, 0))) :
 Calls Try.prog 17 #[.pointer (some ⟨g, 0, none⟩)] w fun e w' => e = .returned (.bool (decide (at_ + 1 < n))) ∧ Set1 g (at_ + 1) w w' := by
 have HG := Aside0.mk hg
 have H0 := Aside0.mk h0
 have H1 := Aside0.mk h1
 have HL := Aside0.mk hl
 clear hg h0 h1 hl
 go_enter Try.func17, Try.ntmps17
 go_wp2_with (first | (go_at_call 48; (with_reducible refine (next_move g A n c at_ _ H0.out H1.out HL.out HG.out).mono ?_); rintro e w1 ⟨rfl, hb1⟩; have B1 := Aside0.mk hb1; clear hb1))
 go_ret
 exact ⟨rfl, B1.out⟩
set_option maxHeartbeats 4000000 in
theorem prev_Call (g : Nat) (A : Option Addr) (n c : Nat) (at_ : Int) (w : World) (h0 : 0 ≤ at_) (h1 : at_ ≤ n) (hl : n ≤ 1000) (hg : w.heap[g]? = some (.cells #[.slice A n c, .int .i64 at_] 69 (0, 0))) :
 Calls Try.prog 19 #[.pointer (some ⟨g, 0, none⟩)] w fun e w' => e = .returned (.bool (decide (1 ≤ at_))) ∧ Set1 g (at_ - 1) w w' := by
 have HG := Aside0.mk hg
 have H0 := Aside0.mk h0
 have H1 := Aside0.mk h1
 have HL := Aside0.mk hl
 clear hg h0 h1 hl
 go_enter Try.func19, Try.ntmps19
 go_wp2_with (first | (go_at_call 48; (with_reducible refine (prev_move g A n c at_ _ H0.out H1.out HL.out HG.out).mono ?_); rintro e w1 ⟨rfl, hb1⟩; have B1 := Aside0.mk hb1; clear hb1))
 go_ret
 exact ⟨rfl, B1.out⟩
def seek_At.T3 : Bool × List (List Nat × List Nat) := (true, [([], []), ([0], [0]), ([1], [1]), ([2], [2]), ([], []), ([4], [4]), ([5], [5]), ([6], [6]), ([3, 7], [3, 7]), ([8], [8]), ([9, 0, 1, 2, 3, 4, 5, 6, 7, 8, 9], [9]), ([10, 0, 1, 2, 3, 4, 5, 6, 7, 8, 9, 10], [])])
def seek_At.B3 : List Nat := [0, 1, 3, 7, 0, 16, 48, 112, 255, 511, 1023, 2047]
theorem seek_At.tab3 : rtab .any (opsOf Try.f18 3) = seek_At.T3 := by kernel_rfl
theorem seek_At.bits3 : waitsOk seek_At.T3.2 seek_At.B3 = true := by kernel_rfl
set_option maxHeartbeats 4000000 in
set_option maxRecDepth 100000 in
theorem at_in (g : Nat) (A : Option Addr) (c : Nat) (M : List S31) (i : Nat) (w : World) (hi : i < M.length) (hl : M.length ≤ 1000) (hC : Kd.C k31 w A M.length M) (hg : w.heap[g]? = some (.cells #[.slice A M.length c, .int .i64 (i : Int)] 69 (0, 0))) :
 Calls Try.prog 18 #[.pointer (some ⟨g, 0, none⟩)] w fun e w' => e = .returned (.tuple #[.agg #[.string (rd_T31 M (i : Int)).f0.f0, .int .i64 (rd_T31 M (i : Int)).f0.f1, .int .i64 (rd_T31 M (i : Int)).f0.f2, .string (rd_T31 M (i : Int)).f1], .bool true]) ∧ Below w.heap.size w w' := by
 have hu31 := Try.underlying31
 obtain ⟨ad, ead, x0, x1, x2, x3⟩ := at_T31 hC (i : Int) (Int.natCast_nonneg _) (by omega)
 cases ead
 rw [Int.toNat_natCast] at x0 x1 x2 x3
 have y0 : w.cell? ⟨g, 0, none⟩ = some (.slice (some ad) M.length c) := (blk_cell hg 0).trans rfl
 have y1 : w.cell? ⟨g, 1, none⟩ = some (.int .i64 (i : Int)) := (blk_cell hg 1).trans rfl
 have d2 : decide (M.length ≤ i) = false := decide_eq_false (by omega)
 have gne : g ≠ w.heap.size := Nat.ne_of_lt (blk_lt hg)
 have ane : (ad.add (i * 4)).block ≠ w.heap.size := Nat.ne_of_lt (World.block_lt_of_cell? w _ x0)
 have d0 : decide ((i : Int) < 0) = false := decide_eq_false (by omega)
 have d1 : decide ((M.length : Int) ≤ (i : Int)) = false := decide_eq_false (by omega)
 have p0 : (0 : Int) ≤ (i : Int) := Int.natCast_nonneg _
 have p1 : (i : Int) < (M.length : Int) := by omega
 generalize rd_T31 M (i : Int) = e0 at x0 x1 x2 x3 ⊢
 have hgA := blk_alloc hg (.cells #[.string (⟨#[]⟩ : ByteArray), .int .i64 0, .int .i64 0, .string (⟨#[]⟩ : ByteArray)] 31)
 have y0A := (blk_cell hgA 0).trans rfl
 have y1A := (blk_cell hgA 1).trans rfl
 have x0A := (World.cell?_alloc_lt w (.cells #[.string (⟨#[]⟩ : ByteArray), .int .i64 0, .int .i64 0, .string (⟨#[]⟩ : ByteArray)] 31) _ (World.block_lt_of_cell? _ _ x0)).trans x0
 have x1A := (World.cell?_alloc_lt w (.cells #[.string (⟨#[]⟩ : ByteArray), .int .i64 0, .int .i64 0, .string (⟨#[]⟩ : ByteArray)] 31) _ (World.block_lt_of_cell? _ _ x1)).trans x1
 have x2A := (World.cell?_alloc_lt w (.cells #[.string (⟨#[]⟩ : ByteArray), .int .i64 0, .int .i64 0, .string (⟨#[]⟩ : ByteArray)] 31) _ (World.block_lt_of_cell? _ _ x2)).trans x2
 have x3A := (World.cell?_alloc_lt w (.cells #[.string (⟨#[]⟩ : ByteArray), .int .i64 0, .int .i64 0, .string (⟨#[]⟩ : ByteArray)] 31) _ (World.block_lt_of_cell? _ _ x3)).trans x3
 clear hC hg hl hgA y0 y1 x0 x1 x2 x3
 go_enter Try.func18, Try.ntmps18
 go_wp2
 go_quiet (fail)
 go_wp2
 have hgz : ((w.alloc (.cells #[.string (⟨#[]⟩ : ByteArray), .int .i64 0, .int .i64 0, .string (⟨#[]⟩ : ByteArray)] 31)).drewN nq).drew.heap[w.heap.size]? = some (.cells #[.string (⟨#[]⟩ : ByteArray), .int .i64 0, .int .i64 0, .string (⟨#[]⟩ : ByteArray)] 31 (0, 0)) := blk_drew (blk_drewN (blk_new w _) nq)
 have hbz : Below w.heap.size w ((w.alloc (.cells #[.string (⟨#[]⟩ : ByteArray), .int .i64 0, .int .i64 0, .string (⟨#[]⟩ : ByteArray)] 31)).drewN nq).drew := below_drew (pw_below_drewN (below_alloc (Below.refl _ _) _) nq)
 refine start_ (n := 12) (S := fun w' => w'.cell? ⟨g, 0, none⟩ = some (.slice (some ad) M.length c) ∧ w'.cell? ⟨g, 1, none⟩ = some (.int .i64 (i : Int)) ∧ w'.cell? (ad.add (i * 4)) = some (.string e0.f0.f0) ∧ w'.cell? ⟨(ad.add (i * 4)).block, (ad.add (i * 4)).off + 1, none⟩ = some (.int .i64 e0.f0.f1) ∧ w'.cell? ⟨(ad.add (i * 4)).block, (ad.add (i * 4)).off + 2, none⟩ = some (.int .i64 e0.f0.f2) ∧ w'.cell? ⟨(ad.add (i * 4)).block, (ad.add (i * 4)).off + 3, none⟩ = some (.string e0.f1)) (ds := [10]) #[false, false, false, false, false, false, false, false, false, false, false, false] (by kernel_rfl) rfl rfl ⟨y0A, y1A, x0A, x1A, x2A, x3A⟩ (fun hHeld => ?_); refine with_tabW seek_At.tab3 seek_At.bits3 (fun HT_ HW_ => ?_)
 generalize ((w.alloc (.cells #[.string (⟨#[]⟩ : ByteArray), .int .i64 0, .int .i64 0, .string (⟨#[]⟩ : ByteArray)] 31)).drewN nq).drew = wd at hgz hbz hHeld ⊢
 refine pure_ (i := 0) (N := some 26) (v := ?_) (a' := ?_) #[true, false, false, false, false, false, false, false, false, false, false, false] rfl rfl (any_of HT_.out (by kernel_rfl)) (fun _ _ _ h => h) (Or.inl ⟨by rfl, ?_⟩) ?_ ?_
 rotate_left
 ·
  intro w'
  go_simp
  with_reducible rfl
 rotate_left
 ·
  simp only [Act.put, List.setIfInBounds_toArray, List.set_cons_zero, List.set_cons_succ, i64_w, i32_w]
  rfl

 refine pure_ (i := 1) (N := some 27) (v := ?_) (a' := ?_) #[true, true, false, false, false, false, false, false, false, false, false, false] rfl rfl (any_of HT_.out (by kernel_rfl)) (fun _ _ _ h => h) (Or.inl ⟨by rfl, ?_⟩) ?_ ?_
 rotate_left
 ·
  intro w'
  go_simp
  with_reducible rfl
 rotate_left
 ·
  simp only [Act.put, List.setIfInBounds_toArray, List.set_cons_zero, List.set_cons_succ, i64_w, i32_w]
  rfl

 refine pure_ (i := 2) (N := some 28) (v := ?_) (a' := ?_) #[true, true, true, false, false, false, false, false, false, false, false, false] rfl rfl (any_of HT_.out (by kernel_rfl)) (fun _ _ _ h => h) (Or.inl ⟨by rfl, ?_⟩) ?_ ?_
 rotate_left
 ·
  intro w'
  go_simp
  with_reducible rfl
 rotate_left
 ·
  simp only [Act.put, List.setIfInBounds_toArray, List.set_cons_zero, List.set_cons_succ, i64_w, i32_w]
  rfl

 refine pure_ (i := 4) (N := some 30) (v := ?_) (a' := ?_) #[true, true, true, false, true, false, false, false, false, false, false, false] rfl rfl (any_of HT_.out (by kernel_rfl)) (fun _ _ _ h => h) (Or.inl ⟨by rfl, ?_⟩) ?_ ?_
 rotate_left
 ·
  intro w'
  go_simp
  with_reducible rfl
 rotate_left
 ·
  simp only [Act.put, List.setIfInBounds_toArray, List.set_cons_zero, List.set_cons_succ, i64_w, i32_w]
  rfl

 refine pure_ (i := 5) (N := some 31) (v := ?_) (a' := ?_) #[true, true, true, false, true, true, false, false, false, false, false, false] rfl rfl (any_of HT_.out (by kernel_rfl)) (fun _ _ _ h => h) (Or.inl ⟨by rfl, ?_⟩) ?_ ?_
 rotate_left
 ·
  intro w'
  go_simp
  with_reducible rfl
 rotate_left
 ·
  simp only [Act.put, List.setIfInBounds_toArray, List.set_cons_zero, List.set_cons_succ, i64_w, i32_w]
  rfl

 refine pure_ (i := 6) (N := some 32) (v := ?_) (a' := ?_) #[true, true, true, false, true, true, true, false, false, false, false, false] rfl rfl (any_of HT_.out (by kernel_rfl)) (fun _ _ _ h => h) (Or.inl ⟨by rfl, ?_⟩) ?_ ?_
 rotate_left
 ·
  intro w'
  go_simp
  with_reducible rfl
 rotate_left
 ·
  simp only [Act.put, List.setIfInBounds_toArray, List.set_cons_zero, List.set_cons_succ, i64_w, i32_w]
  rfl

 refine take_ (i := 3) (N := some 29) (v := ?_) (a' := ?_) #[true, true, true, true, true, true, true, false, false, false, false, false] rfl rfl (take_ofW HT_.out HW_.out (by kernel_rfl)) (fun _ _ _ h => h) (Or.inl ⟨by rfl, ?_⟩) hHeld ?_ ?_
 rotate_left
 ·
  rintro w' ⟨s0, s1, s2, s3, s4, s5⟩
  go_simp
  with_reducible rfl
 rotate_left
 ·
  simp only [Act.put, List.setIfInBounds_toArray, List.set_cons_zero, List.set_cons_succ, i64_w, i32_w]
  rfl

 refine take_ (i := 7) (N := some 33) (v := ?_) (a' := ?_) #[true, true, true, true, true, true, true, true, false, false, false, false] rfl rfl (take_ofW HT_.out HW_.out (by kernel_rfl)) (fun _ _ _ h => h) (Or.inl ⟨by rfl, ?_⟩) hHeld ?_ ?_
 rotate_left
 ·
  rintro w' ⟨s0, s1, s2, s3, s4, s5⟩
  go_simp
  with_reducible rfl
 rotate_left
 ·
  simp only [Act.put, List.setIfInBounds_toArray, List.set_cons_zero, List.set_cons_succ, i64_w, i32_w]
  rfl

 refine pure_ (i := 8) (N := some 34) (v := ?_) (a' := ?_) #[true, true, true, true, true, true, true, true, true, false, false, false] rfl rfl (any_of HT_.out (by kernel_rfl)) (fun _ _ _ h => h) (Or.inl ⟨by rfl, ?_⟩) ?_ ?_
 rotate_left
 ·
  intro w'
  go_simp
  with_reducible rfl
 rotate_left
 ·
  simp only [Act.put, List.setIfInBounds_toArray, List.set_cons_zero, List.set_cons_succ, i64_w, i32_w]
  rfl

 refine take_ (i := 9) (N := some 35) (v := ?_) (a' := ?_) #[true, true, true, true, true, true, true, true, true, true, false, false] rfl rfl (take_ofW HT_.out HW_.out (by kernel_rfl)) (fun _ _ _ h => h) (Or.inl ⟨by rfl, ?_⟩) hHeld ?_ ?_
 rotate_left
 ·
  rintro w' ⟨s0, s1, s2, s3, s4, s5⟩
  go_simp
  with_reducible rfl
 rotate_left
 ·
  simp only [Act.put, List.setIfInBounds_toArray, List.set_cons_zero, List.set_cons_succ, i64_w, i32_w]
  rfl

 refine last_ (i := 10) (N := none) #[true, true, true, true, true, true, true, true, true, true, true, false] rfl rfl (one_of HT_.out (by kernel_rfl)) (by decide) (fun K hK => ?_)
 have f0 := blk_frozen hgz 0
 have f1 := blk_frozen hgz 1
 have f2 := blk_frozen hgz 2
 have f3 := blk_frozen hgz 3
 have c0 : wd.cell? ⟨w.heap.size, 0, none⟩ = some (.string (⟨#[]⟩ : ByteArray)) := (blk_cell hgz 0).trans rfl
 have c1 : wd.cell? ⟨w.heap.size, 1, none⟩ = some (.int .i64 0) := (blk_cell hgz 1).trans rfl
 have c2 : wd.cell? ⟨w.heap.size, 2, none⟩ = some (.int .i64 0) := (blk_cell hgz 2).trans rfl
 have c3 : wd.cell? ⟨w.heap.size, 3, none⟩ = some (.string (⟨#[]⟩ : ByteArray)) := (blk_cell hgz 3).trans rfl
 refine skip_ (w1 := ?_) (by rfl) rfl ?_ ?_
 rotate_left
 ·
  go_simp
  rfl
 refine hK.out _ _ ?_
 clear hK K
 refine pure_ (i := 11) (N := some 3) (v := ?_) (a' := ?_) #[true, true, true, true, true, true, true, true, true, true, true, true] rfl rfl (any_of HT_.out (by kernel_rfl)) (fun _ _ _ h => h) (Or.inl ⟨by rfl, ?_⟩) ?_ ?_
 rotate_left
 ·
  intro w'
  go_simp
  with_reducible rfl
 rotate_left
 ·
  simp only [Act.put, List.setIfInBounds_toArray, List.set_cons_zero, List.set_cons_succ, i64_w, i32_w]
  rfl

 refine done_ (done_of HT_.out (by kernel_rfl)) ?_
 go_wp2
 have h1 := (blk_set hgz 0 (.string e0.f0.f0)).trans rfl
 have h2 := (blk_set h1 1 (.int .i64 e0.f0.f1)).trans rfl
 have h3 := (blk_set h2 2 (.int .i64 e0.f0.f2)).trans rfl
 have h4 := (blk_set h3 3 (.string e0.f1)).trans rfl
 refine bodyPost_ret (results_ct rfl _ _ w.heap.size 31 #[.string e0.f0.f0, .int .i64 e0.f0.f1, .int .i64 e0.f0.f2, .string e0.f1] (0, 0) _ rfl h4 hu31 rfl rfl) rfl ?_
 exact ⟨rfl, by repeat (first | exact hbz | refine below_set ?_ (Nat.le_refl _))⟩
set_option maxHeartbeats 4000000 in
set_option maxRecDepth 100000 in
theorem at_out (g : Nat) (A : Option Addr) (n c : Nat) (at_ : Int) (w : World) (h : at_ < 0 ∨ (n : Int) ≤ at_) (hg : w.heap[g]? = some (.cells #[.slice A n c, .int .i64 at_] 69 (0, 0))) :
 Calls Try.prog 18 #[.pointer (some ⟨g, 0, none⟩)] w fun e w' => e = .returned (.tuple #[.agg #[.string ⟨#[]⟩, .int .i64 0, .int .i64 0, .string ⟨#[]⟩], .bool false]) ∧ Below w.heap.size w w' := by
 have hu31 := Try.underlying31
 have hgA := blk_alloc hg (.cells #[.string (⟨#[]⟩ : ByteArray), .int .i64 0, .int .i64 0, .string (⟨#[]⟩ : ByteArray)] 31)
 have y0A := (blk_cell hgA 0).trans rfl
 have y1A := (blk_cell hgA 1).trans rfl
 clear hgA hg
 by_cases hn : at_ < 0
 ·
  have d0 : decide (at_ < 0) = true := decide_eq_true hn
  clear h
  go_enter Try.func18, Try.ntmps18
  go_wp2
  go_quiet (fail)
  go_wp2
  have h0 := blk_drewN (blk_new w (.cells #[.string (⟨#[]⟩ : ByteArray), .int .i64 0, .int .i64 0, .string (⟨#[]⟩ : ByteArray)] 31)) nq
  have h1 := (blk_set h0 0 (.string (⟨#[]⟩ : ByteArray))).trans rfl
  have h2 := (blk_set h1 1 (.int .i64 0)).trans rfl
  have h3 := (blk_set h2 2 (.int .i64 0)).trans rfl
  have h4 := (blk_set h3 3 (.string (⟨#[]⟩ : ByteArray))).trans rfl
  refine bodyPost_ret (results_ct rfl _ _ w.heap.size 31 #[.string (⟨#[]⟩ : ByteArray), .int .i64 0, .int .i64 0, .string (⟨#[]⟩ : ByteArray)] (0, 0) _ rfl h4 hu31 rfl rfl) rfl ?_
  exact ⟨rfl, by repeat (first | exact Below.refl _ _ | apply below_drew | apply pw_below_drewN | apply below_alloc | refine below_set ?_ (Nat.le_refl _))⟩
 ·
  have d0 : decide (at_ < 0) = false := decide_eq_false hn
  have hn2 : (n : Int) ≤ at_ := by omega
  have d1 : decide ((n : Int) ≤ at_) = true := decide_eq_true hn2
  clear h
  go_enter Try.func18, Try.ntmps18
  go_wp2
  go_quiet (fail)
  go_wp2
  have h0 := blk_drewN (blk_new w (.cells #[.string (⟨#[]⟩ : ByteArray), .int .i64 0, .int .i64 0, .string (⟨#[]⟩ : ByteArray)] 31)) nq
  have h1 := (blk_set h0 0 (.string (⟨#[]⟩ : ByteArray))).trans rfl
  have h2 := (blk_set h1 1 (.int .i64 0)).trans rfl
  have h3 := (blk_set h2 2 (.int .i64 0)).trans rfl
  have h4 := (blk_set h3 3 (.string (⟨#[]⟩ : ByteArray))).trans rfl
  refine bodyPost_ret (results_ct rfl _ _ w.heap.size 31 #[.string (⟨#[]⟩ : ByteArray), .int .i64 0, .int .i64 0, .string (⟨#[]⟩ : ByteArray)] (0, 0) _ rfl h4 hu31 rfl rfl) rfl ?_
  exact ⟨rfl, by repeat (first | exact Below.refl _ _ | apply below_drew | apply pw_below_drewN | apply below_alloc | refine below_set ?_ (Nat.le_refl _))⟩
theorem szA (w : World) (o : Obj) : (w.alloc o).heap.size = w.heap.size + 1 := Array.size_push ..
theorem Below.lower {B B' : Nat} {a w : World} (h : Below B a w) (hb : B' ≤ B) : Below B' a w := ⟨h.os, h.tape, h.output, h.size, fun k hk => h.block k (Nat.lt_of_lt_of_le hk hb)⟩
theorem next_j (g : Nat) (A : Option Addr) (n c : Nat) (j : Nat) (w : World) (h1 : j ≤ n) (hl : n ≤ 1000) (hg : w.heap[g]? = some (.cells #[.slice A n c, .int .i64 ((j : Int) - 1)] 69 (0, 0))) :
 Calls Try.prog 17 #[.pointer (some ⟨g, 0, none⟩)] w fun e w' => e = .returned (.bool (decide (j < n))) ∧ Set1 g (j : Int) w w' := by
 have h := next_Call g A n c ((j : Int) - 1) w (by omega) (by omega) hl hg
 rw [Int.sub_add_cancel] at h
 have e : decide ((j : Int) < (n : Int)) = decide (j < n) := by by_cases c : j < n <;> simp [c]
 rw [e] at h
 exact h
theorem prev_j (g : Nat) (A : Option Addr) (n c : Nat) (j : Nat) (w : World) (h1 : j ≤ n) (hl : n ≤ 1000) (hg : w.heap[g]? = some (.cells #[.slice A n c, .int .i64 (j : Int)] 69 (0, 0))) :
 Calls Try.prog 19 #[.pointer (some ⟨g, 0, none⟩)] w fun e w' => e = .returned (.bool (decide (1 ≤ j))) ∧ Set1 g ((j : Int) - 1) w w' := by
 have h := prev_Call g A n c (j : Int) w (by omega) (by omega) hl hg
 have e : decide (1 ≤ (j : Int)) = decide (1 ≤ j) := by by_cases c : 1 ≤ j <;> simp [c] <;> omega
 rw [e] at h
 exact h
theorem Set1.R {g base : Nat} {v : Int} {w w' : World} {u : Value} {xs : List S31} (h : Set1 g v w w') (hb : g < base) (hR : Kd.R k31 31 w base (fun _ => True) u xs) : Kd.R k31 31 w' base (fun _ => True) u xs :=
 Kd.R_mono (Kd.R_move (Kd.R_bound hR) (fun k hk => h.far (by have := hk.2.1; omega))) (fun _ _ => trivial)
set_option maxHeartbeats 4000000 in
set_option maxRecDepth 100000 in
theorem whole_walk (k : Nat) (A0 : Option Addr) (c0 : Nat) (l0 : List Int) (a1 : Int) (w : World) (hr0 : Kd.C (Kd.int .u8) w A0 l0.length l0) (hc0 : l0.length ≤ c0) (L M : List S31) (HL : Aside0 (iceboxlaw12_Make.f k l0 a1 = some L)) (HM : Aside0 (seek_New.f k L = some M)) (g4 : M.length = L.length) (g5 : L.length ≤ 200) (d1 : decide (80 < (l0.length : Int)) = false) (d1' : decide (80 < l0.length) = false)
 (H1 : Aside0 (iceboxref1_SameEntries.f k M L = some true)) (HA : Aside0 (iceboxlaw14_awake.f k = some true)) :
 Calls Try.prog 3 #[.slice A0 l0.length c0, .int .u8 a1] w fun e w' => e = .returned (.bool true) ∧ Below w.heap.size w w' := by
 have hu31 := Try.underlying31
 have hu29 := Try.underlying29
 have HR0 := Aside0.mk hr0
 have HC0 := Aside0.mk hc0
 have G4 := Aside0.mk g4
 have G5 := Aside0.mk g5
 clear hr0 hc0 g4 g5
 go_enter Try.func3, Try.ntmps3
 go_wp2_with (first
  | (go_at_call 15; (with_reducible refine (iceboxlaw12_Make.calls k _ _ l0 a1 L _ ?sa ?sb HL.out).mono ?_); (case sa => exact HR0.out); (case sb => exact HC0.out); rintro e w1 ⟨v1, rfl, ho1, hb1⟩; obtain ⟨A2, c2, rfl, hc2, hC2⟩ := Kd.R_reads ho1; have B1 := Aside0.mk hb1; have C1 := Aside0.mk hC2; have L1 := Aside0.mk hc2; clear ho1 hb1 hC2 hc2)
  | (go_at_call 16; (with_reducible refine (seek_New.calls k _ _ L M _ ?sa ?sb HM.out).mono ?_); (case sa => exact C1.out); (case sb => exact L1.out); rintro e w2 ⟨wb, A3, c3, rfl, ew2, hC3, hb3⟩; subst ew2; have B2 := Aside0.mk hb3; have C3 := Aside0.mk hC3; clear hb3 hC3)
  | fail)
 have hg0 : (wb.alloc (.cells #[.slice A3 M.length c3, .int .i64 (-1)] 69)).heap[wb.heap.size]? = some (.cells #[.slice A3 M.length c3, .int .i64 (((0 : Nat) : Int) - 1)] 69 (0, 0)) := heap_alloc_new wb _
 have hs0 : (wb.alloc (.cells #[.slice A3 M.length c3, .int .i64 (-1)] 69)).heap.size = wb.heap.size + 1 := Array.size_push ..
 have HG0 := Aside0.mk hg0
 have HS0 := Aside0.mk hs0
 clear hg0 hs0
 go_loopw [7, 9] (fun v v9 wr => ∃ j : Nat, j ≤ M.length ∧ v9 = .int .i64 j ∧ Aside0 (Below wb.heap.size wb wr) ∧ Aside0 (wr.heap[wb.heap.size]? = some (.cells #[.slice A3 M.length c3, .int .i64 ((j : Int) - 1)] 69 (0, 0))) ∧ Aside0 (wb.heap.size + 1 ≤ wr.heap.size) ∧ Aside0 (Kd.R k31 31 wr (wb.heap.size + 1) (fun _ => True) v (M.take j))) (fun _ v9 _ => M.length + 1 - (intOf v9).toNat)
 case atStart => exact ⟨0, Nat.zero_le _, rfl, ⟨below_alloc (Below.refl _ _) _⟩, HG0, ⟨by rw [HS0.out]; exact Nat.le_refl _⟩, ⟨Kd.R_nil _ _ _ _ _⟩⟩
 case round =>
  obtain ⟨j, hj, ev9, HB, HG, HZ, HR⟩ := hrel
  subst ev9
  have q0 : decide ((j : Int) ≤ (L.length : Int)) = true := decide_eq_true (by have := G4.out; omega)
  have q1 : decide (j ≤ L.length) = true := decide_eq_true (by have := G4.out; omega)
  by_cases c : j < M.length
  ·
   have q2 : decide (j < M.length) = true := decide_eq_true c
   obtain ⟨Av, cv, ev⟩ := Kd.R_slice HR.out
   subst ev
   obtain ⟨F, eF⟩ : ∃ F, F = M.take j := ⟨_, rfl⟩
   rw [← eF] at HR ⊢
   have LF := Aside0.mk (show F.length ≤ 1000 by rw [eF, List.length_take]; have := G4.out; have := G5.out; omega)
   have EF := Aside0.mk (show M.take (j + 1) = F ++ [rd_T31 M (j : Int)] by
    rw [eF, List.take_succ_eq_append_getElem c]
    congr 2
    unfold rd_T31
    rw [Int.toNat_natCast, List.getD_eq_getElem?_getD, List.getElem?_eq_getElem c]; rfl)
   have MC := Aside0.mk c
   have hw1 : (j : Int) + 1 ≤ 1000 := by have := G4.out; have := G5.out; omega
   clear eF c
   go_wp2_with (first
    | (go_at_call 17; ((with_reducible refine (next_j wb.heap.size A3 M.length c3 j _ ?sa ?sb ?sc).mono ?_); (case sa => exact hj); (case sb => have := G4.out; have := G5.out; omega); (case sc => exact HG.out); rintro e wx ⟨rfl, hs⟩; have BX := Aside0.mk (hs.below HB.out (Nat.le_refl _)); have GX := Aside0.mk (hs.at_ HG.out); have RX := Aside0.mk (hs.R (Nat.lt_succ_self _) HR.out); clear hs))
    | (go_at_call 18; ((with_reducible refine (at_in wb.heap.size A3 c3 M j _ MC.out ?sb ?sc GX.out).mono ?_); (case sb => have := G4.out; have := G5.out; omega); (case sc => exact Kd.C_below C3.out BX.out); rintro e wy ⟨rfl, hb⟩; have BY := Aside0.mk (below_then BX.out BX.out.size hb); have GY := Aside0.mk (blk_below GX.out hb); have RY := Aside0.mk (Kd.R_below RX.out hb); clear hb))
    | ((with_reducible refine gate_builtin (b := .append) (xs := #[.tmp 45, .tmp 47]) rfl ?_); at_builtin; (refine Kd.R_append k31 (w0 := _) (wb.heap.size + 1) rfl (.tmp 45) (.tmp 47) 24 31 (.agg #[(.string ⟨#[]⟩), (.int .i64 0), (.int .i64 0), (.string ⟨#[]⟩)]) 48 rfl Try.underlying24 info31 rfl (by decide) (by decide) _ F (rd_T31 M (j : Int)) [.string (rd_T31 M (j : Int)).f0.f0, .int .i64 (rd_T31 M (j : Int)).f0.f1, .int .i64 (rd_T31 M (j : Int)).f0.f2, .string (rd_T31 M (j : Int)).f1] (fun _ => True) (fun _ => False) rfl (by rw [szA]; rfl) (k31_mkM _ _ _ (rd_T31 M (j : Int))) (fun _ hk => hk.elim) (fun _ _ => trivial) (Kd.R_alloc RY.out _) (Below.refl _ _) (blk_lt (blk_alloc GY.out _)) (by have := LF.out; omega) ?_; intro v1 wz ho hb hg hat; have BZ := Aside0.mk ((below_alloc BY.out _).trans (Below.lower hb (Nat.le_succ _))); have GZ := Aside0.mk ((hb.block _ (Nat.lt_succ_self _)).trans (blk_alloc GY.out _)); have RZ := Aside0.mk ho; clear ho hb hg hat))
    | fail)
   go_roundw
   case rel => exact ⟨j + 1, MC.out, (by go_num), BZ, ⟨by rw [show (((j + 1 : Nat) : Int) - 1) = (j : Int) by omega]; exact GZ.out⟩, ⟨blk_lt GZ.out⟩, ⟨by rw [EF.out]; exact RZ.out⟩⟩
   case measure => have := G4.out; have := G5.out; have := MC.out; simp [intOf]; omega
  ·
   have ej : j = M.length := by omega
   subst ej
   have q2 : decide (M.length < M.length) = false := decide_eq_false (Nat.lt_irrefl _)
   rw [List.take_length] at HR
   obtain ⟨Av, cv, ev⟩ := Kd.R_slice HR.out
   subst ev
   go_wp2_with (first
    | (go_at_call 17; ((with_reducible refine (next_j wb.heap.size A3 M.length c3 M.length _ ?sa ?sb ?sc).mono ?_); (case sa => exact Nat.le_refl _); (case sb => have := G4.out; have := G5.out; omega); (case sc => exact HG.out); rintro e wx ⟨rfl, hs⟩; have BX := Aside0.mk (hs.below HB.out (Nat.le_refl _)); have GX := Aside0.mk (hs.at_ HG.out); have RX := Aside0.mk (hs.R (Nat.lt_succ_self _) HR.out); clear hs))
    | fail)
   go_loopw [8, 12] (fun v v12 wr => ∃ j t : Nat, j + t = M.length ∧ v12 = .int .i64 j ∧ Aside0 (Below wb.heap.size wb wr) ∧ Aside0 (wr.heap[wb.heap.size]? = some (.cells #[.slice A3 M.length c3, .int .i64 (t : Int)] 69 (0, 0))) ∧ Aside0 (Kd.R k31 31 wr (wb.heap.size + 1) (fun _ => True) (.slice Av M.length cv) M) ∧ Aside0 (Kd.R k31 31 wr (wb.heap.size + 1) (fun _ => True) v (M.drop t))) (fun _ v12 _ => M.length + 1 - (intOf v12).toNat)
   case atStart => exact ⟨0, M.length, Nat.zero_add _, rfl, BX, GX, RX, ⟨by rw [List.drop_length]; exact Kd.R_nil _ _ _ _ _⟩⟩
   case round =>
    obtain ⟨j, t, hjt, ev12, HB2, HG2, HR2, HK2⟩ := hrel
    subst ev12
    have q0 : decide ((j : Int) ≤ (L.length : Int)) = true := decide_eq_true (by have := G4.out; omega)
    have q1 : decide (j ≤ L.length) = true := decide_eq_true (by have := G4.out; omega)
    have hw1 : (j : Int) + 1 ≤ 1000 := by have := G4.out; have := G5.out; omega
    obtain ⟨Ab, cb, evb⟩ := Kd.R_slice HK2.out
    subst evb
    obtain ⟨D, eD⟩ : ∃ D, D = M.drop t := ⟨_, rfl⟩
    rw [← eD] at HK2 ⊢
    have ED := Aside0.mk eD
    clear eD
    cases t with
    | succ u =>
     have hu : u < M.length := by omega
     have MC := Aside0.mk hu
     have LD := Aside0.mk (show D.length ≤ 1000 by rw [ED.out, List.length_drop]; have := G4.out; have := G5.out; omega)
     have q2 : decide (1 ≤ u + 1) = true := decide_eq_true (by omega)
     go_wp2_with (first
      | (go_at_call 19; ((with_reducible refine (prev_j wb.heap.size A3 M.length c3 (u + 1) _ ?sa ?sb ?sc).mono ?_); (case sa => exact MC.out); (case sb => have := G4.out; have := G5.out; omega); (case sc => exact HG2.out); rintro e wp ⟨rfl, hs⟩; have BP := Aside0.mk (hs.below HB2.out (Nat.le_refl _)); have GP := Aside0.mk (show wp.heap[wb.heap.size]? = some (.cells #[.slice A3 M.length c3, .int .i64 (u : Int)] 69 (0, 0)) by have h := hs.at_ HG2.out; rw [show (((u + 1 : Nat) : Int) - 1) = (u : Int) by omega] at h; exact h); have RP := Aside0.mk (hs.R (Nat.lt_succ_self _) HR2.out); have KP := Aside0.mk (hs.R (Nat.lt_succ_self _) HK2.out); clear hs))
      | (go_at_call 18; ((with_reducible refine (at_in wb.heap.size A3 c3 M u _ MC.out ?sb ?sc GP.out).mono ?_); (case sb => have := G4.out; have := G5.out; omega); (case sc => exact Kd.C_below C3.out BP.out); rintro e wy ⟨rfl, hb⟩; have BY := Aside0.mk (below_then BP.out BP.out.size hb); have GY := Aside0.mk (blk_below GP.out hb); have RY := Aside0.mk (Kd.R_below RP.out hb); have KY := Aside0.mk (Kd.R_below KP.out hb); clear hb))
      | ((with_reducible refine gate_dst (N := 67) rfl ?_); (refine Kd.R_lit k31 (w0 := wy.alloc (.cells #[.string (rd_T31 M (u : Int)).f0.f0, .int .i64 (rd_T31 M (u : Int)).f0.f1, .int .i64 (rd_T31 M (u : Int)).f0.f2, .string (rd_T31 M (u : Int)).f1] 31)) (wy.alloc (.cells #[.string (rd_T31 M (u : Int)).f0.f0, .int .i64 (rd_T31 M (u : Int)).f0.f1, .int .i64 (rd_T31 M (u : Int)).f0.f2, .string (rd_T31 M (u : Int)).f1] 31)).heap.size 31 rfl (N := 67) rfl (xs := [rd_T31 M (u : Int)]) (inner := [.string (rd_T31 M (u : Int)).f0.f0, .int .i64 (rd_T31 M (u : Int)).f0.f1, .int .i64 (rd_T31 M (u : Int)).f0.f2, .string (rd_T31 M (u : Int)).f1]) (ok := fun _ => True) (okp := fun _ => False) ?hr ?hp (fun _ hk => hk.elim) trivial (Below.refl _ _) (Nat.le_refl _) (by simp) ?_; (case hr => first | (go_simp; done) | (go_simp; rfl)); (case hp => exact Reps.c4 (k31_mkM _ _ _ (rd_T31 M (u : Int))) (Reps.none _ _)); intro v5 wl ho hb hg hn; have OL := Aside0.mk ho; have BL := Aside0.mk hb; clear ho hb hg hn))
      | ((with_reducible refine gate_builtin (b := .append) (xs := #[.tmp 67, .tmp 68]) rfl ?_); at_builtin; (refine Kd.R_append_rows k31 (w0 := wy.alloc (.cells #[.string (rd_T31 M (u : Int)).f0.f0, .int .i64 (rd_T31 M (u : Int)).f0.f1, .int .i64 (rd_T31 M (u : Int)).f0.f2, .string (rd_T31 M (u : Int)).f1] 31)) (wy.alloc (.cells #[.string (rd_T31 M (u : Int)).f0.f0, .int .i64 (rd_T31 M (u : Int)).f0.f1, .int .i64 (rd_T31 M (u : Int)).f0.f2, .string (rd_T31 M (u : Int)).f1] 31)).heap.size rfl (.tmp 67) (.tmp 68) 24 31 (.agg #[(.string ⟨#[]⟩), (.int .i64 0), (.int .i64 0), (.string ⟨#[]⟩)]) 48 rfl Try.underlying24 info31 rfl (by decide) (by decide) v5 [rd_T31 M (u : Int)] D _ _ _ (fun _ => True) (fun _ => False) rfl rfl OL.out (Kd.C_below (Kd.C_below (Kd.R_reads' KY.out).2.2 (below_alloc (Below.refl _ _) _)) BL.out) (fun _ _ h => h) (fun _ h => h.elim) (fun _ _ => trivial) BL.out BL.out.size (by have := LD.out; simp; omega) ?_; intro v6 wz ho hb hg hat; have OZ := Aside0.mk ho; have BZ := Aside0.mk hb; clear ho hb hg hat))
      | fail)
     have ED2 := Aside0.mk (show M.drop u = [rd_T31 M (u : Int)] ++ D by
      rw [ED.out, List.drop_eq_getElem_cons MC.out]
      have : rd_T31 M (u : Int) = M[u]'MC.out := by
       unfold rd_T31
       rw [Int.toNat_natCast, List.getD_eq_getElem?_getD, List.getElem?_eq_getElem MC.out]; rfl
      rw [this]; rfl)
     go_roundw
     case rel => exact ⟨j + 1, u, by omega, by go_num, ⟨below_step (below_alloc BY.out _) BZ.out⟩, ⟨blk_below (blk_alloc GY.out _) BZ.out⟩, ⟨Kd.R_below (Kd.R_alloc RY.out _) BZ.out⟩, ⟨by rw [ED2.out]; exact Kd.R_lower OZ.out (blk_lt (blk_alloc GY.out _))⟩⟩
     case measure => simp [intOf]; omega
    | zero =>
     have q2 : decide (1 ≤ 0) = false := rfl
     have eD : D = M := by rw [ED.out]; rfl
     subst eD
     go_wp2_with (first
      | (go_at_call 19; ((with_reducible refine (prev_j wb.heap.size A3 D.length c3 0 _ ?sa ?sb ?sc).mono ?_); (case sa => exact Nat.zero_le _); (case sb => have := G4.out; have := G5.out; omega); (case sc => exact HG2.out); rintro e wp ⟨rfl, hs⟩; have BP := Aside0.mk (hs.below HB2.out (Nat.le_refl _)); have GP := Aside0.mk (hs.at_ HG2.out); have RP := Aside0.mk (hs.R (Nat.lt_succ_self _) HR2.out); have KP := Aside0.mk (hs.R (Nat.lt_succ_self _) HK2.out); clear hs))
      | (go_at_call 18; ((with_reducible refine (at_out wb.heap.size A3 D.length c3 _ _ (Or.inl (by decide)) GP.out).mono ?_); rintro e wy ⟨rfl, hb⟩; have BY := Aside0.mk (below_then BP.out BP.out.size hb); have RY := Aside0.mk (Kd.R_below RP.out hb); have KY := Aside0.mk (Kd.R_below KP.out hb); clear hb))
      | (go_at_call 20; ((with_reducible refine (iceboxref1_SameEntries.calls k Av cv D A2 c2 L true _ ?sa ?sb ?sc ?sd H1.out).mono ?_); (case sa => exact Kd.C_below (Kd.R_reads' RY.out).2.2 (below_alloc (Below.refl _ _) _)); (case sb => exact (Kd.R_reads' RY.out).2.1); (case sc => exact Kd.C_below (Kd.C_below C1.out (below_step B2.out BY.out)) (below_alloc (Below.refl _ _) _)); (case sd => exact L1.out); rintro e w5 ⟨rfl, hb⟩; have B5 := Aside0.mk (below_step (below_alloc (Below.refl _ _) _) hb.below); clear hb RY))
      | (go_at_call 20; ((with_reducible refine (iceboxref1_SameEntries.calls k Ab cb D A2 c2 L true _ ?sa ?sb ?sc ?sd H1.out).mono ?_); (case sa => exact Kd.C_below (Kd.R_reads' KY.out).2.2 B5.out); (case sb => exact (Kd.R_reads' KY.out).2.1); (case sc => exact Kd.C_below (Kd.C_below C1.out (below_step B2.out BY.out)) B5.out); (case sd => exact L1.out); rintro e w6 ⟨rfl, hb⟩; have B6 := Aside0.mk (below_step B5.out hb.below); clear hb KY))
      | (go_at_call 14; (with_reducible refine (iceboxlaw14_awake.calls k true _ HA.out).mono ?_); rintro e w7 ⟨rfl, hb⟩; have B7 := Aside0.mk (below_step B6.out hb); clear hb)
      | fail)
     go_ret
     exact ⟨rfl, below_step (below_step (below_step B1.out B2.out) BY.out) B7.out⟩

def iceboxlaw14_SeekWhole.f (k : Nat) (l0 : List Int) (a1 : Int) : Option Bool :=
 if (l0.length : Int) > 80 then iceboxlaw14_awake.f k else
  ((iceboxlaw12_Make.f k l0 a1).bind fun L => (seek_New.f k L).bind fun M => if M.length = L.length ∧ L.length ≤ 200 then ((iceboxref1_SameEntries.f k M L).bind fun t1 => if t1 = true then iceboxlaw14_awake.f k else some false) else none)
set_option maxHeartbeats 4000000 in
set_option maxRecDepth 100000 in
theorem iceboxlaw14_SeekWhole.calls (k : Nat) (A0 : Option Addr) (c0 : Nat) (l0 : List Int) (a1 : Int) (r : Bool) (w : World) (hR_ : Aside0 (r = true)) (hr0 : Kd.C (Kd.int .u8) w A0 l0.length l0) (hc0 : l0.length ≤ c0) (h : iceboxlaw14_SeekWhole.f k l0 a1 = some r) :
 Calls Try.prog 3 #[.slice A0 l0.length c0, .int .u8 a1] w fun e w' => e = .returned (.bool r) ∧ Below w.heap.size w w' := by
 have hu31 := Try.underlying31
 have hu29 := Try.underlying29
 unfold iceboxlaw14_SeekWhole.f at h
 by_cases g1 : (l0.length : Int) > 80
 ·
  rw [if_pos g1] at h
  have d1 : decide (80 < (l0.length : Int)) = true := decide_eq_true g1
  have d1' : decide (80 < l0.length) = true := decide_eq_true (by omega)
  have H := Aside0.mk h
  clear h hr0 hc0 g1
  go_enter Try.func3, Try.ntmps3
  go_wp2_with (first | (go_at_call 14; (with_reducible refine (iceboxlaw14_awake.calls k r _ H.out).mono ?_); rintro e w1 ⟨rfl, hb1⟩; have B1 := Aside0.mk hb1; clear hb1))
  go_ret
  exact ⟨rfl, B1.out⟩
 rw [if_neg g1] at h
 replace h := Option.bind_eq_some_iff.mp h; obtain ⟨L, eL, h⟩ := h
 replace h := Option.bind_eq_some_iff.mp h; obtain ⟨M, eM, h⟩ := h
 by_cases g4 : M.length = L.length ∧ L.length ≤ 200
 case neg => rw [if_neg g4] at h; cases h
 rw [if_pos g4] at h
 replace h := Option.bind_eq_some_iff.mp h; obtain ⟨t1, e1, h⟩ := h
 have hr := hR_.out
 subst hr
 cases t1 with
 | false => rw [if_neg Bool.false_ne_true] at h; cases h
 | true =>
 rw [if_pos rfl] at h
 exact whole_walk k A0 c0 l0 a1 w hr0 hc0 L M ⟨eL⟩ ⟨eM⟩ g4.1 g4.2 (decide_eq_false g1) (decide_eq_false (by omega)) ⟨e1⟩ ⟨h⟩
theorem noDup.mono (k : Nat) (L : List S31) (h : noDup k L = true) : noDup (k + 1) L = true := by
 unfold noDup at h ⊢
 rw [List.all_eq_true] at h ⊢
 intro n hn
 have h1 := h n hn
 have h2 := beq_iff_eq.1 h1
 exact beq_iff_eq.2 (seek_New_2.mono _ _ _ _ _ _ _ _ k _ h2)
theorem seek_New.mono : ∀ a0 k, LeO (seek_New.f k a0) (seek_New.f (k + 1) a0) := by
 intro a0 k
 unfold seek_New.f
 refine LeO.bind (LeO.refl _) (fun c => LeO.bind (api_Entry_43.mono _ _) (fun M => ?_))
 intro r h
 by_cases g : M.length ≤ 1000 ∧ noDup k M = true
 ·
  rw [if_pos g] at h
  rw [if_pos ⟨g.1, noDup.mono k M g.2⟩]; exact h
 · rw [if_neg g] at h; cases h
theorem iceboxlaw14_SeekWhole.mono : ∀ a0 a1 k, LeO (iceboxlaw14_SeekWhole.f k a0 a1) (iceboxlaw14_SeekWhole.f (k + 1) a0 a1) := by
 intro a0 a1 k
 unfold iceboxlaw14_SeekWhole.f
 repeat' first
  | (with_reducible exact iceboxlaw14_awake.mono _)
  | (with_reducible exact iceboxlaw12_Make.mono _ _ _)
  | (with_reducible exact seek_New.mono _ _)
  | (with_reducible exact iceboxref1_SameEntries.mono _ _ _)
  | (with_reducible exact LeO.refl _)
  | (with_reducible exact LeO.none _)
  | (with_reducible refine LeO.ite ?_ ?_)
  | (with_reducible refine LeO.bind ?_ (fun _ => ?_))

/-- THE ONE PURE STATEMENT of iceboxlaw14_SeekWhole: yours. -/
def iceboxlaw14_SeekWhole.Pure : Prop := ∀ (l0 : List Int) (a1 : Int), l0.length ≤ maxLen → l0.length * 1 ≤ 140737488351232 → (∀ x ∈ l0, (Lit.int .u8 x).wf = true) → (Lit.int .u8 a1).wf = true → ∃ k, iceboxlaw14_SeekWhole.f k l0 a1 = some true
theorem iceboxlaw14_SeekWhole.walk (P : iceboxlaw14_SeekWhole.Pure) (a0 : Option Addr) (len0 cap0 : Nat) (z0 : List Int) (a1 : Int) (w : World) (w0 : (a0 = none ∧ len0 = 0 ∧ cap0 = 0 ∧ z0 = []) ∨ ∃ x, a0 = some x ∧ len0 ≤ cap0 ∧ cap0 ≤ maxLen ∧ z0.length = cap0 ∧ (∀ i, i < z0.length → w.cell? (x.add i) = some (.int .u8 (z0.getD i 0))) ∧ ∀ n ∈ z0, (Lit.int .u8 n).wf = true) (y0 : len0 * 1 ≤ 140737488351232) (w1 : (Lit.int .u8 a1).wf = true) :
 Calls Try.prog 3 #[.slice a0 len0 cap0, .int .u8 a1] w fun e w' => e = .returned (.bool true) ∧ Below w.heap.size w w' := by
 obtain ⟨l0, rfl, hr0, hm0, hw0, hc0⟩ := ReadsInt.ofRowC w0
 obtain ⟨k, h⟩ := P l0 a1 hm0 y0 hw0 w1
 refine (iceboxlaw14_SeekWhole.calls k _ _ l0 a1 true w ⟨rfl⟩ (Kd.C_of_reads (d := (0 : Int)) (h1 := fun _ => rfl) hr0) hc0 h).mono ?_
 rintro e w' ⟨rfl, hd⟩
 exact ⟨rfl, hd⟩

end Go.Proofs.Ytoomipmndapgnaa.PSeekWhole
