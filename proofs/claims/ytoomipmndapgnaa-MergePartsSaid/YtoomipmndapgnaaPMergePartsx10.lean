/- The functions that a law reaches, as Lean functions, each with the contract that its Go code comes to just these answers. Written by a program of this claim's author (wip/mkprint.py). No conditions. -/
import Derived.Test.YtoomipmndapgnaaPMergePartsx0
import Derived.Test.YtoomipmndapgnaaPMergePartsx2
import Derived.Test.YtoomipmndapgnaaPMergePartsx3
import Derived.Test.YtoomipmndapgnaaPMergePartsx8
import Derived.Test.YtoomipmndapgnaaPMergePartsx9
namespace Go.Proofs.Ytoomipmndapgnaa.PMergeParts
open Go.RowKit Go.Proofs.YtoomipmndapgnaaW.PrintWords Go.Proofs.YtoomipmndapgnaaW.PrintLast Go.Proofs.YtoomipmndapgnaaW.PrintMore
attribute [local go_sem] max2_int min2_int max_two min_two max_three min_three max_four min_four   -- for this text's walks alone
set_option linter.unusedVariables false
set_option linter.unusedSimpArgs false

/-! ### iceboxlaw15_MergeParts: function 6 -/
theorem rows_lit (W : World) (vals : List Value) (xs : List (List S31)) (hl : vals.length = xs.length) (hb : xs.length ≤ 1000)
 (h : ∀ (j : Nat) (L : List S31), xs[j]? = some L → ∃ A c, vals[j]? = some (Value.slice A L.length c) ∧ L.length ≤ c ∧ Kd.C k31 W A L.length L) :
 Kd.C (Kd.slice 31 k31) (W.alloc (.cells vals.toArray 24)) (some ⟨W.heap.size, 0, none⟩) xs.length xs := by
 refine ⟨rfl, by omega, fun _ => ⟨⟨W.heap.size, 0, none⟩, rfl, fun j p hp => ?_⟩⟩
 obtain ⟨A, c, h1, h2, h3⟩ := h j p hp
 refine ⟨[.slice A p.length c], rfl, ⟨A, c, rfl, h2, Kd.C_below h3 (below_alloc (Below.refl _ _) _)⟩, fun i u hu => ?_⟩
 cases i with
 | succ i => simp at hu
 | zero =>
  simp only [List.getElem?_cons_zero, Option.some.injEq] at hu
  subst hu
  rw [add_plain]
  have := blk_cell (heap_alloc_new W (.cells vals.toArray 24)) (j * 1 + 0)
  rw [show (Kd.slice 31 k31).sz = 1 from rfl, this]
  simpa using h1
def slotOf (dl : List Int) (i : Nat) : Int := if (i : Int) < (dl.length : Int) then rd dl (i : Int) % 4 else 0
def dealt (L : List S31) (dl : List Int) : Nat → List (List S31)
 | 0 => List.replicate 4 []
 | i + 1 => (dealt L dl i).set (slotOf dl i).toNat ((dealt L dl i).getD (slotOf dl i).toNat [] ++ [rd_T31 L (i : Int)])
theorem dealt_len (L : List S31) (dl : List Int) : ∀ i, (dealt L dl i).length = 4
 | 0 => rfl
 | i + 1 => by rw [dealt, List.length_set]; exact dealt_len L dl i
theorem dealt_small (L : List S31) (dl : List Int) : ∀ i, ∀ x ∈ dealt L dl i, x.length ≤ i
 | 0, x, hx => by rw [dealt] at hx; rw [List.eq_of_mem_replicate hx]; exact Nat.le_refl _
 | i + 1, x, hx => by
  rw [dealt] at hx
  rcases List.mem_or_eq_of_mem_set hx with h | h
  · have := dealt_small L dl i x h; omega
  ·
   rw [h, List.length_append, List.length_singleton]
   have : ((dealt L dl i).getD (slotOf dl i).toNat []).length ≤ i := by
    rw [List.getD_eq_getElem?_getD]
    cases e : (dealt L dl i)[(slotOf dl i).toNat]? with
    | none => exact Nat.zero_le _
    | some y => exact dealt_small L dl i y (List.mem_of_getElem? e)
   omega
def zero24 : Value := .slice none 0 0
theorem rd_mem (ns : List Int) (i : Nat) (h : i < ns.length) : rd ns (i : Int) ∈ ns := by
 unfold rd
 rw [Int.toNat_natCast, List.getD_eq_getElem?_getD, List.getElem?_eq_getElem h]
 exact List.getElem_mem h
theorem cell_grown {w w1 : World} {row : Option Nat} (hg : w.grownBy w1 row) {a : Addr} {v : Value} (h : w.cell? a = some v) (hr : some a.block ≠ row) : w1.cell? a = some v := by
 have e := hg.block a.block (World.block_lt_of_cell? _ _ h) hr
 unfold World.cell? at h ⊢
 rw [e]; exact h
theorem frozen_grown {w w1 : World} {row : Option Nat} (hg : w.grownBy w1 row) {a : Addr} (h : w.frozen? a = false) (hl : a.block < w.heap.size) (hr : some a.block ≠ row) : w1.frozen? a = false := by
 have e := hg.block a.block hl hr
 unfold World.frozen? at h ⊢
 rw [e]; exact h
theorem part_put {wd wa : World} {base g cp : Nat} {xs : List (List S31)} {s : Int} {oki : Nat → Prop} {vo v1 : Value} {x' : List S31}
 (hH : Kd.H (Kd.slice 31 k31) 24 wd base (fun _ => True) (.slice (some ⟨g, 0, none⟩) 4 cp) xs s (fun k => oki k ∨ True ∧ wd.heap.size ≤ k) [vo]) (h0 : 0 ≤ s) (h4 : s < 4) (hoki : ∀ k, oki k → True ∧ k ≠ g)
 (hown : ∀ k, vo.ownBlock = some k → oki k ∨ True ∧ wd.heap.size ≤ k) (hg : wd.grownBy wa vo.ownBlock) (ho : Kd.R k31 31 wa base (fun k => oki k ∨ True ∧ wd.heap.size ≤ k) v1 x') (hgl : g < wd.heap.size) :
 Kd.S (Kd.slice 31 k31) 24 (wa.setCell ⟨g, s.toNat, none⟩ v1) base (fun _ => True) (.slice (some ⟨g, 0, none⟩) 4 cp) (xs.set s.toNat x') := by
 have h1 := Kd.H_grown hH hg hown
 have hone : ∀ q ∈ [v1], q.oneCell' = true := fun q hq => by
  rw [List.mem_singleton.1 hq]
  obtain ⟨A, c, rfl⟩ := Kd.R_slice ho
  rfl
 obtain ⟨h2, h3⟩ := Kd.H_seg h1 h0 h4 (seg := [v1]) (j := 0) (Nat.le_refl 1) hone
 rw [show s.toNat * (Kd.slice 31 k31).sz + 0 = s.toNat by show s.toNat * 1 + 0 = s.toNat; omega] at h2 h3
 have hM : (Kd.slice 31 k31).M (wa.setCell ⟨g, s.toNat, none⟩ v1) base (fun k => oki k ∨ True ∧ wd.heap.size ≤ k) x' [v1] := by
  refine ⟨v1, rfl, Kd.R_step ho (fun k hk hlt => h3.block k hlt (fun he => ?_))⟩
  have he : k = g := by injection he
  rcases hk with hk | hk
  · exact (hoki k hk).2 he
  · have := hk.2; omega
 exact Kd.H_back h2 hM (fun _ hk => hk)
theorem merge_len (k : Nat) (A : Option Addr) (c n : Nat) (xs : List (List S31)) (m : List S31) (w : World) (hl : xs.length = n) (hC : Kd.C (Kd.slice 31 k31) w A n xs) (hc : n ≤ c) (h : merge_Merge.f k xs = some m) :
 Calls Try.prog 23 #[.slice A n c] w fun e w' => ∃ v0_ : Value, e = .returned (v0_) ∧ Kd.R k31 31 w' w.heap.size (fun _ => True) v0_ m ∧ Below w.heap.size w w' := by
 subst hl
 exact merge_Merge.calls k A c xs m w hC hc h
theorem raw_rows {w : World} {A : Option Addr} {n : Nat} {VS : List Value} {xs : List (List S31)} (hC : Kd.C (Kd.raw 1) w A n (VS.map (fun v => [v]))) (hl : xs.length = n)
 (h : ∀ (j : Nat) (p : List S31), xs[j]? = some p → ∃ A' c', VS[j]? = some (Value.slice A' p.length c') ∧ p.length ≤ c' ∧ Kd.C k31 w A' p.length p) : Kd.C (Kd.slice 31 k31) w A n xs := by
 obtain ⟨h1, h2, h3⟩ := hC
 refine ⟨hl, h2, fun hn => ?_⟩
 obtain ⟨ad, e, hc⟩ := h3 hn
 refine ⟨ad, e, fun j p hp => ?_⟩
 obtain ⟨A', c', e1, e2, e3⟩ := h j p hp
 obtain ⟨c, _, ⟨k1, _⟩, k2⟩ := hc j [Value.slice A' p.length c'] (by rw [List.getElem?_map, e1]; rfl)
 subst k1
 exact ⟨_, rfl, ⟨A', c', rfl, e2, e3⟩, k2⟩
structure VF (w : World) (g : Nat) (D : List (List S31)) (VS : List Value) : Prop where
 len : VS.length = 4
 at_ : ∀ t : Nat, t < 4 → ∃ A c, VS[t]? = some (Value.slice A (D.getD t []).length c) ∧ (D.getD t []).length ≤ c ∧ Kd.C k31 w A (D.getD t []).length (D.getD t []) ∧ w.cell? ⟨g, t, none⟩ = some (Value.slice A (D.getD t []).length c)
theorem vf_of {w : World} {g cp : Nat} {D : List (List S31)} (h : Kd.C (Kd.slice 31 k31) w (some ⟨g, 0, none⟩) 4 D) : ∃ VS, VF w g D VS := by
 have one : ∀ t : Nat, t < 4 → ∃ V A c, V = Value.slice A (D.getD t []).length c ∧ (D.getD t []).length ≤ c ∧ Kd.C k31 w A (D.getD t []).length (D.getD t []) ∧ w.cell? ⟨g, t, none⟩ = some V := by
  intro t ht
  obtain ⟨ad, c, e, _, ⟨A, c', ec, hl, hC⟩, hcc⟩ := Kd.C_get h [] (t : Int) (Int.natCast_nonneg _) (by omega)
  injection e with e
  subst e ec
  rw [Int.toNat_natCast] at hl hC hcc
  have h0 := hcc 0 _ rfl
  rw [add_plain, show t * (Kd.slice 31 k31).sz + 0 = t by show t * 1 + 0 = t; omega] at h0
  exact ⟨_, A, c', rfl, hl, hC, h0⟩
 obtain ⟨V0, A0, c0, e0, l0, C0, x0⟩ := one 0 (by omega)
 obtain ⟨V1, A1, c1, e1, l1, C1, x1⟩ := one 1 (by omega)
 obtain ⟨V2, A2, c2, e2, l2, C2, x2⟩ := one 2 (by omega)
 obtain ⟨V3, A3, c3, e3, l3, C3, x3⟩ := one 3 (by omega)
 subst e0 e1 e2 e3
 refine ⟨[Value.slice A0 (D.getD 0 []).length c0, Value.slice A1 (D.getD 1 []).length c1, Value.slice A2 (D.getD 2 []).length c2, Value.slice A3 (D.getD 3 []).length c3], rfl, fun t ht => ?_⟩
 match t, ht with
 | 0, _ => exact ⟨A0, c0, rfl, l0, C0, x0⟩
 | 1, _ => exact ⟨A1, c1, rfl, l1, C1, x1⟩
 | 2, _ => exact ⟨A2, c2, rfl, l2, C2, x2⟩
 | 3, _ => exact ⟨A3, c3, rfl, l3, C3, x3⟩
theorem back_rows {we wf : World} {g : Nat} {D : List (List S31)} {VS : List Value} {A : Option Addr} {n : Nat} (hD : D.length = 4) (hV : VF we g D VS) (hB : Below we.heap.size we wf) (hC : Kd.C (Kd.raw 1) wf A n ((VS.reverse.take 4).map (fun q => [q]))) :
 n = 4 ∧ Kd.C (Kd.slice 31 k31) wf A 4 D.reverse := by
 have hl := hV.len
 rw [List.take_of_length_le (by rw [List.length_reverse]; omega)] at hC
 have hn : n = 4 := by have := hC.1; rw [List.length_map, List.length_reverse] at this; omega
 subst hn
 refine ⟨rfl, raw_rows hC (by rw [List.length_reverse]; exact hD) (fun j p hp => ?_)⟩
 have hj : j < 4 := by have := (List.getElem?_eq_some_iff.1 hp).1; rw [List.length_reverse] at this; omega
 rw [List.getElem?_reverse (by omega)] at hp
 obtain ⟨A', c', e1, e2, e3, _⟩ := hV.at_ (3 - j) (by omega)
 have ep : D.getD (3 - j) [] = p := by
  rw [List.getD_eq_getElem?_getD, show 3 - j = D.length - 1 - j by omega, hp]; rfl
 rw [ep] at e1 e2 e3
 exact ⟨A', c', by rw [List.getElem?_reverse (by omega), ← e1]; congr 1; omega, e2, Kd.C_below e3 hB⟩
def iceboxlaw15_MergeParts.T11 : Bool × List (List Nat × List Nat) := (true, [([], []), ([], []), ([], []), ([], []), ([2, 3], [2, 3]), ([4], [4]), ([], []), ([], []), ([6, 7], [6, 7]), ([8], [8]), ([9], [9]), ([5, 10], [5, 10]), ([0, 1, 0, 1, 2, 3, 4, 5, 6, 7, 8, 9, 10, 11], [0, 1]), ([12, 11, 11, 0, 1, 2, 3, 4, 5, 6, 7, 8, 9, 10, 11], [11, 12])])
def iceboxlaw15_MergeParts.B11 : List Nat := [0, 0, 0, 0, 12, 28, 0, 0, 192, 448, 960, 2044, 4095, 8191]
theorem iceboxlaw15_MergeParts.tab11 : rtab .any (opsOf Try.f6 11) = iceboxlaw15_MergeParts.T11 := by kernel_rfl
theorem iceboxlaw15_MergeParts.bits11 : waitsOk iceboxlaw15_MergeParts.T11.2 iceboxlaw15_MergeParts.B11 = true := by kernel_rfl
set_option maxHeartbeats 4000000 in
set_option maxRecDepth 100000 in
theorem parts_walk (k : Nat) (A0 : Option Addr) (c0 : Nat) (l0 : List Int) (A1 : Option Addr) (c1 : Nat) (l1 : List Int) (a2 : Int) (w : World) (hr0 : Kd.C (Kd.int .u8) w A0 l0.length l0) (hc0 : l0.length ≤ c0) (hr1 : Kd.C (Kd.int .u8) w A1 l1.length l1) (hc1 : l1.length ≤ c1) (L : List S31) (HL : Aside0 (iceboxlaw12_Make.f k l0 a2 = some L)) (g4' : (L.length : Int) ≤ 1000) (g5 : Aside0 (∀ x ∈ l1, 0 ≤ x ∧ x ≤ 255)) (d1 : decide (80 < (l0.length : Int)) = false) (d1' : decide (80 < l0.length) = false)
 (m m2 : List S31) (HM : Aside0 (merge_Merge.f k (dealt L l1 L.length) = some m)) (H1 : Aside0 (iceboxref1_SameEntries.f k m L = some true)) (HM2 : Aside0 (merge_Merge.f k (dealt L l1 L.length).reverse = some m2)) (H2 : Aside0 (iceboxref1_SameEntries.f k m2 L = some true)) (HA : Aside0 (iceboxlaw15_awake.f k = some true)) :
 Calls Try.prog 6 #[.slice A0 l0.length c0, .slice A1 l1.length c1, .int .u8 a2] w fun e w' => e = .returned (.bool true) ∧ Below w.heap.size w w' := by
 have hu31 := Try.underlying31
 have hu29 := Try.underlying29
 have HR0 := Aside0.mk hr0
 have HC0 := Aside0.mk hc0
 have HR1 := Aside0.mk hr1
 have HC1 := Aside0.mk hc1
 clear hr0 hc0 hr1 hc1
 go_enter Try.func6, Try.ntmps6
 go_wp2_with (first
  | (go_at_call 15; (with_reducible refine (iceboxlaw12_Make.calls k _ _ l0 a2 L _ ?sa ?sb HL.out).mono ?_); (case sa => exact HR0.out); (case sb => exact HC0.out); rintro e w1 ⟨v1, rfl, ho1, hb1⟩; obtain ⟨A2, c2, rfl, hc2, hC2⟩ := Kd.R_reads ho1; have B1 := Aside0.mk hb1; have C1 := Aside0.mk hC2; have L1 := Aside0.mk hc2; clear ho1 hb1 hC2 hc2)
  | ((with_reducible refine gate_dst (N := 20) rfl ?_); (refine Kd.S_make (Kd.slice 31 k31) (w0 := w1) w1.heap.size 24 rfl (N := 20) rfl 36 _ _ rfl 4 rfl rfl Try.underlying36 (.slice none 0 0) 24 info24 rfl (by decide) (by decide) [] (ok := fun _ => True) (okp := fun _ => True) ⟨_, rfl, Kd.R_nil _ _ _ _ _⟩ (fun _ hk => hk) trivial (by decide) (by decide) (Below.refl _ _) (Nat.le_refl _) ?_; intro v2 w2 hS2 hb2 hg2 hn2; obtain ⟨g, cp, ev2, hg0, hgl, _⟩ := Kd.S_form hS2 (by decide); have ev3 : v2 = Value.slice (some ⟨g, 0, none⟩) 4 cp := ev2; clear ev2; subst ev3; have B2 := Aside0.mk hb2; have S2 := Aside0.mk hS2; have G0 := Aside0.mk hg0; have GL := Aside0.mk hgl; clear hb2 hg2 hn2 hS2 hg0 hgl)))
 have B0 := Aside0.mk (below_step B1.out B2.out)
 have HRd := Aside0.mk (Kd.C_below HR1.out B0.out)
 have C2 := Aside0.mk (Kd.C_below C1.out B2.out)
 go_loopw [9] (fun v wr => ∃ i : Nat, i ≤ L.length ∧ v = .int .i64 i ∧ Aside0 (Below w1.heap.size w1 wr) ∧ Aside0 (Below w.heap.size w wr) ∧ Aside0 (Kd.S (Kd.slice 31 k31) 24 wr w1.heap.size (fun _ => True) (.slice (some ⟨g, 0, none⟩) 4 cp) (dealt L l1 i))) (fun v _ => L.length - (intOf v).toNat)
 case atStart => exact ⟨0, Nat.zero_le _, rfl, B2, B0, S2⟩
 case round =>
  obtain ⟨i, hi, rfl, HB, HW, HS⟩ := hrel
  by_cases c : (i : Int) < (L.length : Int)
  ·
   have q0 : decide ((i : Int) < (L.length : Int)) = true := decide_eq_true c
   have p0 : (0 : Int) ≤ (i : Int) := Int.natCast_nonneg _
   obtain ⟨ad, ead, x0, x1, x2, x3⟩ := at_T31 C1.out (i : Int) p0 c
   cases ead
   rw [Int.toNat_natCast] at x0 x1 x2 x3
   have X0 := Aside0.mk x0
   have X1 := Aside0.mk x1
   have X2 := Aside0.mk x2
   have X3 := Aside0.mk x3
   replace x0 := (HB.out.cell (World.block_lt_of_cell? w1 _ x0)).trans x0
   replace x1 := (HB.out.cell (World.block_lt_of_cell? w1 _ x1)).trans x1
   replace x2 := (HB.out.cell (World.block_lt_of_cell? w1 _ x2)).trans x2
   replace x3 := (HB.out.cell (World.block_lt_of_cell? w1 _ x3)).trans x3
   by_cases cd : (i : Int) < (l1.length : Int)
   ·
    have q1 : decide ((i : Int) < (l1.length : Int)) = true := decide_eq_true cd
    obtain ⟨ad1, e1, hx⟩ := Kd.at_int (Kd.C_below HR1.out HW.out) (i : Int) p0 cd
    cases e1
    have gs := g5.out (rd l1 (i : Int)) (rd_mem l1 i (by omega))
    obtain ⟨n0, n1⟩ := gs
    have hs : slotOf l1 i = rd l1 (i : Int) % 4 := by rw [slotOf, if_pos cd]
    rw [Int.toNat_natCast] at hx
    obtain ⟨s, es⟩ : ∃ s, s = rd l1 (i : Int) % 4 := ⟨_, rfl⟩
    have h0 : 0 ≤ s := by omega
    have h4 : s < 4 := by omega
    rw [← es] at hs
    go_wp2
    rw [← es]
    have bi1 := eq_true c
    have ci : i < L.length := by omega
    clear es n0 n1 hx cd q1 c q0
    obtain ⟨oki, cc, _, hM, hcc, hfr, hoki, hH⟩ := Kd.S_elem HS.out [] s h0 h4
    obtain ⟨v, rfl, hRv⟩ := hM
    obtain ⟨P, eP⟩ : ∃ P, P = (dealt L l1 i).getD s.toNat [] := ⟨_, rfl⟩
    rw [← eP] at hRv
    obtain ⟨Ak, ck, rfl⟩ := Kd.R_slice hRv
    have D1 := Aside0.mk (below_drew (HB.out))
    have D2 := Aside0.mk (Kd.H_widen (Kd.H_drew hH))
    have D3 := Aside0.mk hoki
    have D4 := Aside0.mk (Kd.R_mono (ok' := fun k => oki k ∨ True ∧ wr.drew.heap.size ≤ k) (Kd.R_drew hRv) (fun k hk => Or.inl hk))
    have PL := Aside0.mk (show P.length ≤ 1000 by
     have : P.length ≤ i := by
      rw [eP, List.getD_eq_getElem?_getD]
      cases e : (dealt L l1 i)[s.toNat]? with
      | none => exact Nat.zero_le _
      | some y => exact dealt_small L l1 i y (List.mem_of_getElem? e)
     omega)
    have EP := Aside0.mk eP
    clear eP
    have F0 : wr.drew.cell? ⟨g, s.toNat, none⟩ = some (.slice Ak P.length ck) := by
     have hcc0 := hcc 0 _ rfl
     rw [show s.toNat * (Kd.slice 31 k31).sz + 0 = s.toNat by show s.toNat * 1 + 0 = s.toNat; omega] at hcc0
     exact hcc0
    have F1 : wr.drew.cell? (ad.add (i * 4)) = _ := x0
    have F2 : wr.drew.cell? ⟨(ad.add (i * 4)).block, (ad.add (i * 4)).off + 1, none⟩ = _ := x1
    have F3 : wr.drew.cell? ⟨(ad.add (i * 4)).block, (ad.add (i * 4)).off + 2, none⟩ = _ := x2
    have F4 : wr.drew.cell? ⟨(ad.add (i * 4)).block, (ad.add (i * 4)).off + 3, none⟩ = _ := x3
    have FZ : wr.drew.frozen? ⟨g, s.toNat, none⟩ = false := by
     have hfr0 := hfr 0
     rw [show s.toNat * (Kd.slice 31 k31).sz + 0 = s.toNat by show s.toNat * 1 + 0 = s.toNat; omega] at hfr0
     exact hfr0
    clear x0 x1 x2 x3 hcc hoki hH hRv hfr
    have bi0 := eq_true p0
    have bs0 := eq_true h0
    have bs4 := eq_true h4
    refine start_ (n := 14) (S := fun w' => w'.cell? ⟨g, s.toNat, none⟩ = some (.slice Ak P.length ck) ∧ w'.cell? (ad.add (i * 4)) = some (.string (rd_T31 L i).f0.f0) ∧ w'.cell? ⟨(ad.add (i * 4)).block, (ad.add (i * 4)).off + 1, none⟩ = some (.int .i64 (rd_T31 L i).f0.f1) ∧ w'.cell? ⟨(ad.add (i * 4)).block, (ad.add (i * 4)).off + 2, none⟩ = some (.int .i64 (rd_T31 L i).f0.f2) ∧ w'.cell? ⟨(ad.add (i * 4)).block, (ad.add (i * 4)).off + 3, none⟩ = some (.string (rd_T31 L i).f1)) (ds := [13]) #[false, false, false, false, false, false, false, false, false, false, false, false, false, false] (by kernel_rfl) rfl rfl ⟨F0, F1, F2, F3, F4⟩ (fun hHeld => ?_); refine with_tabW iceboxlaw15_MergeParts.tab11 iceboxlaw15_MergeParts.bits11 (fun HT_ HW_ => ?_)
    generalize wr.drew = wd at FZ F0 F1 F2 F3 F4 D1 D2 D3 D4 hHeld ⊢
    refine pure_ (i := 0) (N := some 37) (v := ?_) (a' := ?_) #[true, false, false, false, false, false, false, false, false, false, false, false, false, false] rfl rfl (any_of HT_.out (by kernel_rfl)) (fun _ _ _ h => h) (Or.inl ⟨by rfl, ?_⟩) ?_ ?_
    rotate_left
    ·
     intro w'
     go_simp
     with_reducible rfl
    rotate_left
    ·
     simp only [Act.put, List.setIfInBounds_toArray, List.set_cons_zero, List.set_cons_succ, i64_w, i32_w]
     rfl

    refine pure_ (i := 1) (N := some 38) (v := ?_) (a' := ?_) #[true, true, false, false, false, false, false, false, false, false, false, false, false, false] rfl rfl (any_of HT_.out (by kernel_rfl)) (fun _ _ _ h => h) (Or.inl ⟨by rfl, ?_⟩) ?_ ?_
    rotate_left
    ·
     intro w'
     go_simp
     with_reducible rfl
    rotate_left
    ·
     simp only [Act.put, List.setIfInBounds_toArray, List.set_cons_zero, List.set_cons_succ, i64_w, i32_w]
     rfl

    refine pure_ (i := 2) (N := some 39) (v := ?_) (a' := ?_) #[true, true, true, false, false, false, false, false, false, false, false, false, false, false] rfl rfl (any_of HT_.out (by kernel_rfl)) (fun _ _ _ h => h) (Or.inl ⟨by rfl, ?_⟩) ?_ ?_
    rotate_left
    ·
     intro w'
     go_simp
     with_reducible rfl
    rotate_left
    ·
     simp only [Act.put, List.setIfInBounds_toArray, List.set_cons_zero, List.set_cons_succ, i64_w, i32_w]
     rfl

    refine pure_ (i := 3) (N := some 40) (v := ?_) (a' := ?_) #[true, true, true, true, false, false, false, false, false, false, false, false, false, false] rfl rfl (any_of HT_.out (by kernel_rfl)) (fun _ _ _ h => h) (Or.inl ⟨by rfl, ?_⟩) ?_ ?_
    rotate_left
    ·
     intro w'
     go_simp
     with_reducible rfl
    rotate_left
    ·
     simp only [Act.put, List.setIfInBounds_toArray, List.set_cons_zero, List.set_cons_succ, i64_w, i32_w]
     rfl

    refine pure_ (i := 4) (N := some 41) (v := ?_) (a' := ?_) #[true, true, true, true, true, false, false, false, false, false, false, false, false, false] rfl rfl (any_of HT_.out (by kernel_rfl)) (fun _ _ _ h => h) (Or.inl ⟨by rfl, ?_⟩) ?_ ?_
    rotate_left
    ·
     intro w'
     go_simp
     with_reducible rfl
    rotate_left
    ·
     simp only [Act.put, List.setIfInBounds_toArray, List.set_cons_zero, List.set_cons_succ, i64_w, i32_w]
     rfl

    refine pure_ (i := 6) (N := some 43) (v := ?_) (a' := ?_) #[true, true, true, true, true, false, true, false, false, false, false, false, false, false] rfl rfl (any_of HT_.out (by kernel_rfl)) (fun _ _ _ h => h) (Or.inl ⟨by rfl, ?_⟩) ?_ ?_
    rotate_left
    ·
     intro w'
     go_simp
     with_reducible rfl
    rotate_left
    ·
     simp only [Act.put, List.setIfInBounds_toArray, List.set_cons_zero, List.set_cons_succ, i64_w, i32_w]
     rfl

    refine pure_ (i := 7) (N := some 44) (v := ?_) (a' := ?_) #[true, true, true, true, true, false, true, true, false, false, false, false, false, false] rfl rfl (any_of HT_.out (by kernel_rfl)) (fun _ _ _ h => h) (Or.inl ⟨by rfl, ?_⟩) ?_ ?_
    rotate_left
    ·
     intro w'
     go_simp
     with_reducible rfl
    rotate_left
    ·
     simp only [Act.put, List.setIfInBounds_toArray, List.set_cons_zero, List.set_cons_succ, i64_w, i32_w]
     rfl

    refine pure_ (i := 8) (N := some 45) (v := ?_) (a' := ?_) #[true, true, true, true, true, false, true, true, true, false, false, false, false, false] rfl rfl (any_of HT_.out (by kernel_rfl)) (fun _ _ _ h => h) (Or.inl ⟨by rfl, ?_⟩) ?_ ?_
    rotate_left
    ·
     intro w'
     go_simp
     with_reducible rfl
    rotate_left
    ·
     simp only [Act.put, List.setIfInBounds_toArray, List.set_cons_zero, List.set_cons_succ, i64_w, i32_w]
     rfl

    refine take_ (i := 5) (N := some 42) (v := ?_) (a' := ?_) #[true, true, true, true, true, true, true, true, true, false, false, false, false, false] rfl rfl (take_ofW HT_.out HW_.out (by kernel_rfl)) (fun _ _ _ h => h) (Or.inl ⟨by rfl, ?_⟩) hHeld ?_ ?_
    rotate_left
    ·
     rintro w' ⟨s0, s1, s2, s3, s4⟩
     go_simp
     with_reducible rfl
    rotate_left
    ·
     simp only [Act.put, List.setIfInBounds_toArray, List.set_cons_zero, List.set_cons_succ, i64_w, i32_w]
     rfl

    refine take_ (i := 9) (N := some 46) (v := ?_) (a' := ?_) #[true, true, true, true, true, true, true, true, true, true, false, false, false, false] rfl rfl (take_ofW HT_.out HW_.out (by kernel_rfl)) (fun _ _ _ h => h) (Or.inl ⟨by rfl, ?_⟩) hHeld ?_ ?_
    rotate_left
    ·
     rintro w' ⟨s0, s1, s2, s3, s4⟩
     go_simp
     with_reducible rfl
    rotate_left
    ·
     simp only [Act.put, List.setIfInBounds_toArray, List.set_cons_zero, List.set_cons_succ, i64_w, i32_w]
     rfl

    refine one_ (i := 10) (N := some 47) #[true, true, true, true, true, true, true, true, true, true, true, false, false, false] rfl rfl (one_of HT_.out (by kernel_rfl)) (by decide) (fun K hK => ?_)
    refine value_ (w1 := ?_) (v := ?_) (by rfl) rfl ?_ ?_
    rotate_left 2
    ·
     go_simp
     constructor
     · rfl
     · rfl
    refine hK.out _ _ ⟨(World.cell?_alloc_lt _ _ _ (World.block_lt_of_cell? _ _ F0)).trans F0, (World.cell?_alloc_lt _ _ _ (World.block_lt_of_cell? _ _ F1)).trans F1, (World.cell?_alloc_lt _ _ _ (World.block_lt_of_cell? _ _ F2)).trans F2, (World.cell?_alloc_lt _ _ _ (World.block_lt_of_cell? _ _ F3)).trans F3, (World.cell?_alloc_lt _ _ _ (World.block_lt_of_cell? _ _ F4)).trans F4⟩ (fun hHeld => ?_)
    clear hK K
    refine norm_ (a' := ?_) ?_ ?_
    rotate_left
    ·
     show Act.put _ (some 47) _ = _
     simp only [Act.put, List.setIfInBounds_toArray, List.set_cons_zero, List.set_cons_succ, i64_w, i32_w]
     rfl
    refine one_ (i := 11) (N := some 48) #[true, true, true, true, true, true, true, true, true, true, true, true, false, false] rfl rfl (one_of HT_.out (by kernel_rfl)) (by decide) (fun K hK => ?_)
    refine Kd.R_append_step k31 (w0 := w1) w1.heap.size (by rfl) (.tmp 42) (.tmp 47) 24 31 (.agg #[(.string ⟨#[]⟩), (.int .i64 0), (.int .i64 0), (.string ⟨#[]⟩)]) 48 rfl Try.underlying24 info31 rfl (by decide) (by decide) (.slice Ak P.length ck) P (rd_T31 L (i : Int)) [.string (rd_T31 L (i : Int)).f0.f0, .int .i64 (rd_T31 L (i : Int)).f0.f1, .int .i64 (rd_T31 L (i : Int)).f0.f2, .string (rd_T31 L (i : Int)).f1] (fun k => oki k ∨ True ∧ wd.heap.size ≤ k) (fun _ => False) rfl rfl (k31_mkM _ _ _ (rd_T31 L (i : Int))) (fun _ hk => hk.elim) (fun _ hk => Or.inr ⟨trivial, hk⟩) D4.out D1.out D1.out.size (by have := PL.out; omega) ?_
    intro v1 wa ho hb hg hat
    have hgl := World.block_lt_of_cell? _ _ F0
    have hng : some g ≠ (Value.slice Ak P.length ck).ownBlock := fun he => by
     rcases D4.out.1 g he.symm with h | h
     · exact (D3.out g h).2 rfl
     · have := h.2; have : g < wd.heap.size := hgl; omega
    have F0' := cell_grown hg F0 hng
    have FZ' := frozen_grown hg FZ hgl hng
    have F1' := (hb.cell (World.block_lt_of_cell? w1 _ X0.out)).trans X0.out
    have F2' := (hb.cell (World.block_lt_of_cell? w1 _ X1.out)).trans X1.out
    have F3' := (hb.cell (World.block_lt_of_cell? w1 _ X2.out)).trans X2.out
    have F4' := (hb.cell (World.block_lt_of_cell? w1 _ X3.out)).trans X3.out
    have HS2 := Aside0.mk (part_put D2.out h0 h4 D3.out D4.out.1 hg ho hgl)
    have HB2 := Aside0.mk (below_set (j := s.toNat) (v := v1) hb G0.out)
    have e_ : (dealt L l1 i).set s.toNat (P ++ [rd_T31 L (i : Int)]) = dealt L l1 (i + 1) := by rw [dealt, hs, EP.out]
    rw [e_] at HS2
    clear e_
    obtain ⟨Av, cv, ev⟩ := Kd.R_slice ho
    rw [show (P ++ [rd_T31 L (i : Int)]).length = P.length + 1 by simp] at ev
    subst ev
    clear ho hb hg hat hgl hng F0 F1 F2 F3 F4 FZ D1 D2 D3 D4
    refine hK.out _ _ ⟨F0', F1', F2', F3', F4'⟩ (fun hHeld => ?_)
    clear hK K
    refine norm_ (a' := ?_) ?_ ?_
    rotate_left
    ·
     show Act.put _ (some 48) _ = _
     simp only [Act.put, List.setIfInBounds_toArray, List.set_cons_zero, List.set_cons_succ, i64_w, i32_w]
     rfl
    refine pure_ (i := 12) (N := some 49) (v := ?_) (a' := ?_) #[true, true, true, true, true, true, true, true, true, true, true, true, true, false] rfl rfl (any_of HT_.out (by kernel_rfl)) (fun _ _ _ h => h) (Or.inl ⟨by rfl, ?_⟩) ?_ ?_
    rotate_left
    ·
     intro w'
     go_simp
     with_reducible rfl
    rotate_left
    ·
     simp only [Act.put, List.setIfInBounds_toArray, List.set_cons_zero, List.set_cons_succ, i64_w, i32_w]
     rfl

    refine last_ (i := 13) (N := none) #[true, true, true, true, true, true, true, true, true, true, true, true, true, true] rfl rfl (one_of HT_.out (by kernel_rfl)) (by decide) (fun K hK => ?_)
    refine skip_ (w1 := ?_) (by rfl) rfl ?_ ?_
    rotate_left
    ·
     go_simp
     rfl
    refine hK.out _ _ ?_
    clear hK K
    refine done_ (done_of HT_.out (by kernel_rfl)) ?_
    go_wp2
    go_roundw
    case rel => exact ⟨i + 1, by omega, by go_num, HB2, ⟨below_step B1.out HB2.out⟩, HS2⟩
    case measure => simp [intOf]; omega
   ·
    have q1 : decide ((i : Int) < (l1.length : Int)) = false := decide_eq_false cd
    have hs : slotOf l1 i = 0 := by rw [slotOf, if_neg cd]
    obtain ⟨s, es⟩ : ∃ s : Int, s = 0 := ⟨_, rfl⟩
    have h0 : 0 ≤ s := by omega
    have h4 : s < 4 := by omega
    rw [← es] at hs
    go_wp2
    rw [show Value.int IntKind.i64 0 = Value.int IntKind.i64 s by rw [es]]
    have bi1 := eq_true c
    have ci : i < L.length := by omega
    clear es cd q1 c q0
    obtain ⟨oki, cc, _, hM, hcc, hfr, hoki, hH⟩ := Kd.S_elem HS.out [] s h0 h4
    obtain ⟨v, rfl, hRv⟩ := hM
    obtain ⟨P, eP⟩ : ∃ P, P = (dealt L l1 i).getD s.toNat [] := ⟨_, rfl⟩
    rw [← eP] at hRv
    obtain ⟨Ak, ck, rfl⟩ := Kd.R_slice hRv
    have D1 := Aside0.mk (below_drew (HB.out))
    have D2 := Aside0.mk (Kd.H_widen (Kd.H_drew hH))
    have D3 := Aside0.mk hoki
    have D4 := Aside0.mk (Kd.R_mono (ok' := fun k => oki k ∨ True ∧ wr.drew.heap.size ≤ k) (Kd.R_drew hRv) (fun k hk => Or.inl hk))
    have PL := Aside0.mk (show P.length ≤ 1000 by
     have : P.length ≤ i := by
      rw [eP, List.getD_eq_getElem?_getD]
      cases e : (dealt L l1 i)[s.toNat]? with
      | none => exact Nat.zero_le _
      | some y => exact dealt_small L l1 i y (List.mem_of_getElem? e)
     omega)
    have EP := Aside0.mk eP
    clear eP
    have F0 : wr.drew.cell? ⟨g, s.toNat, none⟩ = some (.slice Ak P.length ck) := by
     have hcc0 := hcc 0 _ rfl
     rw [show s.toNat * (Kd.slice 31 k31).sz + 0 = s.toNat by show s.toNat * 1 + 0 = s.toNat; omega] at hcc0
     exact hcc0
    have F1 : wr.drew.cell? (ad.add (i * 4)) = _ := x0
    have F2 : wr.drew.cell? ⟨(ad.add (i * 4)).block, (ad.add (i * 4)).off + 1, none⟩ = _ := x1
    have F3 : wr.drew.cell? ⟨(ad.add (i * 4)).block, (ad.add (i * 4)).off + 2, none⟩ = _ := x2
    have F4 : wr.drew.cell? ⟨(ad.add (i * 4)).block, (ad.add (i * 4)).off + 3, none⟩ = _ := x3
    have FZ : wr.drew.frozen? ⟨g, s.toNat, none⟩ = false := by
     have hfr0 := hfr 0
     rw [show s.toNat * (Kd.slice 31 k31).sz + 0 = s.toNat by show s.toNat * 1 + 0 = s.toNat; omega] at hfr0
     exact hfr0
    clear x0 x1 x2 x3 hcc hoki hH hRv hfr
    have bi0 := eq_true p0
    have bs0 := eq_true h0
    have bs4 := eq_true h4
    refine start_ (n := 14) (S := fun w' => w'.cell? ⟨g, s.toNat, none⟩ = some (.slice Ak P.length ck) ∧ w'.cell? (ad.add (i * 4)) = some (.string (rd_T31 L i).f0.f0) ∧ w'.cell? ⟨(ad.add (i * 4)).block, (ad.add (i * 4)).off + 1, none⟩ = some (.int .i64 (rd_T31 L i).f0.f1) ∧ w'.cell? ⟨(ad.add (i * 4)).block, (ad.add (i * 4)).off + 2, none⟩ = some (.int .i64 (rd_T31 L i).f0.f2) ∧ w'.cell? ⟨(ad.add (i * 4)).block, (ad.add (i * 4)).off + 3, none⟩ = some (.string (rd_T31 L i).f1)) (ds := [13]) #[false, false, false, false, false, false, false, false, false, false, false, false, false, false] (by kernel_rfl) rfl rfl ⟨F0, F1, F2, F3, F4⟩ (fun hHeld => ?_); refine with_tabW iceboxlaw15_MergeParts.tab11 iceboxlaw15_MergeParts.bits11 (fun HT_ HW_ => ?_)
    generalize wr.drew = wd at FZ F0 F1 F2 F3 F4 D1 D2 D3 D4 hHeld ⊢
    refine pure_ (i := 0) (N := some 37) (v := ?_) (a' := ?_) #[true, false, false, false, false, false, false, false, false, false, false, false, false, false] rfl rfl (any_of HT_.out (by kernel_rfl)) (fun _ _ _ h => h) (Or.inl ⟨by rfl, ?_⟩) ?_ ?_
    rotate_left
    ·
     intro w'
     go_simp
     with_reducible rfl
    rotate_left
    ·
     simp only [Act.put, List.setIfInBounds_toArray, List.set_cons_zero, List.set_cons_succ, i64_w, i32_w]
     rfl

    refine pure_ (i := 1) (N := some 38) (v := ?_) (a' := ?_) #[true, true, false, false, false, false, false, false, false, false, false, false, false, false] rfl rfl (any_of HT_.out (by kernel_rfl)) (fun _ _ _ h => h) (Or.inl ⟨by rfl, ?_⟩) ?_ ?_
    rotate_left
    ·
     intro w'
     go_simp
     with_reducible rfl
    rotate_left
    ·
     simp only [Act.put, List.setIfInBounds_toArray, List.set_cons_zero, List.set_cons_succ, i64_w, i32_w]
     rfl

    refine pure_ (i := 2) (N := some 39) (v := ?_) (a' := ?_) #[true, true, true, false, false, false, false, false, false, false, false, false, false, false] rfl rfl (any_of HT_.out (by kernel_rfl)) (fun _ _ _ h => h) (Or.inl ⟨by rfl, ?_⟩) ?_ ?_
    rotate_left
    ·
     intro w'
     go_simp
     with_reducible rfl
    rotate_left
    ·
     simp only [Act.put, List.setIfInBounds_toArray, List.set_cons_zero, List.set_cons_succ, i64_w, i32_w]
     rfl

    refine pure_ (i := 3) (N := some 40) (v := ?_) (a' := ?_) #[true, true, true, true, false, false, false, false, false, false, false, false, false, false] rfl rfl (any_of HT_.out (by kernel_rfl)) (fun _ _ _ h => h) (Or.inl ⟨by rfl, ?_⟩) ?_ ?_
    rotate_left
    ·
     intro w'
     go_simp
     with_reducible rfl
    rotate_left
    ·
     simp only [Act.put, List.setIfInBounds_toArray, List.set_cons_zero, List.set_cons_succ, i64_w, i32_w]
     rfl

    refine pure_ (i := 4) (N := some 41) (v := ?_) (a' := ?_) #[true, true, true, true, true, false, false, false, false, false, false, false, false, false] rfl rfl (any_of HT_.out (by kernel_rfl)) (fun _ _ _ h => h) (Or.inl ⟨by rfl, ?_⟩) ?_ ?_
    rotate_left
    ·
     intro w'
     go_simp
     with_reducible rfl
    rotate_left
    ·
     simp only [Act.put, List.setIfInBounds_toArray, List.set_cons_zero, List.set_cons_succ, i64_w, i32_w]
     rfl

    refine pure_ (i := 6) (N := some 43) (v := ?_) (a' := ?_) #[true, true, true, true, true, false, true, false, false, false, false, false, false, false] rfl rfl (any_of HT_.out (by kernel_rfl)) (fun _ _ _ h => h) (Or.inl ⟨by rfl, ?_⟩) ?_ ?_
    rotate_left
    ·
     intro w'
     go_simp
     with_reducible rfl
    rotate_left
    ·
     simp only [Act.put, List.setIfInBounds_toArray, List.set_cons_zero, List.set_cons_succ, i64_w, i32_w]
     rfl

    refine pure_ (i := 7) (N := some 44) (v := ?_) (a' := ?_) #[true, true, true, true, true, false, true, true, false, false, false, false, false, false] rfl rfl (any_of HT_.out (by kernel_rfl)) (fun _ _ _ h => h) (Or.inl ⟨by rfl, ?_⟩) ?_ ?_
    rotate_left
    ·
     intro w'
     go_simp
     with_reducible rfl
    rotate_left
    ·
     simp only [Act.put, List.setIfInBounds_toArray, List.set_cons_zero, List.set_cons_succ, i64_w, i32_w]
     rfl

    refine pure_ (i := 8) (N := some 45) (v := ?_) (a' := ?_) #[true, true, true, true, true, false, true, true, true, false, false, false, false, false] rfl rfl (any_of HT_.out (by kernel_rfl)) (fun _ _ _ h => h) (Or.inl ⟨by rfl, ?_⟩) ?_ ?_
    rotate_left
    ·
     intro w'
     go_simp
     with_reducible rfl
    rotate_left
    ·
     simp only [Act.put, List.setIfInBounds_toArray, List.set_cons_zero, List.set_cons_succ, i64_w, i32_w]
     rfl

    refine take_ (i := 5) (N := some 42) (v := ?_) (a' := ?_) #[true, true, true, true, true, true, true, true, true, false, false, false, false, false] rfl rfl (take_ofW HT_.out HW_.out (by kernel_rfl)) (fun _ _ _ h => h) (Or.inl ⟨by rfl, ?_⟩) hHeld ?_ ?_
    rotate_left
    ·
     rintro w' ⟨s0, s1, s2, s3, s4⟩
     go_simp
     with_reducible rfl
    rotate_left
    ·
     simp only [Act.put, List.setIfInBounds_toArray, List.set_cons_zero, List.set_cons_succ, i64_w, i32_w]
     rfl

    refine take_ (i := 9) (N := some 46) (v := ?_) (a' := ?_) #[true, true, true, true, true, true, true, true, true, true, false, false, false, false] rfl rfl (take_ofW HT_.out HW_.out (by kernel_rfl)) (fun _ _ _ h => h) (Or.inl ⟨by rfl, ?_⟩) hHeld ?_ ?_
    rotate_left
    ·
     rintro w' ⟨s0, s1, s2, s3, s4⟩
     go_simp
     with_reducible rfl
    rotate_left
    ·
     simp only [Act.put, List.setIfInBounds_toArray, List.set_cons_zero, List.set_cons_succ, i64_w, i32_w]
     rfl

    refine one_ (i := 10) (N := some 47) #[true, true, true, true, true, true, true, true, true, true, true, false, false, false] rfl rfl (one_of HT_.out (by kernel_rfl)) (by decide) (fun K hK => ?_)
    refine value_ (w1 := ?_) (v := ?_) (by rfl) rfl ?_ ?_
    rotate_left 2
    ·
     go_simp
     constructor
     · rfl
     · rfl
    refine hK.out _ _ ⟨(World.cell?_alloc_lt _ _ _ (World.block_lt_of_cell? _ _ F0)).trans F0, (World.cell?_alloc_lt _ _ _ (World.block_lt_of_cell? _ _ F1)).trans F1, (World.cell?_alloc_lt _ _ _ (World.block_lt_of_cell? _ _ F2)).trans F2, (World.cell?_alloc_lt _ _ _ (World.block_lt_of_cell? _ _ F3)).trans F3, (World.cell?_alloc_lt _ _ _ (World.block_lt_of_cell? _ _ F4)).trans F4⟩ (fun hHeld => ?_)
    clear hK K
    refine norm_ (a' := ?_) ?_ ?_
    rotate_left
    ·
     show Act.put _ (some 47) _ = _
     simp only [Act.put, List.setIfInBounds_toArray, List.set_cons_zero, List.set_cons_succ, i64_w, i32_w]
     rfl
    refine one_ (i := 11) (N := some 48) #[true, true, true, true, true, true, true, true, true, true, true, true, false, false] rfl rfl (one_of HT_.out (by kernel_rfl)) (by decide) (fun K hK => ?_)
    refine Kd.R_append_step k31 (w0 := w1) w1.heap.size (by rfl) (.tmp 42) (.tmp 47) 24 31 (.agg #[(.string ⟨#[]⟩), (.int .i64 0), (.int .i64 0), (.string ⟨#[]⟩)]) 48 rfl Try.underlying24 info31 rfl (by decide) (by decide) (.slice Ak P.length ck) P (rd_T31 L (i : Int)) [.string (rd_T31 L (i : Int)).f0.f0, .int .i64 (rd_T31 L (i : Int)).f0.f1, .int .i64 (rd_T31 L (i : Int)).f0.f2, .string (rd_T31 L (i : Int)).f1] (fun k => oki k ∨ True ∧ wd.heap.size ≤ k) (fun _ => False) rfl rfl (k31_mkM _ _ _ (rd_T31 L (i : Int))) (fun _ hk => hk.elim) (fun _ hk => Or.inr ⟨trivial, hk⟩) D4.out D1.out D1.out.size (by have := PL.out; omega) ?_
    intro v1 wa ho hb hg hat
    have hgl := World.block_lt_of_cell? _ _ F0
    have hng : some g ≠ (Value.slice Ak P.length ck).ownBlock := fun he => by
     rcases D4.out.1 g he.symm with h | h
     · exact (D3.out g h).2 rfl
     · have := h.2; have : g < wd.heap.size := hgl; omega
    have F0' := cell_grown hg F0 hng
    have FZ' := frozen_grown hg FZ hgl hng
    have F1' := (hb.cell (World.block_lt_of_cell? w1 _ X0.out)).trans X0.out
    have F2' := (hb.cell (World.block_lt_of_cell? w1 _ X1.out)).trans X1.out
    have F3' := (hb.cell (World.block_lt_of_cell? w1 _ X2.out)).trans X2.out
    have F4' := (hb.cell (World.block_lt_of_cell? w1 _ X3.out)).trans X3.out
    have HS2 := Aside0.mk (part_put D2.out h0 h4 D3.out D4.out.1 hg ho hgl)
    have HB2 := Aside0.mk (below_set (j := s.toNat) (v := v1) hb G0.out)
    have e_ : (dealt L l1 i).set s.toNat (P ++ [rd_T31 L (i : Int)]) = dealt L l1 (i + 1) := by rw [dealt, hs, EP.out]
    rw [e_] at HS2
    clear e_
    obtain ⟨Av, cv, ev⟩ := Kd.R_slice ho
    rw [show (P ++ [rd_T31 L (i : Int)]).length = P.length + 1 by simp] at ev
    subst ev
    clear ho hb hg hat hgl hng F0 F1 F2 F3 F4 FZ D1 D2 D3 D4
    refine hK.out _ _ ⟨F0', F1', F2', F3', F4'⟩ (fun hHeld => ?_)
    clear hK K
    refine norm_ (a' := ?_) ?_ ?_
    rotate_left
    ·
     show Act.put _ (some 48) _ = _
     simp only [Act.put, List.setIfInBounds_toArray, List.set_cons_zero, List.set_cons_succ, i64_w, i32_w]
     rfl
    refine pure_ (i := 12) (N := some 49) (v := ?_) (a' := ?_) #[true, true, true, true, true, true, true, true, true, true, true, true, true, false] rfl rfl (any_of HT_.out (by kernel_rfl)) (fun _ _ _ h => h) (Or.inl ⟨by rfl, ?_⟩) ?_ ?_
    rotate_left
    ·
     intro w'
     go_simp
     with_reducible rfl
    rotate_left
    ·
     simp only [Act.put, List.setIfInBounds_toArray, List.set_cons_zero, List.set_cons_succ, i64_w, i32_w]
     rfl

    refine last_ (i := 13) (N := none) #[true, true, true, true, true, true, true, true, true, true, true, true, true, true] rfl rfl (one_of HT_.out (by kernel_rfl)) (by decide) (fun K hK => ?_)
    refine skip_ (w1 := ?_) (by rfl) rfl ?_ ?_
    rotate_left
    ·
     go_simp
     rfl
    refine hK.out _ _ ?_
    clear hK K
    refine done_ (done_of HT_.out (by kernel_rfl)) ?_
    go_wp2
    go_roundw
    case rel => exact ⟨i + 1, by omega, by go_num, HB2, ⟨below_step B1.out HB2.out⟩, HS2⟩
    case measure => simp [intOf]; omega
  ·
   have q0 : decide ((i : Int) < (L.length : Int)) = false := decide_eq_false c
   have ei : i = L.length := by omega
   subst ei
   obtain ⟨D, eD⟩ : ∃ D, D = dealt L l1 L.length := ⟨_, rfl⟩
   have HD := Aside0.mk (show D.length = 4 by rw [eD]; exact dealt_len _ _ _)
   rw [← eD] at HS HM HM2
   have ED := Aside0.mk eD
   clear eD c hi
   go_wp2
   generalize wr = we at HB HW HS ⊢
   have HC8 := Aside0.mk (show Kd.C (Kd.slice 31 k31) we (some ⟨g, 0, none⟩) 4 D by have h := (Kd.S_reads' HS.out).2.2; rw [HD.out] at h; exact h)
   obtain ⟨VS, hV⟩ := vf_of (cp := cp) HC8.out
   have HV := Aside0.mk hV
   have HP := Aside0.mk (Kd.S_reads' HS.out).2.1
   clear hV HS
   go_loopw [11, 12] (fun v v2 w' => ∃ j : Nat, j ≤ 4 ∧ v2 = .int .i64 (3 - (j : Int)) ∧ Aside0 (Below we.heap.size we w') ∧ Aside0 (Kd.R (Kd.raw 1) 24 w' we.heap.size (fun _ => True) v ((VS.reverse.take j).map (fun q => [q])))) (fun _ v2 _ => (intOf v2 + 1).toNat)
   case atStart => exact ⟨0, by omega, rfl, ⟨Below.refl _ _⟩, ⟨Kd.R_nil _ _ _ _ _⟩⟩
   case round =>
    obtain ⟨j, hj, ev2, HB5, HR5⟩ := hrel
    subst ev2
    rcases Nat.lt_or_ge j 4 with hj4 | hj4
    ·
     obtain ⟨t, et⟩ : ∃ t : Nat, 3 - (j : Int) = (t : Int) := ⟨3 - j, by omega⟩
     rw [et]
     have t4 : t < 4 := by omega
     obtain ⟨Aq, cq, y1, _, _, y2⟩ := HV.out.at_ t t4
     obtain ⟨Pt, ePt⟩ : ∃ Pt, Pt = D.getD t [] := ⟨_, rfl⟩
     rw [← ePt] at y1 y2
     replace y2 := (HB5.out.cell (World.block_lt_of_cell? we _ y2)).trans y2
     obtain ⟨Q, eQ⟩ : ∃ Q, Q = (VS.reverse.take j).map (fun q => [q]) := ⟨_, rfl⟩
     rw [← eQ] at HR5
     have hQ : VS.reverse.take (j + 1) = VS.reverse.take j ++ [Value.slice Aq Pt.length cq] := by
      have hl := HV.out.len
      have hj' : j < VS.reverse.length := by rw [List.length_reverse]; omega
      rw [List.take_succ_eq_append_getElem hj']
      congr 2
      have : VS.reverse[j]? = some (Value.slice Aq Pt.length cq) := by
       rw [List.getElem?_reverse (by omega), ← y1]; congr 1; omega
      rw [List.getElem?_eq_getElem hj'] at this
      injection this
     have hQ2 : (VS.reverse.take (j + 1)).map (fun q => [q]) = Q ++ [[Value.slice Aq Pt.length cq]] := by rw [hQ, List.map_append, eQ]; rfl
     have LQ := Aside0.mk (show Q.length ≤ 4 by rw [eQ, List.length_map, List.length_take]; omega)
     have HQ := Aside0.mk hQ2
     obtain ⟨Ab, cb, evb⟩ := Kd.R_slice HR5.out
     subst evb
     have r0 : decide (0 ≤ (t : Int)) = true := decide_eq_true (by omega)
     have r1 : (t : Int) < 4 := by omega
     have ET := Aside0.mk et
     clear ePt eQ hQ hQ2 y1 et
     go_wp2_with (first
      | ((with_reducible refine gate_builtin (b := .append) (xs := #[.tmp 54, .tmp 59]) rfl ?_); at_builtin; (refine Kd.R_append (Kd.raw 1) (w0 := we) we.heap.size rfl (.tmp 54) (.tmp 59) 36 24 (.slice none 0 0) 24 rfl Try.underlying36 info24 rfl (by decide) (by decide) _ Q [Value.slice Aq Pt.length cq] [Value.slice Aq Pt.length cq] (fun _ => True) (fun _ => False) rfl rfl ⟨rfl, rfl, fun u hu => by rw [List.mem_singleton.1 hu]; rfl⟩ (fun _ hk => hk.elim) (fun _ _ => trivial) HR5.out HB5.out HB5.out.size (by have := LQ.out; omega) ?_; intro v1 wb ho hb hg hat; have HR6 := Aside0.mk ho; have HB6 := Aside0.mk hb; clear ho hb hg hat)))
     go_roundw
     case rel => exact ⟨j + 1, by omega, by have := ET.out; go_num, HB6, ⟨by rw [HQ.out]; exact HR6.out⟩⟩
     case measure => have := ET.out; first | (simp [intOf]; done) | (simp [intOf]; omega)
    ·
     have ej : j = 4 := by omega
     subst ej
     obtain ⟨Ab, cb, evb, hcb, hCb⟩ := Kd.R_reads HR5.out
     subst evb
     obtain ⟨hn, hCB⟩ := back_rows HD.out HV.out HB5.out hCb
     rw [hn] at hcb
     rw [hn]
     have CB := Aside0.mk hCB
     have CBc := Aside0.mk hcb
     have CP := Aside0.mk (Kd.C_below HC8.out HB5.out)
     have HWr := Aside0.mk (below_step HW.out HB5.out)
     have CL := Aside0.mk (Kd.C_below (Kd.C_below C1.out HB.out) HB5.out)
     clear hn hCB hCb hcb
     rw [show 3 - ((4 : Nat) : Int) = -1 from rfl]
     generalize wr = wf at CB CP HWr CL ⊢
     go_wp2_with (first
      | (go_at_call 23; (with_reducible refine (merge_len k _ _ 4 D m _ HD.out ?sa ?sb HM.out).mono ?_); (case sa => exact CP.out); (case sb => exact HP.out); rintro e w3 ⟨v3, rfl, ho3, hb3⟩; obtain ⟨A3, c3, rfl, hc3, hC3⟩ := Kd.R_reads ho3; have B3 := Aside0.mk hb3; have C3 := Aside0.mk hC3; have L3 := Aside0.mk hc3; clear HM ho3 hb3 hC3 hc3)
      | (go_at_call 20; (with_reducible refine (iceboxref1_SameEntries.calls k _ _ m _ _ L true _ ?sa ?sb ?sc ?sd H1.out).mono ?_); (case sa => exact C3.out); (case sb => exact L3.out); (case sc => exact Kd.C_below CL.out B3.out); (case sd => exact L1.out); rintro e w4 ⟨rfl, hb4⟩; have B4 := Aside0.mk (below_step B3.out hb4.below); clear H1 hb4)
      | (go_at_call 23; (with_reducible refine (merge_len k _ _ 4 D.reverse m2 _ ?sl ?sa ?sb HM2.out).mono ?_); (case sl => rw [List.length_reverse]; exact HD.out); (case sa => exact Kd.C_below CB.out B4.out); (case sb => exact CBc.out); rintro e w5 ⟨v5, rfl, ho5, hb5⟩; obtain ⟨A5, c5, rfl, hc5, hC5⟩ := Kd.R_reads ho5; have B5 := Aside0.mk (below_step B4.out hb5); have C5 := Aside0.mk hC5; have L5 := Aside0.mk hc5; clear HM2 ho5 hb5 hC5 hc5)
      | (go_at_call 20; (with_reducible refine (iceboxref1_SameEntries.calls k _ _ m2 _ _ L true _ ?sa ?sb ?sc ?sd H2.out).mono ?_); (case sa => exact C5.out); (case sb => exact L5.out); (case sc => exact Kd.C_below CL.out B5.out); (case sd => exact L1.out); rintro e w6 ⟨rfl, hb6⟩; have B6 := Aside0.mk (below_step B5.out hb6.below); clear H2 hb6)
      | (go_at_call 21; (with_reducible refine (iceboxlaw15_awake.calls k true _ HA.out).mono ?_); rintro e w7 ⟨rfl, hb7⟩; have B7 := Aside0.mk (below_step B6.out hb7); clear hb7)
      | fail)
     go_ret
     exact ⟨rfl, below_step HWr.out B7.out⟩
def iceboxlaw15_MergeParts.f (k : Nat) (l0 : List Int) (l1 : List Int) (a2 : Int) : Option Bool :=
 if (l0.length : Int) > 80 then iceboxlaw15_awake.f k else
  ((iceboxlaw12_Make.f k l0 a2).bind fun L => if (L.length : Int) ≤ 1000 ∧ (∀ x ∈ l1, 0 ≤ x ∧ x ≤ 255) then ((merge_Merge.f k (dealt L l1 L.length)).bind fun m => ((iceboxref1_SameEntries.f k m L).bind fun t1 => if t1 = true then ((merge_Merge.f k (dealt L l1 L.length).reverse).bind fun m2 => ((iceboxref1_SameEntries.f k m2 L).bind fun t2 => if t2 = true then iceboxlaw15_awake.f k else some false)) else some false)) else none)
set_option maxHeartbeats 4000000 in
set_option maxRecDepth 100000 in
theorem iceboxlaw15_MergeParts.calls (k : Nat) (A0 : Option Addr) (c0 : Nat) (l0 : List Int) (A1 : Option Addr) (c1 : Nat) (l1 : List Int) (a2 : Int) (r : Bool) (w : World) (hR_ : Aside0 (r = true)) (hr0 : Kd.C (Kd.int .u8) w A0 l0.length l0) (hc0 : l0.length ≤ c0) (hr1 : Kd.C (Kd.int .u8) w A1 l1.length l1) (hc1 : l1.length ≤ c1) (h : iceboxlaw15_MergeParts.f k l0 l1 a2 = some r) :
 Calls Try.prog 6 #[.slice A0 l0.length c0, .slice A1 l1.length c1, .int .u8 a2] w fun e w' => e = .returned (.bool r) ∧ Below w.heap.size w w' := by
 have hu31 := Try.underlying31
 have hu29 := Try.underlying29
 unfold iceboxlaw15_MergeParts.f at h
 by_cases g1 : (l0.length : Int) > 80
 ·
  rw [if_pos g1] at h
  have d1 : decide (80 < (l0.length : Int)) = true := decide_eq_true g1
  have d1' : decide (80 < l0.length) = true := decide_eq_true (by omega)
  have H := Aside0.mk h
  clear h hr0 hc0 hr1 hc1 g1
  go_enter Try.func6, Try.ntmps6
  go_wp2_with (first | (go_at_call 21; (with_reducible refine (iceboxlaw15_awake.calls k r _ H.out).mono ?_); rintro e w1 ⟨rfl, hb1⟩; have B1 := Aside0.mk hb1; clear hb1))
  go_ret
  exact ⟨rfl, B1.out⟩
 rw [if_neg g1] at h
 replace h := Option.bind_eq_some_iff.mp h; obtain ⟨L, eL, h⟩ := h
 by_cases g4 : (L.length : Int) ≤ 1000 ∧ (∀ x ∈ l1, 0 ≤ x ∧ x ≤ 255)
 case neg => rw [if_neg g4] at h; exact absurd h (by simp)
 rw [if_pos g4] at h
 replace h := Option.bind_eq_some_iff.mp h; obtain ⟨m, em, h⟩ := h
 replace h := Option.bind_eq_some_iff.mp h; obtain ⟨t1, e1, h⟩ := h
 have hr := hR_.out
 subst hr
 cases t1 with
 | false => rw [if_neg Bool.false_ne_true] at h; cases h
 | true =>
 rw [if_pos rfl] at h
 replace h := Option.bind_eq_some_iff.mp h; obtain ⟨m2, em2, h⟩ := h
 replace h := Option.bind_eq_some_iff.mp h; obtain ⟨t2, e2, h⟩ := h
 cases t2 with
 | false => rw [if_neg Bool.false_ne_true] at h; cases h
 | true =>
 rw [if_pos rfl] at h
 exact parts_walk k A0 c0 l0 A1 c1 l1 a2 w hr0 hc0 hr1 hc1 L ⟨eL⟩ g4.1 ⟨g4.2⟩ (decide_eq_false g1) (decide_eq_false (by omega)) m m2 ⟨em⟩ ⟨e1⟩ ⟨em2⟩ ⟨e2⟩ ⟨h⟩
theorem iceboxlaw15_MergeParts.mono : ∀ a0 a1 a2 k, LeO (iceboxlaw15_MergeParts.f k a0 a1 a2) (iceboxlaw15_MergeParts.f (k + 1) a0 a1 a2) := by
 intro a0 a1 a2 k
 unfold iceboxlaw15_MergeParts.f
 repeat' first
  | (with_reducible exact iceboxlaw15_awake.mono _)
  | (with_reducible exact iceboxlaw12_Make.mono _ _ _)
  | (with_reducible exact merge_Merge.mono _ _)
  | (with_reducible exact iceboxref1_SameEntries.mono _ _ _)
  | (with_reducible exact LeO.refl _)
  | (with_reducible exact LeO.none _)
  | (with_reducible refine LeO.ite ?_ ?_)
  | (with_reducible refine LeO.bind ?_ (fun _ => ?_))

/-- THE ONE PURE STATEMENT of iceboxlaw15_MergeParts: yours. -/
def iceboxlaw15_MergeParts.Pure : Prop := ∀ (l0 : List Int) (l1 : List Int) (a2 : Int), l0.length ≤ maxLen → l0.length * 1 ≤ 140737488351232 → (∀ x ∈ l0, (Lit.int .u8 x).wf = true) → l1.length ≤ maxLen → l1.length * 1 ≤ 140737488351232 → (∀ x ∈ l1, (Lit.int .u8 x).wf = true) → (Lit.int .u8 a2).wf = true → ∃ k, iceboxlaw15_MergeParts.f k l0 l1 a2 = some true
theorem iceboxlaw15_MergeParts.walk (P : iceboxlaw15_MergeParts.Pure) (a0 : Option Addr) (len0 cap0 : Nat) (z0 : List Int) (a1 : Option Addr) (len1 cap1 : Nat) (z1 : List Int) (a2 : Int) (w : World) (w0 : (a0 = none ∧ len0 = 0 ∧ cap0 = 0 ∧ z0 = []) ∨ ∃ x, a0 = some x ∧ len0 ≤ cap0 ∧ cap0 ≤ maxLen ∧ z0.length = cap0 ∧ (∀ i, i < z0.length → w.cell? (x.add i) = some (.int .u8 (z0.getD i 0))) ∧ ∀ n ∈ z0, (Lit.int .u8 n).wf = true) (y0 : len0 * 1 ≤ 140737488351232) (w1 : (a1 = none ∧ len1 = 0 ∧ cap1 = 0 ∧ z1 = []) ∨ ∃ x, a1 = some x ∧ len1 ≤ cap1 ∧ cap1 ≤ maxLen ∧ z1.length = cap1 ∧ (∀ i, i < z1.length → w.cell? (x.add i) = some (.int .u8 (z1.getD i 0))) ∧ ∀ n ∈ z1, (Lit.int .u8 n).wf = true) (y1 : len1 * 1 ≤ 140737488351232) (w2 : (Lit.int .u8 a2).wf = true) :
 Calls Try.prog 6 #[.slice a0 len0 cap0, .slice a1 len1 cap1, .int .u8 a2] w fun e w' => e = .returned (.bool true) ∧ Below w.heap.size w w' := by
 obtain ⟨l0, rfl, hr0, hm0, hw0, hc0⟩ := ReadsInt.ofRowC w0
 obtain ⟨l1, rfl, hr1, hm1, hw1, hc1⟩ := ReadsInt.ofRowC w1
 obtain ⟨k, h⟩ := P l0 l1 a2 hm0 y0 hw0 hm1 y1 hw1 w2
 refine (iceboxlaw15_MergeParts.calls k _ _ l0 _ _ l1 a2 true w ⟨rfl⟩ (Kd.C_of_reads (d := (0 : Int)) (h1 := fun _ => rfl) hr0) hc0 (Kd.C_of_reads (d := (0 : Int)) (h1 := fun _ => rfl) hr1) hc1 h).mono ?_
 rintro e w' ⟨rfl, hd⟩
 exact ⟨rfl, hd⟩

end Go.Proofs.Ytoomipmndapgnaa.PMergeParts
