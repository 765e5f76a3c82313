/- The functions that a law reaches, as Lean functions, each with the contract that its Go code comes to just these answers. Written by a program of this claim's author (wip/mkprint.py). No conditions. -/
import Derived.Test.YtffnimaaolmbdaaPEditBackx0
import Derived.Test.YtffnimaaolmbdaaPEditBackx4
import Derived.Test.YtffnimaaolmbdaaPEditBackx5
namespace Go.Proofs.Ytffnimaaolmbdaa.PEditBack
open Go.RowKit Go.Proofs.YtffnimaaolmbdaaW.PrintWords Go.Proofs.YtffnimaaolmbdaaW.PrintLast Go.Proofs.YtffnimaaolmbdaaW.PrintMore
attribute [local go_sem] max2_int min2_int max_two min_two max_three min_three max_four min_four   -- for this text's walks alone
set_option linter.unusedVariables false
set_option linter.unusedSimpArgs false

/-! ### edit_Get and what it leans on -/
def setAll (w : World) (l : List (Addr × Int)) : World := l.foldl (fun w p => w.setCell p.1 (.int .i64 p.2)) w
theorem setAll_snoc (w : World) (l : List (Addr × Int)) (p : Addr × Int) : setAll w (l ++ [p]) = (setAll w l).setCell p.1 (.int .i64 p.2) := by unfold setAll; rw [List.foldl_append]; rfl
theorem setCell_at {a b : World} {k : Nat} (h : a.heap[k]? = b.heap[k]?) (p : Addr) (v : Value) : (a.setCell p v).heap[k]? = (b.setCell p v).heap[k]? := by
 unfold World.setCell
 dsimp only
 rw [Array.getElem?_modify, Array.getElem?_modify, h]
def IntCell (w : World) (p : Addr) : Prop := (∃ x, w.cell? p = some (.int .i64 x)) ∧ w.frozen? p = false
theorem IntCell.of {a b : World} {p : Addr} (h : IntCell a p) (e : b.heap[p.block]? = a.heap[p.block]?) : IntCell b p := by
 unfold IntCell World.cell? World.frozen? at *
 rw [e]; exact h
theorem IntCell.set {w : World} {p : Addr} (h : IntCell w p) (q : Addr) (x : Int) : IntCell (w.setCell q (.int .i64 x)) p := by
 obtain ⟨⟨y, hy⟩, hf⟩ := h
 by_cases c : q.block = p.block
 ·
  unfold IntCell World.cell? World.frozen? World.setCell at *
  dsimp only at *
  rw [Array.getElem?_modify, if_pos c]
  cases e : w.heap[p.block]? with
  | none => rw [e] at hy; cases hy
  | some o =>
   rw [e] at hy hf
   cases o with
   | cells cs t fr =>
    dsimp only [Option.map] at *
    refine ⟨?_, hf⟩
    by_cases s : p.spot.isSome = true
    · rw [if_pos s] at hy; cases hy
    ·
     rw [if_neg s] at hy ⊢
     by_cases s2 : q.spot.isSome = true
     · rw [if_pos s2]; exact ⟨y, hy⟩
     ·
      rw [if_neg s2, Array.getElem?_setIfInBounds]
      by_cases e3 : q.off = p.off
      ·
       rw [if_pos e3, if_pos (by have := (Array.getElem?_eq_some_iff.1 hy).1; omega)]
       exact ⟨x, rfl⟩
      · rw [if_neg e3]; exact ⟨y, hy⟩
   | _ => cases hy
 · exact IntCell.of ⟨⟨y, hy⟩, hf⟩ (Below.heap_setCell w q _ p.block (fun e => c e.symm))
theorem IntCell.setAll {p : Addr} : ∀ {w : World} (l : List (Addr × Int)), IntCell w p → IntCell (setAll w l) p
 | _, [], h => h
 | _, q :: l, h => IntCell.setAll l (h.set q.1 q.2)
theorem setAll_size : ∀ (l : List (Addr × Int)) (w : World), (setAll w l).heap.size = w.heap.size
 | [], _ => rfl
 | q :: l, w => (setAll_size l _).trans (by simp [World.setCell])
theorem setAll_far {k : Nat} : ∀ (l : List (Addr × Int)) (w : World), (∀ q ∈ l, k ≠ q.1.block) → (setAll w l).heap[k]? = w.heap[k]?
 | [], _, _ => rfl
 | q :: l, w, h => (setAll_far l _ (fun x hx => h x (List.mem_cons_of_mem _ hx))).trans (Below.heap_setCell w q.1 _ k (h q (List.mem_cons_self ..)))
/-! what is read -/
def resN (r : Option (Int × Int × Bool)) : Option (Int × Nat) := match r with | some (n, nx, true) => some (n, nx.toNat) | _ => none
def resT (r : Option (ByteArray × Int × Bool)) : Option (ByteArray × Nat) := match r with | some (n, nx, true) => some (n, nx.toNat) | _ => none
def okN (l : Nat) (r : Option (Int × Int × Bool)) : Bool := match r with | some (_, nx, ok) => !ok || (decide (0 ≤ nx) && decide (nx ≤ (l : Int))) | none => false
def okT (l : Nat) (r : Option (ByteArray × Int × Bool)) : Bool := match r with | some (_, nx, ok) => !ok || (decide (0 ≤ nx) && decide (nx ≤ (l : Int))) | none => false
theorem resN_c (l : Nat) (r : Option (Int × Int × Bool)) (h1 : okN l r = true) : (∃ n, ∃ nx : Nat, r = some (n, (nx : Int), true) ∧ resN r = some (n, nx) ∧ nx ≤ l) ∨ (∃ n m, r = some (n, m, false) ∧ resN r = none) := by
 match r, h1 with
 | some (n, nx, false), _ => exact Or.inr ⟨n, nx, rfl, rfl⟩
 | some (n, nx, true), h1 =>
  unfold okN at h1
  simp only [Bool.not_true, Bool.false_or, Bool.and_eq_true, decide_eq_true_eq] at h1
  exact Or.inl ⟨n, nx.toNat, by rw [Int.toNat_of_nonneg h1.1], rfl, by omega⟩
theorem resT_c (l : Nat) (r : Option (ByteArray × Int × Bool)) (h1 : okT l r = true) : (∃ n, ∃ nx : Nat, r = some (n, (nx : Int), true) ∧ resT r = some (n, nx) ∧ nx ≤ l) ∨ (∃ n m, r = some (n, m, false) ∧ resT r = none) := by
 match r, h1 with
 | some (n, nx, false), _ => exact Or.inr ⟨n, nx, rfl, rfl⟩
 | some (n, nx, true), h1 =>
  unfold okT at h1
  simp only [Bool.not_true, Bool.false_or, Bool.and_eq_true, decide_eq_true_eq] at h1
  exact Or.inl ⟨n, nx.toNat, by rw [Int.toNat_of_nonneg h1.1], rfl, by omega⟩
def gN (K : Nat) (b : List Int) (a : Nat) : Option (Int × Nat) := resN (num_Get.f K b (a : Int))
def gT (K : Nat) (b : List Int) (a : Nat) : Option (ByteArray × Nat) := resT (num_GetText.f K b (a : Int))
def tot (K : Nat) (b : List Int) : Bool := (List.range (b.length + 1)).all fun a => okN b.length (num_Get.f K b (a : Int)) && okT b.length (num_GetText.f K b (a : Int))
theorem tot_1 {K : Nat} {b : List Int} (h : tot K b = true) {a : Nat} (ha : a ≤ b.length) : okN b.length (num_Get.f K b (a : Int)) = true ∧ okT b.length (num_GetText.f K b (a : Int)) = true := by
 unfold tot at h
 rw [List.all_eq_true] at h
 have h1 := h a (List.mem_range.2 (by omega))
 rwa [Bool.and_eq_true] at h1
theorem tot_N {K : Nat} {b : List Int} (h : tot K b = true) {a : Nat} (ha : a ≤ b.length) : (∃ n, ∃ nx : Nat, num_Get.f K b (a : Int) = some (n, (nx : Int), true) ∧ gN K b a = some (n, nx) ∧ nx ≤ b.length) ∨ (∃ n m, num_Get.f K b (a : Int) = some (n, m, false) ∧ gN K b a = none) :=
 resN_c b.length _ (tot_1 h ha).1
theorem tot_T {K : Nat} {b : List Int} (h : tot K b = true) {a : Nat} (ha : a ≤ b.length) : (∃ n, ∃ nx : Nat, num_GetText.f K b (a : Int) = some (n, (nx : Int), true) ∧ gT K b a = some (n, nx) ∧ nx ≤ b.length) ∨ (∃ n m, num_GetText.f K b (a : Int) = some (n, m, false) ∧ gT K b a = none) :=
 resT_c b.length _ (tot_1 h ha).2
def numsC (r : Option (Int × Nat)) (a : Nat) (f : Nat → List Int × Nat × Bool) : List Int × Nat × Bool := match r with
 | some (n, nx) => (n :: (f nx).1, (f nx).2.1, (f nx).2.2)
 | none => ([], a, false)
def numsS (K : Nat) (b : List Int) : Nat → Nat → List Int × Nat × Bool
 | 0, a => ([], a, true)
 | m + 1, a => numsC (gN K b a) a (numsS K b m)
theorem numsS_some {K : Nat} {b : List Int} {a nx : Nat} {n : Int} (m : Nat) (h : gN K b a = some (n, nx)) : numsS K b (m + 1) a = (n :: (numsS K b m nx).1, (numsS K b m nx).2.1, (numsS K b m nx).2.2) := by rw [numsS, h]; rfl
theorem numsS_none {K : Nat} {b : List Int} {a : Nat} (m : Nat) (h : gN K b a = none) : numsS K b (m + 1) a = ([], a, false) := by rw [numsS, h]; rfl
theorem numsS_len (K : Nat) (b : List Int) : ∀ m a, (numsS K b m a).1.length ≤ m
 | 0, a => Nat.le_refl _
 | m + 1, a => by
  cases e : gN K b a with
  | none => rw [numsS_none m e]; exact Nat.zero_le _
  | some r => obtain ⟨n, nx⟩ := r; rw [numsS_some m e]; exact Nat.succ_le_succ (numsS_len K b m nx)
theorem numsS_at {K : Nat} {b : List Int} (ht : tot K b = true) : ∀ m a, a ≤ b.length → (numsS K b m a).2.1 ≤ b.length
 | 0, a, h => h
 | m + 1, a, h => by
  rcases tot_N ht h with ⟨n, nx, _, e, h2⟩ | ⟨_, _, _, e⟩
  · rw [numsS_some m e]; exact numsS_at ht m nx h2
  · rw [numsS_none m e]; exact h
theorem cells3 {w : World} {g : Nat} {a b c : Value} {t : TypeId} (h : w.heap[g]? = some (.cells #[a, b, c] t (0, 0))) : w.cell? ⟨g, 0, none⟩ = some a ∧ w.cell? ⟨g, 1, none⟩ = some b ∧ w.cell? ⟨g, 2, none⟩ = some c :=
 ⟨(blk_cell h 0).trans rfl, (blk_cell h 1).trans rfl, (blk_cell h 2).trans rfl⟩
/-- What nums leaves. -/
structure NumsOut (K : Nat) (b : List Int) (ps : List Addr) (A : Option Addr) (c R : Nat) (a0 : Nat) (bad : Bool) (w w' : World) : Prop where
 reader : w'.heap[R]? = some (.cells #[.slice A b.length c, .int .i64 ((numsS K b ps.length a0).2.1 : Int), .bool (bad || !(numsS K b ps.length a0).2.2)] 83 (0, 0))
 heap : ∀ k, k < w.heap.size → k ≠ R → w'.heap[k]? = (setAll w (ps.zip (numsS K b ps.length a0).1)).heap[k]?
 rest : Below 0 w w'
theorem zip_snoc {α β : Type} : ∀ (ps : List α) (vs : List β) (n : β) (h : vs.length < ps.length), ps.zip (vs ++ [n]) = ps.zip vs ++ [(ps[vs.length], n)]
 | p :: ps, [], n, h => by simp
 | p :: ps, v :: vs, n, h => by
  have := zip_snoc ps vs n (by simpa using h)
  simp [this]
theorem kept_all {w wr : World} {R : Nat} {l : List (Addr × Int)} {ps : List Addr} (hl : ∀ q ∈ l, q.1 ∈ ps) (hh : ∀ k, k < w.heap.size → k ≠ R → wr.heap[k]? = (setAll w l).heap[k]?) (hb : Below 0 w wr) : Kept w wr (fun k => k = R ∨ ∃ p ∈ ps, p.block = k) :=
 ⟨hb.size, fun k hk hn => (hh k hk (fun e => hn (Or.inl e))).trans (setAll_far l w (fun q hq e => hn (Or.inr ⟨q.1, hl q hq, e.symm⟩)))⟩
theorem zip_mem {ps : List Addr} {vs : List Int} : ∀ q ∈ ps.zip vs, q.1 ∈ ps := fun q hq => (List.of_mem_zip hq).1
set_option maxHeartbeats 4000000 in
set_option maxRecDepth 100000 in
theorem nums_x (K : Nat) (R L : Nat) (ps : List Addr) (A : Option Addr) (c : Nat) (b : List Int) (a0 : Nat) (bad : Bool) (w : World)
 (hR : w.heap[R]? = some (.cells #[.slice A b.length c, .int .i64 (a0 : Int), .bool bad] 83 (0, 0)))
 (hL : w.heap[L]? = some (.cells (ps.map fun p => Value.pointer (some p)).toArray 85 (0, 0)))
 (hps : ∀ p ∈ ps, p.block ≠ R ∧ p.block ≠ L ∧ IntCell w p) (hRL : L ≠ R)
 (hC : ∀ W', Kept w W' (fun k => k = R ∨ ∃ p ∈ ps, p.block = k) → Kd.C (Kd.int .u8) W' A b.length b) (hc : b.length ≤ c)
 (ht : tot K b = true) (ha : a0 ≤ b.length) (hm : ps.length ≤ 100) :
 Calls Try.prog 51 #[.pointer (some ⟨R, 0, none⟩), .slice (some ⟨L, 0, none⟩) ps.length ps.length] w fun e w' => e = .returned (.tuple #[]) ∧ NumsOut K b ps A c R a0 bad w w' := by
 have hu83 := Try.underlying83
 have HR := Aside0.mk hR
 have HL := Aside0.mk hL
 have HP := Aside0.mk hps
 have HN := Aside0.mk hRL
 have HC := Aside0.mk hC
 have HT := Aside0.mk ht
 have HM := Aside0.mk hm
 have HA := Aside0.mk ha
 clear hR hL hps hRL hC ht ha hm
 go_enter Try.func51, Try.ntmps51
 go_wp2_with (first
  | (with_reducible refine wp_label ?_) | (with_reducible refine wp_scope_straight ?_) | (simp only [Exit.noGoto_ret, Exit.noGoto_normal, Exit.noGoto_exit]))
 go_loopw [11] (fun v11 wr => ∃ (vs : List Int) (a : Nat), v11 = .int .i64 (vs.length : Int) ∧ Aside0 (vs.length ≤ ps.length) ∧ Aside0 (a ≤ b.length) ∧ Aside0 (numsS K b ps.length a0 = (vs ++ (numsS K b (ps.length - vs.length) a).1, (numsS K b (ps.length - vs.length) a).2.1, (numsS K b (ps.length - vs.length) a).2.2)) ∧ Aside0 (wr.heap[R]? = some (.cells #[.slice A b.length c, .int .i64 (a : Int), .bool bad] 83 (0, 0))) ∧ Aside0 (∀ k, k < w.heap.size → k ≠ R → wr.heap[k]? = (setAll w (ps.zip vs)).heap[k]?) ∧ Aside0 (Below 0 w wr)) (fun v11 _ => (ps.length - (intOf v11)).toNat)
 case atStart => exact ⟨[], a0, rfl, ⟨Nat.zero_le _⟩, HA, ⟨by simp⟩, HR, ⟨fun k _ _ => by simp [setAll]⟩, ⟨Below.refl _ _⟩⟩
 case round =>
  obtain ⟨vs, a, e11, HV, HAa, HS, HRr, HH, HB⟩ := hrel
  subst e11
  rcases Nat.lt_or_ge vs.length ps.length with cv | cv
  ·
   have hp := HP.out (ps[vs.length]) (List.getElem_mem cv)
   have hLr : wr.heap[L]? = some (.cells (ps.map fun p => Value.pointer (some p)).toArray 85 (0, 0)) := by
    rw [HH.out L (blk_lt HL.out) HN.out, setAll_far _ _ (fun q hq e => (HP.out q.1 (zip_mem q hq)).2.1 e.symm)]
    exact HL.out
   have cL : wr.cell? ⟨L, vs.length, none⟩ = some (.pointer (some ps[vs.length])) := (blk_cell hLr vs.length).trans (by simp [cv])
   have HI := Aside0.mk (IntCell.of (IntCell.setAll (ps.zip vs) hp.2.2) (HH.out _ (by obtain ⟨⟨x, hx⟩, _⟩ := hp.2.2; exact World.block_lt_of_cell? w _ hx) hp.1))
   have HCr := Aside0.mk (HC.out wr (kept_all zip_mem HH.out HB.out))
   have HPB := Aside0.mk hp.1
   have ZS := fun n => zip_snoc ps vs n cv
   have HZS := Aside0.mk ZS
   generalize ps[vs.length] = p at *
   obtain ⟨r0, r1, r2⟩ := cells3 HRr.out
   have p0 : (0 : Int) ≤ (vs.length : Int) := Int.natCast_nonneg _
   have p1 : (vs.length : Int) < (ps.length : Int) := by omega
   have q0 : decide ((vs.length : Int) < (ps.length : Int)) = true := decide_eq_true p1
   have CV := Aside0.mk cv
   clear hp ZS hLr cv
   go_wp2_with (first
    | (with_reducible refine wp_label ?_) | (with_reducible refine wp_scope_straight ?_) | (simp only [Exit.noGoto_ret, Exit.noGoto_normal, Exit.noGoto_exit])
    | fail)
   have RS : ∀ (n m : Int) (ok : Bool), num_Get.f K b (a : Int) = some (n, m, ok) → True := fun _ _ _ _ => trivial
   clear RS
   rcases tot_N HT.out HAa.out with ⟨n, nx, h1, h2, h3⟩ | ⟨n, m, h1, h2⟩
   ·
    have G1 := Aside0.mk h1
    have G2 := Aside0.mk h2
    have G3 := Aside0.mk h3
    clear h1 h2 h3
    go_region_held3 (fun w' => w'.cell? ⟨R, 0, none⟩ = some (.slice A b.length c) ∧ w'.cell? ⟨R, 1, none⟩ = some (.int .i64 (a : Int)) ∧ Below wr.heap.size wr w')
     ((repeat' apply And.intro) <;> (first | assumption | exact r0 | exact r1 | exact pw_below_drewN (Below.refl _ _) _ | exact pw_below_drewN (below_drew (Below.refl _ _)) _ | exact below_drew (Below.refl _ _) | exact Below.refl _ _ | exact below_step (below_drew (Below.refl _ _)) hb2 | exact cell_below' (by assumption) (by assumption) | go_keep))
     (first | (go_at_call 89; refine (num_Get.calls K A c b (a : Int) n nx true _ (Kd.C_drew HCr.out) hc G1.out).mono ?_; rintro e w2 ⟨rfl, q, rfl⟩))
    have HRd := Aside0.mk (blk_drewN HRr.out (1 + q))
    have HId := Aside0.mk (show IntCell (wr.drewN (1 + q)) p from HI.out)
    have HHd := Aside0.mk (show ∀ k, k < w.heap.size → k ≠ R → (wr.drewN (1 + q)).heap[k]? = (setAll w (ps.zip vs)).heap[k]? from HH.out)
    have HBd := Aside0.mk (pw_below_drewN HB.out (1 + q))
    clear r0 r1 r2 HRr HI HH HB HCr
    generalize wr.drewN (1 + q) = wd at HRd HId HHd HBd ⊢
    obtain ⟨⟨y, hy⟩, hf⟩ := HId.out
    obtain ⟨r0, r1, r2⟩ := cells3 HRd.out
    have rp : (wd.setCell p (.int .i64 n)).cell? ⟨R, 1, none⟩ = some (.int .i64 (a : Int)) := (World.cell?_setCell_far wd p ⟨R, 1, none⟩ _ HPB.out).trans r1
    have rf : (wd.setCell p (.int .i64 n)).frozen? ⟨R, 1, none⟩ = false := blk_frozen (blk_far HRd.out (fun e => HPB.out e.symm) _) 1
    go_wp2_with (first
     | (with_reducible refine wp_label ?_) | (with_reducible refine wp_scope_straight ?_) | (simp only [Exit.noGoto_ret, Exit.noGoto_normal, Exit.noGoto_exit])
     | fail)
    have JW : wrap64 ((vs.length : Int) + 1) = (((vs ++ [n]).length : Nat) : Int) := by rw [List.length_append, List.length_singleton]; unfold wrap64; have := HM.out; have := CV.out; omega
    rw [JW]
    refine ⟨⟨vs ++ [n], nx, rfl, ⟨by rw [List.length_append, List.length_singleton]; exact CV.out⟩, G3, ⟨?_⟩, ⟨blk_put (blk_far HRd.out (fun e => HPB.out e.symm) _) 1 _ rfl⟩, ⟨fun k hk hne => ?_⟩, ⟨Below.setCell (Below.setCell HBd.out (Nat.zero_le _) _) (Nat.zero_le _) _⟩⟩, ?_⟩
    ·
     have e1 : ps.length - vs.length = (ps.length - (vs ++ [n]).length) + 1 := by rw [List.length_append, List.length_singleton]; have := CV.out; omega
     have h5 := HS.out
     rw [e1, numsS_some _ G2.out] at h5
     rw [h5]
     simp
    ·
     rw [Below.heap_setCell _ _ _ k hne, HZS.out n, setAll_snoc]
     exact setCell_at (HHd.out k hk hne) p _
    ·
     have := CV.out
     simp only [intOf, List.length_append, List.length_singleton]
     omega
   ·
    have G1 := Aside0.mk h1
    have G2 := Aside0.mk h2
    clear h1 h2
    go_region_held3 (fun w' => w'.cell? ⟨R, 0, none⟩ = some (.slice A b.length c) ∧ w'.cell? ⟨R, 1, none⟩ = some (.int .i64 (a : Int)) ∧ Below wr.heap.size wr w')
     ((repeat' apply And.intro) <;> (first | assumption | exact r0 | exact r1 | exact pw_below_drewN (Below.refl _ _) _ | exact pw_below_drewN (below_drew (Below.refl _ _)) _ | exact below_drew (Below.refl _ _) | exact Below.refl _ _ | exact below_step (below_drew (Below.refl _ _)) hb2 | exact cell_below' (by assumption) (by assumption) | go_keep))
     (first | (go_at_call 89; refine (num_Get.calls K A c b (a : Int) n m false _ (Kd.C_drew HCr.out) hc G1.out).mono ?_; rintro e w2 ⟨rfl, q, rfl⟩))
    have HRd := Aside0.mk (blk_drewN HRr.out (1 + q))
    have HHd := Aside0.mk (show ∀ k, k < w.heap.size → k ≠ R → (wr.drewN (1 + q)).heap[k]? = (setAll w (ps.zip vs)).heap[k]? from HH.out)
    have HBd := Aside0.mk (pw_below_drewN HB.out (1 + q))
    clear r0 r1 r2 HRr HI HH HB HCr
    generalize wr.drewN (1 + q) = wd at HRd HHd HBd ⊢
    obtain ⟨r0, r1, r2⟩ := cells3 HRd.out
    have rf := blk_frozen HRd.out 2
    go_wp2_with (first
     | (with_reducible refine wp_label ?_) | (with_reducible refine wp_scope_straight ?_) | (simp only [Exit.noGoto_ret, Exit.noGoto_normal, Exit.noGoto_exit])
     | fail)
    refine bodyPost_ret (results_none rfl _ _ _) rfl ?_
    have h5 := HS.out
    have e1 : ps.length - vs.length = (ps.length - vs.length - 1) + 1 := by have := CV.out; omega
    rw [e1, numsS_none _ G2.out] at h5
    refine ⟨rfl, ⟨?_, fun k hk hne => ?_, Below.setCell HBd.out (Nat.zero_le _) _⟩⟩
    ·
     rw [h5]
     simpa using blk_put HRd.out 2 (.bool true) rfl
    ·
     rw [h5, Below.heap_setCell _ _ _ k hne, List.append_nil]
     exact HHd.out k hk hne
  ·
   have ev : vs.length = ps.length := Nat.le_antisymm HV.out cv
   have q0 : decide ((vs.length : Int) < (ps.length : Int)) = false := decide_eq_false (by omega)
   have h5 := HS.out
   rw [show ps.length - vs.length = 0 by omega] at h5
   have HS5 := Aside0.mk h5
   clear h5 HS cv
   go_wp2_with (first
    | (with_reducible refine wp_label ?_) | (with_reducible refine wp_scope_straight ?_) | (simp only [Exit.noGoto_ret, Exit.noGoto_normal, Exit.noGoto_exit])
    | fail)
   go_end0
   refine ⟨rfl, ⟨?_, fun k hk hne => ?_, HB.out⟩⟩
   ·
    rw [HS5.out]
    simpa [numsS] using HRr.out
   ·
    rw [HS5.out]
    simpa [numsS] using HH.out k hk hne
def textS (K : Nat) (b : List Int) (a : Nat) : ByteArray × Nat × Bool := match gT K b a with | some (s, nx) => (s, nx, true) | none => (⟨#[]⟩, a, false)
theorem textS_some {K : Nat} {b : List Int} {a nx : Nat} {s : ByteArray} (h : gT K b a = some (s, nx)) : textS K b a = (s, nx, true) := by unfold textS; rw [h]
theorem textS_none {K : Nat} {b : List Int} {a : Nat} (h : gT K b a = none) : textS K b a = (⟨#[]⟩, a, false) := by unfold textS; rw [h]
theorem textS_at {K : Nat} {b : List Int} (ht : tot K b = true) (a : Nat) (h : a ≤ b.length) : (textS K b a).2.1 ≤ b.length := by
 rcases tot_T ht h with ⟨n, nx, _, e, h2⟩ | ⟨_, _, _, e⟩
 · rw [textS_some e]; exact h2
 · rw [textS_none e]; exact h
structure TextOut (K : Nat) (b : List Int) (A : Option Addr) (c R : Nat) (a0 : Nat) (bad : Bool) (w w' : World) : Prop where
 reader : w'.heap[R]? = some (.cells #[.slice A b.length c, .int .i64 ((textS K b a0).2.1 : Int), .bool (bad || !(textS K b a0).2.2)] 83 (0, 0))
 heap : ∀ k, k < w.heap.size → k ≠ R → w'.heap[k]? = w.heap[k]?
 rest : Below 0 w w'
set_option maxHeartbeats 4000000 in
set_option maxRecDepth 100000 in
theorem text_x (K : Nat) (R : Nat) (A : Option Addr) (c : Nat) (b : List Int) (a : Nat) (bad : Bool) (w : World)
 (hR : w.heap[R]? = some (.cells #[.slice A b.length c, .int .i64 (a : Int), .bool bad] 83 (0, 0)))
 (hC : Kd.C (Kd.int .u8) w A b.length b) (hc : b.length ≤ c) (ht : tot K b = true) (ha : a ≤ b.length) :
 Calls Try.prog 90 #[.pointer (some ⟨R, 0, none⟩)] w fun e w' => e = .returned (.string (textS K b a).1) ∧ TextOut K b A c R a bad w w' := by
 have hu83 := Try.underlying83
 have HR := Aside0.mk hR
 have HC := Aside0.mk hC
 obtain ⟨r0, r1, r2⟩ := cells3 hR
 rcases tot_T ht ha with ⟨n, nx, h1, h2, h3⟩ | ⟨n, m, h1, h2⟩
 ·
  have G1 := Aside0.mk h1
  have G2 := Aside0.mk h2
  have EX := Aside0.mk (textS_some h2)
  rw [textS_some h2]
  clear h1 h2 h3 hR hC ht ha
  go_enter Try.func90, Try.ntmps90
  go_wp2
  go_region_held3 (fun w' => w'.cell? ⟨R, 0, none⟩ = some (.slice A b.length c) ∧ w'.cell? ⟨R, 1, none⟩ = some (.int .i64 (a : Int)) ∧ Below w.heap.size w w')
   ((repeat' apply And.intro) <;> (first | assumption | exact r0 | exact r1 | exact pw_below_drewN (Below.refl _ _) _ | exact pw_below_drewN (below_drew (Below.refl _ _)) _ | exact below_drew (Below.refl _ _) | exact Below.refl _ _ | go_keep))
   (first | (go_at_call 100; refine (num_GetText.calls K A c b (a : Int) n nx true _ (Kd.C_drew HC.out) hc G1.out).mono ?_; rintro e w2 ⟨rfl, q, rfl⟩))
  have HRd := Aside0.mk (blk_drewN HR.out (1 + q))
  have HHd := Aside0.mk (show ∀ k : Nat, (w.drewN (1 + q)).heap[k]? = w.heap[k]? from fun _ => rfl)
  have HBd := Aside0.mk (pw_below_drewN (Below.refl 0 w) (1 + q))
  clear r0 r1 r2 HR HC
  generalize wdn : w.drewN (1 + q) = wd at HRd HHd HBd ⊢
  clear wdn
  obtain ⟨r0, r1, r2⟩ := cells3 HRd.out
  have rf := blk_frozen HRd.out 1
  go_wp2
  go_ret
  exact ⟨rfl, ⟨by rw [EX.out]; simpa using blk_put HRd.out 1 (.int .i64 (nx : Int)) rfl, fun k _ hne => by rw [Below.heap_setCell _ _ _ k hne]; exact HHd.out k, Below.setCell HBd.out (Nat.zero_le _) _⟩⟩
 ·
  have G1 := Aside0.mk h1
  have EX := Aside0.mk (textS_none h2)
  rw [textS_none h2]
  clear h1 h2 hR hC ht ha
  go_enter Try.func90, Try.ntmps90
  go_wp2
  go_region_held3 (fun w' => w'.cell? ⟨R, 0, none⟩ = some (.slice A b.length c) ∧ w'.cell? ⟨R, 1, none⟩ = some (.int .i64 (a : Int)) ∧ Below w.heap.size w w')
   ((repeat' apply And.intro) <;> (first | assumption | exact r0 | exact r1 | exact pw_below_drewN (Below.refl _ _) _ | exact pw_below_drewN (below_drew (Below.refl _ _)) _ | exact below_drew (Below.refl _ _) | exact Below.refl _ _ | go_keep))
   (first | (go_at_call 100; refine (num_GetText.calls K A c b (a : Int) n m false _ (Kd.C_drew HC.out) hc G1.out).mono ?_; rintro e w2 ⟨rfl, q, rfl⟩))
  have HRd := Aside0.mk (blk_drewN HR.out (1 + q))
  have HHd := Aside0.mk (show ∀ k : Nat, (w.drewN (1 + q)).heap[k]? = w.heap[k]? from fun _ => rfl)
  have HBd := Aside0.mk (pw_below_drewN (Below.refl 0 w) (1 + q))
  clear r0 r1 r2 HR HC
  generalize wdn : w.drewN (1 + q) = wd at HRd HHd HBd ⊢
  clear wdn
  obtain ⟨r0, r1, r2⟩ := cells3 HRd.out
  have rf := blk_frozen HRd.out 2
  go_wp2
  go_ret
  exact ⟨rfl, ⟨by rw [EX.out]; simpa using blk_put HRd.out 2 (.bool true) rfl, fun k _ hne => by rw [Below.heap_setCell _ _ _ k hne]; exact HHd.out k, Below.setCell HBd.out (Nat.zero_le _) _⟩⟩
theorem setAll_at {k : Nat} : ∀ (l : List (Addr × Int)) {a b : World}, a.heap[k]? = b.heap[k]? → (setAll a l).heap[k]? = (setAll b l).heap[k]?
 | [], _, _, h => h
 | q :: l, _, _, h => setAll_at l (setCell_at h q.1 _)
theorem nums_lit (K : Nat) (R : Nat) (ps : List Addr) (A : Option Addr) (c : Nat) (b : List Int) (a0 : Nat) (bad : Bool) (w : World)
 (hR : w.heap[R]? = some (.cells #[.slice A b.length c, .int .i64 (a0 : Int), .bool bad] 83 (0, 0)))
 (hps : ∀ p ∈ ps, p.block ≠ R ∧ IntCell w p)
 (hC : ∀ W', Kept w W' (fun k => k = R ∨ ∃ p ∈ ps, p.block = k) → Kd.C (Kd.int .u8) W' A b.length b) (hc : b.length ≤ c)
 (ht : tot K b = true) (ha : a0 ≤ b.length) (hm : ps.length ≤ 100) :
 Calls Try.prog 51 #[.pointer (some ⟨R, 0, none⟩), .slice (some ⟨w.heap.size, 0, none⟩) ps.length ps.length] (w.alloc (.cells (ps.map fun p => Value.pointer (some p)).toArray 85)) fun e w' => e = .returned (.tuple #[]) ∧ NumsOut K b ps A c R a0 bad w w' := by
 have hlt : ∀ p ∈ ps, p.block < w.heap.size := fun p hp => by obtain ⟨⟨x, hx⟩, _⟩ := (hps p hp).2; exact World.block_lt_of_cell? w _ hx
 have hRl := blk_lt hR
 have e1 : (w.alloc (.cells (ps.map fun p => Value.pointer (some p)).toArray 85)).heap.size = w.heap.size + 1 := Array.size_push ..
 refine (nums_x K R w.heap.size ps A c b a0 bad _ (blk_alloc hR _) (blk_new _ _) (fun p hp => ⟨(hps p hp).1, fun e => by have := hlt p hp; omega, IntCell.of (hps p hp).2 (Below.heap_alloc _ _ _ (hlt p hp))⟩) (by omega) (fun W' hW => hC W' (Kept.then_ (Kept.of_below (below_alloc (Below.refl _ _) _) _) hW (fun k hk => Or.inl hk))) hc ht ha hm).mono ?_
 rintro e w' ⟨rfl, h1, h2, h3⟩
 refine ⟨rfl, h1, fun k hk hn => (h2 k (by omega) hn).trans (setAll_at _ (Below.heap_alloc _ _ _ hk)), ?_⟩
 exact (Below.lower0 (below_alloc (Below.refl w.heap.size w) _) (Nat.zero_le _)).trans h3
theorem int_blk {w : World} {g o : Nat} {cs : Array Value} {t : TypeId} {x : Int} (h : w.heap[g]? = some (.cells cs t (0, 0))) (hx : cs[o]? = some (.int .i64 x)) : IntCell w ⟨g, o, none⟩ := ⟨⟨x, (blk_cell h o).trans hx⟩, blk_frozen h o⟩
def tcells (x0 x1 x2 : Int) (s3 s4 : ByteArray) (x5 x6 : Int) (b7 b8 : Bool) : Array Value := #[.int .i64 x0, .int .i64 x1, .int .i64 x2, .string s3, .string s4, .int .i64 x5, .int .i64 x6, .bool b7, .bool b8]
theorem set_t3 {w : World} {T : Nat} {x0 x1 x2 x5 x6 : Int} {s3 s4 : ByteArray} {b7 b8 : Bool} {t : TypeId} (h : w.heap[T]? = some (.cells (tcells x0 x1 x2 s3 s4 x5 x6 b7 b8) t (0, 0))) (vs : List Int) (hv : vs.length ≤ 3) :
 (setAll w ([⟨T, 0, none⟩, ⟨T, 1, none⟩, ⟨T, 2, none⟩].zip vs)).heap[T]? = some (.cells (tcells (vs.getD 0 x0) (vs.getD 1 x1) (vs.getD 2 x2) s3 s4 x5 x6 b7 b8) t (0, 0)) := by
 match vs, hv with
 | [], _ => exact h
 | [a], _ => exact blk_put h 0 _ rfl
 | [a, b], _ => exact blk_put (blk_put h 0 (.int .i64 a) rfl) 1 _ rfl
 | [a, b, c], _ => exact blk_put (blk_put (blk_put h 0 (.int .i64 a) rfl) 1 (.int .i64 b) rfl) 2 _ rfl
 | a :: b :: c :: d :: r, hv => simp only [List.length_cons] at hv; omega
theorem set_t2 {w : World} {T at_ : Nat} {x0 x1 x2 x5 x6 z : Int} {s3 s4 : ByteArray} {b7 b8 : Bool} {t t' : TypeId} (h : w.heap[T]? = some (.cells (tcells x0 x1 x2 s3 s4 x5 x6 b7 b8) t (0, 0))) (h2 : w.heap[at_]? = some (.cells #[.int .i64 z] t' (0, 0))) (hne : T ≠ at_) (vs : List Int) (hv : vs.length ≤ 3) :
 (setAll w ([⟨T, 5, none⟩, ⟨T, 6, none⟩, ⟨at_, 0, none⟩].zip vs)).heap[T]? = some (.cells (tcells x0 x1 x2 s3 s4 (vs.getD 0 x5) (vs.getD 1 x6) b7 b8) t (0, 0)) ∧
 (setAll w ([⟨T, 5, none⟩, ⟨T, 6, none⟩, ⟨at_, 0, none⟩].zip vs)).heap[at_]? = some (.cells #[.int .i64 (vs.getD 2 z)] t' (0, 0)) := by
 match vs, hv with
 | [], _ => exact ⟨h, h2⟩
 | [a], _ => exact ⟨blk_put h 5 _ rfl, blk_far h2 (fun e => hne e.symm) _⟩
 | [a, b], _ => exact ⟨blk_put (blk_put h 5 (.int .i64 a) rfl) 6 _ rfl, blk_far (blk_far h2 (fun e => hne e.symm) _) (fun e => hne e.symm) _⟩
 | [a, b, c], _ => exact ⟨blk_far (blk_put (blk_put h 5 (.int .i64 a) rfl) 6 (.int .i64 b) rfl) hne _, blk_put (blk_far (blk_far h2 (fun e => hne e.symm) _) (fun e => hne e.symm) _) 0 _ rfl⟩
 | a :: b :: c :: d :: r, hv => simp only [List.length_cons] at hv; omega
theorem set_e5 {w : World} {E at_ : Nat} {x0 x1 x2 x3 z : Int} {v4 v5 : Value} {t t' : TypeId} (h : w.heap[E]? = some (.cells #[.int .i64 x0, .int .i64 x1, .int .i64 x2, .int .i64 x3, v4, v5] t (0, 0))) (h2 : w.heap[at_]? = some (.cells #[.int .i64 z] t' (0, 0))) (hne : E ≠ at_) (vs : List Int) (hv : vs.length ≤ 5) :
 (setAll w ([⟨E, 0, none⟩, ⟨E, 1, none⟩, ⟨E, 2, none⟩, ⟨E, 3, none⟩, ⟨at_, 0, none⟩].zip vs)).heap[E]? = some (.cells #[.int .i64 (vs.getD 0 x0), .int .i64 (vs.getD 1 x1), .int .i64 (vs.getD 2 x2), .int .i64 (vs.getD 3 x3), v4, v5] t (0, 0)) ∧
 (setAll w ([⟨E, 0, none⟩, ⟨E, 1, none⟩, ⟨E, 2, none⟩, ⟨E, 3, none⟩, ⟨at_, 0, none⟩].zip vs)).heap[at_]? = some (.cells #[.int .i64 (vs.getD 4 z)] t' (0, 0)) := by
 have hne2 : at_ ≠ E := fun e => hne e.symm
 match vs, hv with
 | [], _ => exact ⟨h, h2⟩
 | [a], _ => exact ⟨blk_put h 0 _ rfl, blk_far h2 hne2 _⟩
 | [a, b], _ => exact ⟨blk_put (blk_put h 0 (.int .i64 a) rfl) 1 _ rfl, blk_far (blk_far h2 hne2 _) hne2 _⟩
 | [a, b, c], _ => exact ⟨blk_put (blk_put (blk_put h 0 (.int .i64 a) rfl) 1 (.int .i64 b) rfl) 2 _ rfl, blk_far (blk_far (blk_far h2 hne2 _) hne2 _) hne2 _⟩
 | [a, b, c, d], _ => exact ⟨blk_put (blk_put (blk_put (blk_put h 0 (.int .i64 a) rfl) 1 (.int .i64 b) rfl) 2 (.int .i64 c) rfl) 3 _ rfl, blk_far (blk_far (blk_far (blk_far h2 hne2 _) hne2 _) hne2 _) hne2 _⟩
 | [a, b, c, d, e], _ => exact ⟨blk_far (blk_put (blk_put (blk_put (blk_put h 0 (.int .i64 a) rfl) 1 (.int .i64 b) rfl) 2 (.int .i64 c) rfl) 3 (.int .i64 d) rfl) hne _, blk_put (blk_far (blk_far (blk_far (blk_far h2 hne2 _) hne2 _) hne2 _) hne2 _) 0 _ rfl⟩
 | a :: b :: c :: d :: e :: f :: r, hv => simp only [List.length_cons] at hv; omega
theorem set_1 {w : World} {at_ : Nat} {z : Int} {t' : TypeId} (h2 : w.heap[at_]? = some (.cells #[.int .i64 z] t' (0, 0))) (vs : List Int) (hv : vs.length ≤ 1) :
 (setAll w ([⟨at_, 0, none⟩].zip vs)).heap[at_]? = some (.cells #[.int .i64 (vs.getD 0 z)] t' (0, 0)) := by
 match vs, hv with
 | [], _ => exact h2
 | [a], _ => exact blk_put h2 0 _ rfl
 | a :: b :: r, hv => simp only [List.length_cons] at hv; omega
/-! what table reads -/
def tableS (K : Nat) (b : List Int) (a : Nat) : S31 × Nat × Bool :=
 let n1 := numsS K b 3 a
 let s1 := textS K b n1.2.1
 let s2 := textS K b s1.2.1
 let n2 := numsS K b 3 s2.2.1
 (⟨n1.1.getD 0 0, n1.1.getD 1 0, n1.1.getD 2 0, s1.1, s2.1, n2.1.getD 0 0, n2.1.getD 1 0, decide (Go.bits .and .i64 (n2.1.getD 2 0) 1 = 1), decide (Go.bits .and .i64 (n2.1.getD 2 0) 2 = 2)⟩, n2.2.1, n1.2.2 && (s1.2.2 && (s2.2.2 && n2.2.2)))
theorem tableS_at {K : Nat} {b : List Int} (ht : tot K b = true) (a : Nat) (h : a ≤ b.length) : (tableS K b a).2.1 ≤ b.length :=
 numsS_at ht 3 _ (textS_at ht _ (textS_at ht _ (numsS_at ht 3 a h)))
structure TableOut (K : Nat) (b : List Int) (A : Option Addr) (c R : Nat) (a0 : Nat) (bad : Bool) (w w' : World) : Prop where
 reader : w'.heap[R]? = some (.cells #[.slice A b.length c, .int .i64 ((tableS K b a0).2.1 : Int), .bool (bad || !(tableS K b a0).2.2)] 83 (0, 0))
 heap : ∀ k, k < w.heap.size → k ≠ R → w'.heap[k]? = w.heap[k]?
 rest : Below 0 w w'
def tval (x : S31) : Value := .agg (tcells x.f0 x.f1 x.f2 x.f3 x.f4 x.f5 x.f6 x.f7 x.f8)
theorem setAll_old {w : World} {n k : Nat} {l : List (Addr × Int)} (h : ∀ q ∈ l, n ≤ q.1.block) (hk : k < n) : (setAll w l).heap[k]? = w.heap[k]? := setAll_far l w (fun q hq e => by have := h q hq; omega)
theorem results_c1 {P : Program} {fn : Func} {p : Tmp} {ty : TypeId} (h : fn.results = #[.cell p ty]) (tmps : Array Value) (w : World) (g : Nat) (t : TypeId) (cs : Array Value) (fr : Nat × Nat) (d : TypeDesc)
 (hp : tmps.getD p undef = .pointer (some ⟨g, 0, none⟩)) (hg : w.heap[g]? = some (.cells cs t fr))
 (hu : P.underlying ty = some d) (hd : (match d with | .struct _ | .array _ _ => true | _ => false) = true) (hi : (P.info? ty).map (·.size) = some cs.size) :
 (results fn tmps).run P w = .ok (.agg cs) w := by
 have hp' : tmps[p]?.getD undef = .pointer (some ⟨g, 0, none⟩) := by simpa using hp
 simp [results, h, hp', asAddr, run_loadVar_row w g t ty cs fr d hg hu hd hi]
set_option maxHeartbeats 4000000 in
set_option maxRecDepth 100000 in
theorem table_x (K : Nat) (R : Nat) (A : Option Addr) (c : Nat) (b : List Int) (a0 : Nat) (bad : Bool) (w : World)
 (hR : w.heap[R]? = some (.cells #[.slice A b.length c, .int .i64 (a0 : Int), .bool bad] 83 (0, 0)))
 (hC : ∀ W', Kept w W' (fun k => k = R) → Kd.C (Kd.int .u8) W' A b.length b) (hc : b.length ≤ c)
 (ht : tot K b = true) (ha : a0 ≤ b.length) :
 Calls Try.prog 52 #[.pointer (some ⟨R, 0, none⟩)] w fun e w' => e = .returned (tval (tableS K b a0).1) ∧ TableOut K b A c R a0 bad w w' := by
 have hu31 := Try.underlying31
 have hRl := blk_lt hR
 obtain ⟨g, hg⟩ : ∃ g, w.heap.size = g := ⟨_, rfl⟩
 have Z1 : (w.alloc (.cells (tcells 0 0 0 ⟨#[]⟩ ⟨#[]⟩ 0 0 false false) 31)).heap.size = g + 1 := by rw [← hg]; exact Array.size_push ..
 obtain ⟨w1, ew1⟩ : ∃ w1, w.alloc (.cells (tcells 0 0 0 ⟨#[]⟩ ⟨#[]⟩ 0 0 false false) 31) = w1 := ⟨_, rfl⟩
 have T0 : w1.heap[g]? = some (.cells (tcells 0 0 0 ⟨#[]⟩ ⟨#[]⟩ 0 0 false false) 31 (0, 0)) := by rw [← ew1, ← hg]; exact blk_new _ _
 have B1 : Below w.heap.size w w1 := by rw [← ew1]; exact below_alloc (Below.refl _ _) _
 rw [ew1] at Z1
 obtain ⟨w2, ew2⟩ : ∃ w2, w1.alloc (.cells (tcells 0 0 0 ⟨#[]⟩ ⟨#[]⟩ 0 0 false false) 31) = w2 := ⟨_, rfl⟩
 have Z2 : w2.heap.size = g + 1 + 1 := by rw [← ew2, ← Z1]; exact Array.size_push ..
 have T1 : w2.heap[g + 1]? = some (.cells (tcells 0 0 0 ⟨#[]⟩ ⟨#[]⟩ 0 0 false false) 31 (0, 0)) := by rw [← ew2, ← Z1]; exact blk_new _ _
 have T0' : w2.heap[g]? = some (.cells (tcells 0 0 0 ⟨#[]⟩ ⟨#[]⟩ 0 0 false false) 31 (0, 0)) := by rw [← ew2]; exact blk_alloc T0 _
 have B2 : Below w.heap.size w w2 := by rw [← ew2]; exact B1.alloc (by omega) _
 obtain ⟨w3, ew3⟩ : ∃ w3, w2.alloc (.cells #[.int .i64 0] 3) = w3 := ⟨_, rfl⟩
 have Z3 : w3.heap.size = g + 1 + 1 + 1 := by rw [← ew3, ← Z2]; exact Array.size_push ..
 have A3 : w3.heap[g + 1 + 1]? = some (.cells #[.int .i64 0] 3 (0, 0)) := by rw [← ew3, ← Z2]; exact blk_new _ _
 have T3 : w3.heap[g + 1]? = some (.cells (tcells 0 0 0 ⟨#[]⟩ ⟨#[]⟩ 0 0 false false) 31 (0, 0)) := by rw [← ew3]; exact blk_alloc T1 _
 have O3 : w3.heap[g]? = some (.cells (tcells 0 0 0 ⟨#[]⟩ ⟨#[]⟩ 0 0 false false) 31 (0, 0)) := by rw [← ew3]; exact blk_alloc T0' _
 have B3 : Below w.heap.size w w3 := by rw [← ew3]; exact B2.alloc (by omega) _
 have R3 : w3.heap[R]? = some (.cells #[.slice A b.length c, .int .i64 (a0 : Int), .bool bad] 83 (0, 0)) := (B3.block R hRl).trans hR
 have P1 := nums_lit K R [⟨g + 1, 0, none⟩, ⟨g + 1, 1, none⟩, ⟨g + 1, 2, none⟩] A c b a0 bad w3 R3 (by
  intro p hp
  simp only [List.mem_cons, List.not_mem_nil, or_false] at hp
  rcases hp with rfl | rfl | rfl
  · exact ⟨by dsimp only; omega, int_blk T3 rfl⟩
  · exact ⟨by dsimp only; omega, int_blk T3 rfl⟩
  · exact ⟨by dsimp only; omega, int_blk T3 rfl⟩)
  (fun W' hW => hC W' (Kept.then_ (Kept.of_below B3 _) hW (fun k hk => by
   rcases hk with e | ⟨p, hp, e⟩
   · exact Or.inl e
   ·
    simp only [List.mem_cons, List.not_mem_nil, or_false] at hp
    rcases hp with rfl | rfl | rfl <;> (dsimp only at e; exact Or.inr (by omega))))) hc ht ha (by simp only [List.length_cons, List.length_nil]; omega)
 simp only [List.map_cons, List.map_nil, List.length_cons, List.length_nil, Nat.zero_add, Nat.reduceAdd] at P1
 have QP1 := Aside0.mk P1
 have QC := Aside0.mk hC
 have QB := Aside0.mk B3
 have QT := Aside0.mk T3
 have QO := Aside0.mk O3
 have QA := Aside0.mk A3
 have QR := Aside0.mk hRl
 have Qt := Aside0.mk ht
 have Qa := Aside0.mk ha
 have QZ := Aside0.mk Z3
 have QZ1 := Aside0.mk Z1
 have QZ2 := Aside0.mk Z2
 clear P1 hC B3 T3 O3 A3 R3 ht ha hR B1 B2 T0 T1 T0' hRl Z3 Z1 Z2
 unfold tcells at ew1 ew2
 go_enter Try.func52, Try.ntmps52
 go_wp2_with (first
  | (go_at_call 51; (try simp only [QZ1.out, QZ2.out]); with_reducible refine QP1.out.mono ?_; rintro e x1 ⟨rfl, N1⟩))
 clear QP1
 obtain ⟨n1, en1⟩ : ∃ n1, numsS K b 3 a0 = n1 := ⟨_, rfl⟩
 have hl1 : n1.1.length ≤ 3 := by rw [← en1]; exact numsS_len K b 3 a0
 have ha1 : n1.2.1 ≤ b.length := by rw [← en1]; exact numsS_at Qt.out 3 a0 Qa.out
 have R1 : x1.heap[R]? = some (.cells #[.slice A b.length c, .int .i64 (n1.2.1 : Int), .bool (bad || !n1.2.2)] 83 (0, 0)) := by rw [← en1]; exact N1.reader
 have G1 : ∀ k, k < w3.heap.size → k ≠ R → x1.heap[k]? = (setAll w3 ([⟨g + 1, 0, none⟩, ⟨g + 1, 1, none⟩, ⟨g + 1, 2, none⟩].zip n1.1)).heap[k]? := by rw [← en1]; exact N1.heap
 have hsz3 := QZ.out
 have hRw := QR.out
 have S1 : w3.heap.size ≤ x1.heap.size := N1.rest.size
 have B1 : Below 0 w x1 := (Below.lower0 QB.out (Nat.zero_le _)).trans N1.rest
 have T1 : x1.heap[g + 1]? = some (.cells (tcells (n1.1.getD 0 0) (n1.1.getD 1 0) (n1.1.getD 2 0) ⟨#[]⟩ ⟨#[]⟩ 0 0 false false) 31 (0, 0)) := (G1 (g + 1) (by omega) (by omega)).trans (set_t3 QT.out n1.1 hl1)
 have A1 : x1.heap[g + 1 + 1]? = some (.cells #[.int .i64 0] 3 (0, 0)) := (G1 (g + 1 + 1) (by omega) (by omega)).trans ((setAll_far _ _ (fun q hq e => by have := zip_mem q hq; simp only [List.mem_cons, List.not_mem_nil, or_false] at this; rcases this with h | h | h <;> (rw [h] at e; dsimp only at e; omega))).trans QA.out)
 have O1 : x1.heap[g]? = some (.cells (tcells 0 0 0 ⟨#[]⟩ ⟨#[]⟩ 0 0 false false) 31 (0, 0)) := (G1 g (by omega) (by omega)).trans ((setAll_old (n := g + 1) (fun q hq => by have := zip_mem q hq; simp only [List.mem_cons, List.not_mem_nil, or_false] at this; rcases this with h | h | h <;> (rw [h]; exact Nat.le_refl _)) (by omega)).trans QO.out)
 have K1 : Kept w x1 (fun k => k = R) := ⟨B1.size, fun k hk hn => (G1 k (by omega) hn).trans ((setAll_old (n := g + 1) (fun q hq => by have := zip_mem q hq; simp only [List.mem_cons, List.not_mem_nil, or_false] at this; rcases this with h | h | h <;> (rw [h]; exact Nat.le_refl _)) (by omega)).trans (QB.out.block k hk))⟩
 have X1 := text_x K R A c b n1.2.1 (bad || !n1.2.2) x1 R1 (QC.out _ K1) hc Qt.out ha1
 have QX1 := Aside0.mk X1
 have QT1 := Aside0.mk T1
 have QA1 := Aside0.mk A1
 have QO1 := Aside0.mk O1
 have QK1 := Aside0.mk K1
 have QB1 := Aside0.mk B1
 have QS1 := Aside0.mk S1
 have Qa1 := Aside0.mk ha1
 have Qn1 := Aside0.mk en1
 clear X1 T1 A1 O1 K1 B1 S1 ha1 en1 hl1 R1 G1 hsz3 hRw N1 QA QO QT Qa QZ QZ1 QZ2 ew1 ew2 ew3 QB
 clear w1 w2 
 go_wp2_with (first
  | (go_at_call 90; with_reducible refine QX1.out.mono ?_; rintro e x2 ⟨rfl, M1⟩; clear QX1))
 have S2 : x1.heap.size ≤ x2.heap.size := M1.rest.size
 have hs1 := QS1.out
 have ha2 : (textS K b n1.2.1).2.1 ≤ b.length := textS_at Qt.out _ Qa1.out
 obtain ⟨s1, es1⟩ : ∃ s1, textS K b n1.2.1 = s1 := ⟨_, rfl⟩
 have R2 : x2.heap[R]? = some (.cells #[.slice A b.length c, .int .i64 (s1.2.1 : Int), .bool ((bad || !n1.2.2) || !s1.2.2)] 83 (0, 0)) := by rw [← es1]; exact M1.reader
 rw [es1] at ha2
 have K2 : Kept w x2 (fun k => k = R) := ⟨Nat.le_trans QB1.out.size S2, fun k hk hn => (M1.heap k (Nat.lt_of_lt_of_le hk QB1.out.size) hn).trans (QK1.out.2 k hk hn)⟩
 have X2 := text_x K R A c b s1.2.1 ((bad || !n1.2.2) || !s1.2.2) x2 R2 (QC.out _ K2) hc Qt.out ha2
 have QX2 := Aside0.mk X2
 clear X2
 simp only [es1]
 go_wp2_with (first
  | (
   go_at_call 90
   with_reducible refine QX2.out.mono ?_
   rintro e x3 ⟨rfl, M2⟩
   clear QX2
   have S3 : x2.heap.size ≤ x3.heap.size := M2.rest.size
   have ha3 : (textS K b s1.2.1).2.1 ≤ b.length := textS_at Qt.out _ ha2
   obtain ⟨s2, es2⟩ : ∃ s2, textS K b s1.2.1 = s2 := ⟨_, rfl⟩
   rw [es2] at ha3
   have hRw := QR.out
   have R3 : x3.heap[R]? = some (.cells #[.slice A b.length c, .int .i64 (s2.2.1 : Int), .bool (((bad || !n1.2.2) || !s1.2.2) || !s2.2.2)] 83 (0, 0)) := by rw [← es2]; exact M2.reader
   have K3 : Kept w x3 (fun k => k = R) := ⟨Nat.le_trans K2.1 S3, fun k hk hn => (M2.heap k (Nat.lt_of_lt_of_le hk K2.1) hn).trans (K2.2 k hk hn)⟩
   have ht1 := blk_lt QT1.out
   have hA1 := blk_lt QA1.out
   have T3 : x3.heap[g + 1]? = some (.cells (tcells (n1.1.getD 0 0) (n1.1.getD 1 0) (n1.1.getD 2 0) ⟨#[]⟩ ⟨#[]⟩ 0 0 false false) 31 (0, 0)) := (M2.heap _ (by omega) (by omega)).trans ((M1.heap _ (by omega) (by omega)).trans QT1.out)
   have A3 : x3.heap[g + 1 + 1]? = some (.cells #[.int .i64 0] 3 (0, 0)) := (M2.heap _ (by omega) (by omega)).trans ((M1.heap _ (by omega) (by omega)).trans QA1.out)
   have O3 : x3.heap[g]? = some (.cells (tcells 0 0 0 ⟨#[]⟩ ⟨#[]⟩ 0 0 false false) 31 (0, 0)) := (M2.heap _ (by omega) (by omega)).trans ((M1.heap _ (by omega) (by omega)).trans QO1.out)
   have B3 : Below 0 w x3 := (QB1.out.trans M1.rest).trans M2.rest
   obtain ⟨_, _, _, t3, t4, _, _, t7, t8⟩ := cells9 T3
   have f3 := blk_frozen T3 3
   have T4 := blk_put T3 3 (.string s1.1) rfl
   obtain ⟨_, _, _, _, t4', _, _, _, _⟩ := cells9 T4
   have f4 := blk_frozen T4 4
   simp only [es2]
   have QT3 := Aside0.mk T3
   have QA3 := Aside0.mk A3
   have QO3 := Aside0.mk O3
   have QK3 := Aside0.mk K3
   have QB3 := Aside0.mk B3
   have QS3 := Aside0.mk (show g + 1 + 1 + 1 ≤ x3.heap.size by omega)
   have Qa3 := Aside0.mk ha3
   have QR3 := Aside0.mk R3
   have Qe1 := Aside0.mk es1
   have Qe2 := Aside0.mk es2
   clear T3 A3 O3 K3 B3 S3 ha3 R3 es1 es2 T4 K2 R2 M1 M2 QT1 QA1 QO1 QK1 QB1 QS1 hs1 ha2 S2 hRw ht1 hA1))
 have hsz := QS3.out
 have hRw := QR.out
 obtain ⟨w4, ew4⟩ : ∃ w4, (x3.setCell ⟨g + 1, 3, none⟩ (.string s1.1)).setCell ⟨g + 1, 4, none⟩ (.string s2.1) = w4 := ⟨_, rfl⟩
 have Z4 : w4.heap.size = x3.heap.size := by rw [← ew4]; simp [World.setCell]
 have T4 : w4.heap[g + 1]? = some (.cells (tcells (n1.1.getD 0 0) (n1.1.getD 1 0) (n1.1.getD 2 0) s1.1 s2.1 0 0 false false) 31 (0, 0)) := by rw [← ew4]; exact blk_put (blk_put QT3.out 3 (.string s1.1) rfl) 4 _ rfl
 have A4 : w4.heap[g + 1 + 1]? = some (.cells #[.int .i64 0] 3 (0, 0)) := by rw [← ew4]; exact blk_far (blk_far QA3.out (fun e => by dsimp only at e; omega) _) (fun e => by dsimp only at e; omega) _
 have O4 : w4.heap[g]? = some (.cells (tcells 0 0 0 ⟨#[]⟩ ⟨#[]⟩ 0 0 false false) 31 (0, 0)) := by rw [← ew4]; exact blk_far (blk_far QO3.out (fun e => by dsimp only at e; omega) _) (fun e => by dsimp only at e; omega) _
 have R4 : w4.heap[R]? = some (.cells #[.slice A b.length c, .int .i64 (s2.2.1 : Int), .bool (((bad || !n1.2.2) || !s1.2.2) || !s2.2.2)] 83 (0, 0)) := by rw [← ew4]; exact blk_far (blk_far QR3.out (fun e => by dsimp only at e; omega) _) (fun e => by dsimp only at e; omega) _
 have K4 : Kept w w4 (fun k => k = R) := by rw [← ew4]; exact Kept.setCell (Kept.setCell QK3.out (Or.inr (by dsimp only; omega)) _) (Or.inr (by dsimp only; omega)) _
 have B4 : Below 0 w w4 := by rw [← ew4]; exact Below.setCell (Below.setCell QB3.out (Nat.zero_le _) _) (Nat.zero_le _) _
 have P2 := nums_lit K R [⟨g + 1, 5, none⟩, ⟨g + 1, 6, none⟩, ⟨g + 1 + 1, 0, none⟩] A c b s2.2.1 (((bad || !n1.2.2) || !s1.2.2) || !s2.2.2) w4 R4 (by
  intro p hp
  simp only [List.mem_cons, List.not_mem_nil, or_false] at hp
  rcases hp with rfl | rfl | rfl
  · exact ⟨by dsimp only; omega, int_blk T4 rfl⟩
  · exact ⟨by dsimp only; omega, int_blk T4 rfl⟩
  · exact ⟨by dsimp only; omega, int_blk A4 rfl⟩)
  (fun W' hW => QC.out W' (Kept.then_ K4 hW (fun k hk => by
   rcases hk with e | ⟨p, hp, e⟩
   · exact Or.inl e
   ·
    simp only [List.mem_cons, List.not_mem_nil, or_false] at hp
    rcases hp with rfl | rfl | rfl <;> (dsimp only at e; exact Or.inr (by omega))))) hc Qt.out Qa3.out (by simp only [List.length_cons, List.length_nil]; omega)
 simp only [List.map_cons, List.map_nil, List.length_cons, List.length_nil, Nat.zero_add, Nat.reduceAdd, Z4] at P2
 rw [ew4]
 have QP2 := Aside0.mk P2
 have QT4 := Aside0.mk T4
 have QA4 := Aside0.mk A4
 have QO4 := Aside0.mk O4
 have QK4 := Aside0.mk K4
 have QB4 := Aside0.mk B4
 have QZ4 := Aside0.mk Z4
 clear P2 T4 A4 O4 R4 K4 B4 Z4 ew4 QT3 QA3 QO3 QR3 QK3 QB3 t3 t4 t7 t8 f3 f4 t4' hsz hRw
 go_wp2_with (first
  | (
   go_at_call 51
   with_reducible refine QP2.out.mono ?_
   rintro e x4 ⟨rfl, N2⟩
   clear QP2
   have hsz := QS3.out
   have hz4 := QZ4.out
   have hRw := QR.out
   have ha4 := numsS_at Qt.out 3 s2.2.1 Qa3.out
   obtain ⟨n2, en2⟩ : ∃ n2, numsS K b 3 s2.2.1 = n2 := ⟨_, rfl⟩
   have hl2 : n2.1.length ≤ 3 := by rw [← en2]; exact numsS_len K b 3 s2.2.1
   have R5 : x4.heap[R]? = some (.cells #[.slice A b.length c, .int .i64 (n2.2.1 : Int), .bool ((((bad || !n1.2.2) || !s1.2.2) || !s2.2.2) || !n2.2.2)] 83 (0, 0)) := by rw [← en2]; exact N2.reader
   have G2 : ∀ k, k < w4.heap.size → k ≠ R → x4.heap[k]? = (setAll w4 ([⟨g + 1, 5, none⟩, ⟨g + 1, 6, none⟩, ⟨g + 1 + 1, 0, none⟩].zip n2.1)).heap[k]? := by rw [← en2]; exact N2.heap
   have T5 := (G2 (g + 1) (by omega) (by omega)).trans (set_t2 QT4.out QA4.out (by omega) n2.1 hl2).1
   have A5 := (G2 (g + 1 + 1) (by omega) (by omega)).trans (set_t2 QT4.out QA4.out (by omega) n2.1 hl2).2
   have F2 : ∀ k, k < g + 1 → k ≠ R → x4.heap[k]? = w4.heap[k]? := fun k hk hn => (G2 k (by omega) hn).trans (setAll_old (n := g + 1) (fun q hq => by have := zip_mem q hq; simp only [List.mem_cons, List.not_mem_nil, or_false] at this; rcases this with h | h | h <;> (rw [h]; dsimp only; omega)) hk)
   have O5 := (F2 g (by omega) (by omega)).trans QO4.out
   have K5 : Kept w x4 (fun k => k = R) := ⟨Nat.le_trans QK4.out.1 N2.rest.size, fun k hk hn => (F2 k (by omega) hn).trans (QK4.out.2 k hk hn)⟩
   have B5 : Below 0 w x4 := QB4.out.trans N2.rest
   obtain ⟨y0, ey0⟩ : ∃ y, n1.1.getD 0 0 = y := ⟨_, rfl⟩
   obtain ⟨y1, ey1⟩ : ∃ y, n1.1.getD 1 0 = y := ⟨_, rfl⟩
   obtain ⟨y2, ey2⟩ : ∃ y, n1.1.getD 2 0 = y := ⟨_, rfl⟩
   obtain ⟨y5, ey5⟩ : ∃ y, n2.1.getD 0 0 = y := ⟨_, rfl⟩
   obtain ⟨y6, ey6⟩ : ∃ y, n2.1.getD 1 0 = y := ⟨_, rfl⟩
   obtain ⟨z, ez⟩ : ∃ y, n2.1.getD 2 0 = y := ⟨_, rfl⟩
   rw [ey0, ey1, ey2, ey5, ey6] at T5
   rw [ez] at A5
   have a5 : x4.cell? ⟨g + 1 + 1, 0, none⟩ = some (.int .i64 z) := (blk_cell A5 0).trans rfl
   obtain ⟨_, _, _, _, _, _, _, t7, _⟩ := cells9 T5
   have f7 := blk_frozen T5 7
   have T6 := blk_put T5 7 (.bool (Go.bits .and .i64 z 1 == 1)) rfl
   obtain ⟨_, _, _, _, _, _, _, _, t8⟩ := cells9 T6
   have f8 := blk_frozen T6 8
   have T7 := blk_put T6 8 (.bool (Go.bits .and .i64 z 2 == 2)) rfl
   obtain ⟨u0, u1, u2, u3, u4, u5, u6, u7, u8⟩ := cells9 T7
   have O7 := blk_far (blk_far O5 (p := ⟨g + 1, 7, none⟩) (by dsimp only; omega) (.bool (Go.bits .and .i64 z 1 == 1))) (p := ⟨g + 1, 8, none⟩) (by dsimp only; omega) (.bool (Go.bits .and .i64 z 2 == 2))
   obtain ⟨o0, o1, o2, o3, o4, o5, o6, o7, o8⟩ := cells9 O7
   have fo0 := blk_frozen O7 0
   have fo1 := blk_frozen O7 1
   have fo2 := blk_frozen O7 2
   have fo3 := blk_frozen O7 3
   have fo4 := blk_frozen O7 4
   have fo5 := blk_frozen O7 5
   have fo6 := blk_frozen O7 6
   have fo7 := blk_frozen O7 7
   have fo8 := blk_frozen O7 8
   have QO7 := Aside0.mk O7
   have Qy := Aside0.mk (And.intro ey0 (And.intro ey1 (And.intro ey2 (And.intro ey5 (And.intro ey6 ez)))))
   have QT5 := Aside0.mk T5
   have QO5 := Aside0.mk O5
   have QK5 := Aside0.mk K5
   have QB5 := Aside0.mk B5
   have QR5 := Aside0.mk R5
   have QS5 := Aside0.mk (show g + 1 + 1 < x4.heap.size by have := N2.rest.size; omega)
   have Qe3 := Aside0.mk en2
   clear ey0 ey1 ey2 ey5 ey6 ez T6 T7 O7 T5 A5 O5 K5 B5 R5 G2 F2 N2 en2 hl2 hRw hsz hz4 ha4 QT4 QA4 QO4 QK4 QB4 QZ4 QS3))
 have hsz := QS5.out
 have hRw := QR.out
 refine bodyPost_ret (results_c1 rfl _ _ g 31 (tcells y0 y1 y2 s1.1 s2.1 y5 y6 (Go.bits .and .i64 z 1 == 1) (Go.bits .and .i64 z 2 == 2)) (0, 0) _ rfl (by
  refine blk_put (cs := tcells y0 y1 y2 s1.1 s2.1 y5 y6 (Go.bits .and .i64 z 1 == 1) false) ?_ 8 _ rfl
  refine blk_put (cs := tcells y0 y1 y2 s1.1 s2.1 y5 y6 false false) ?_ 7 _ rfl
  refine blk_put (cs := tcells y0 y1 y2 s1.1 s2.1 y5 0 false false) ?_ 6 _ rfl
  refine blk_put (cs := tcells y0 y1 y2 s1.1 s2.1 0 0 false false) ?_ 5 _ rfl
  refine blk_put (cs := tcells y0 y1 y2 s1.1 ⟨#[]⟩ 0 0 false false) ?_ 4 _ rfl
  refine blk_put (cs := tcells y0 y1 y2 ⟨#[]⟩ ⟨#[]⟩ 0 0 false false) ?_ 3 _ rfl
  refine blk_put (cs := tcells y0 y1 0 ⟨#[]⟩ ⟨#[]⟩ 0 0 false false) ?_ 2 _ rfl
  refine blk_put (cs := tcells y0 0 0 ⟨#[]⟩ ⟨#[]⟩ 0 0 false false) ?_ 1 _ rfl
  refine blk_put (cs := tcells 0 0 0 ⟨#[]⟩ ⟨#[]⟩ 0 0 false false) ?_ 0 _ rfl
  exact QO7.out) Try.underlying31 rfl (by kernel_rfl)) rfl ?_
 obtain ⟨ey0, ey1, ey2, ey5, ey6, ez⟩ := Qy.out
 have eT : tableS K b a0 = (⟨y0, y1, y2, s1.1, s2.1, y5, y6, decide (Go.bits .and .i64 z 1 = 1), decide (Go.bits .and .i64 z 2 = 2)⟩, n2.2.1, n1.2.2 && (s1.2.2 && (s2.2.2 && n2.2.2))) := by
  unfold tableS
  dsimp only
  rw [Qn1.out, Qe1.out, Qe2.out, Qe3.out, ey0, ey1, ey2, ey5, ey6, ez]
 refine ⟨?_, ⟨?_, ?_, ?_⟩⟩
 · rw [eT]; rfl
 ·
  rw [eT]
  have e : ((((bad || !n1.2.2) || !s1.2.2) || !s2.2.2) || !n2.2.2) = (bad || !(n1.2.2 && (s1.2.2 && (s2.2.2 && n2.2.2)))) := by
   cases bad <;> cases n1.2.2 <;> cases s1.2.2 <;> cases s2.2.2 <;> cases n2.2.2 <;> rfl
  rw [← e]
  repeat (refine blk_far ?_ (by dsimp only; omega) _)
  exact QR5.out
 ·
  intro k hk hn
  repeat (refine (Below.heap_setCell _ _ _ k (by dsimp only; omega)).trans ?_)
  exact QK5.out.2 k hk hn
 ·
  repeat (refine Below.setCell ?_ (Nat.zero_le _) _)
  exact QB5.out
/-! what edit.Get comes to -/
theorem okN_some {l : Nat} {r : Option (Int × Int × Bool)} (h : okN l r = true) : ∃ x, r = some x := by
 cases r with
 | none => cases h
 | some x => exact ⟨x, rfl⟩
theorem okT_some {l : Nat} {r : Option (ByteArray × Int × Bool)} (h : okT l r = true) : ∃ x, r = some x := by
 cases r with
 | none => cases h
 | some x => exact ⟨x, rfl⟩
theorem up_N {k : Nat} {b : List Int} (h : tot k b = true) {a : Nat} (ha : a ≤ b.length) : num_Get.f (k + 1) b (a : Int) = num_Get.f k b (a : Int) := by
 obtain ⟨x, hx⟩ := okN_some (tot_1 h ha).1
 rw [hx]; exact num_Get.mono _ _ _ _ hx
theorem up_T {k : Nat} {b : List Int} (h : tot k b = true) {a : Nat} (ha : a ≤ b.length) : num_GetText.f (k + 1) b (a : Int) = num_GetText.f k b (a : Int) := by
 obtain ⟨x, hx⟩ := okT_some (tot_1 h ha).2
 rw [hx]; exact num_GetText.mono _ _ _ _ hx
theorem tot_up {k : Nat} {b : List Int} (h : tot k b = true) : tot (k + 1) b = true := by
 unfold tot
 rw [List.all_eq_true]
 intro a ha
 have ha2 : a ≤ b.length := by have := List.mem_range.1 ha; omega
 rw [up_N h ha2, up_T h ha2, (tot_1 h ha2).1, (tot_1 h ha2).2]; rfl
theorem numsS_zero (K : Nat) (b : List Int) (a : Nat) : numsS K b 0 a = ([], a, true) := by rw [numsS]
theorem gN_up {k : Nat} {b : List Int} (h : tot k b = true) {a : Nat} (ha : a ≤ b.length) : gN (k + 1) b a = gN k b a := congrArg resN (up_N h ha)
theorem gT_up {k : Nat} {b : List Int} (h : tot k b = true) {a : Nat} (ha : a ≤ b.length) : gT (k + 1) b a = gT k b a := congrArg resT (up_T h ha)
theorem numsS_up {k K : Nat} (hK : k + 1 = K) {b : List Int} (h : tot k b = true) : ∀ m a, a ≤ b.length → numsS K b m a = numsS k b m a
 | 0, a, _ => (numsS_zero _ _ _).trans (numsS_zero _ _ _).symm
 | m + 1, a, ha => by
  have e : gN K b a = gN k b a := by rw [← hK]; exact gN_up h ha
  rcases tot_N h ha with ⟨n, nx, _, h2, h3⟩ | ⟨_, _, _, h2⟩
  · rw [numsS_some m h2, numsS_some m (e.trans h2), numsS_up hK h m nx h3]
  · rw [numsS_none m h2, numsS_none m (e.trans h2)]
theorem textS_up {k K : Nat} (hK : k + 1 = K) {b : List Int} (h : tot k b = true) (a : Nat) (ha : a ≤ b.length) : textS K b a = textS k b a := by
 have e : gT K b a = gT k b a := by rw [← hK]; exact gT_up h ha
 unfold textS; rw [e]
theorem tableS_up {k K : Nat} (hK : k + 1 = K) {b : List Int} (h : tot k b = true) (a : Nat) (ha : a ≤ b.length) : tableS K b a = tableS k b a := by
 have h1 := numsS_at h 3 a ha
 have h2 := textS_at h _ h1
 have h3 := textS_at h _ h2
 unfold tableS
 dsimp only
 rw [numsS_up hK h 3 a ha, textS_up hK h _ h1, textS_up hK h _ h2, numsS_up hK h 3 _ h3]
def tabsC (t : S31 × Nat × Bool) (f : Nat → Bool → List S31 × Nat × Bool) : List S31 × Nat × Bool := (t.1 :: (f t.2.1 (!t.2.2)).1, (f t.2.1 (!t.2.2)).2)
def tabsS (K : Nat) (b : List Int) : Nat → Nat → Bool → List S31 × Nat × Bool
 | 0, a, bad => ([], a, bad)
 | m + 1, a, bad => if bad = true then ([], a, true) else tabsC (tableS K b a) (tabsS K b m)
theorem tabsS_zero (K : Nat) (b : List Int) (a : Nat) (bad : Bool) : tabsS K b 0 a bad = ([], a, bad) := by rw [tabsS]
theorem tabsS_bad (K : Nat) (b : List Int) : ∀ m a, tabsS K b m a true = ([], a, true)
 | 0, a => rfl
 | m + 1, a => by rw [tabsS, if_pos rfl]
theorem tabsS_one (K : Nat) (b : List Int) (m a : Nat) : tabsS K b (m + 1) a false = ((tableS K b a).1 :: (tabsS K b m (tableS K b a).2.1 (!(tableS K b a).2.2)).1, (tabsS K b m (tableS K b a).2.1 (!(tableS K b a).2.2)).2) := by
 rw [tabsS, if_neg Bool.false_ne_true]; rfl
theorem tabsS_at {K : Nat} {b : List Int} (ht : tot K b = true) : ∀ m a bad, a ≤ b.length → (tabsS K b m a bad).2.1 ≤ b.length
 | 0, a, _, h => h
 | m + 1, a, true, h => by rw [tabsS_bad]; exact h
 | m + 1, a, false, h => by rw [tabsS_one]; exact tabsS_at ht m _ _ (tableS_at ht a h)
theorem tabsS_up {k K : Nat} (hK : k + 1 = K) {b : List Int} (h : tot k b = true) : ∀ m a bad, a ≤ b.length → tabsS K b m a bad = tabsS k b m a bad
 | 0, a, _, _ => (tabsS_zero _ _ _ _).trans (tabsS_zero _ _ _ _).symm
 | m + 1, a, true, _ => by rw [tabsS_bad, tabsS_bad]
 | m + 1, a, false, ha => by rw [tabsS_one, tabsS_one, tableS_up hK h a ha, tabsS_up hK h m _ _ (tableS_at h a ha)]
def dropsC (t : List Int × Nat × Bool) (f : Nat → Bool → List Int × Nat × Bool) : List Int × Nat × Bool := (t.1.getD 0 0 :: (f t.2.1 (!t.2.2)).1, (f t.2.1 (!t.2.2)).2)
def dropsS (K : Nat) (b : List Int) : Nat → Nat → Bool → List Int × Nat × Bool
 | 0, a, bad => ([], a, bad)
 | m + 1, a, bad => if bad = true then ([], a, true) else dropsC (numsS K b 1 a) (dropsS K b m)
theorem dropsS_zero (K : Nat) (b : List Int) (a : Nat) (bad : Bool) : dropsS K b 0 a bad = ([], a, bad) := by rw [dropsS]
theorem dropsS_bad (K : Nat) (b : List Int) : ∀ m a, dropsS K b m a true = ([], a, true)
 | 0, a => rfl
 | m + 1, a => by rw [dropsS, if_pos rfl]
theorem dropsS_one (K : Nat) (b : List Int) (m a : Nat) : dropsS K b (m + 1) a false = ((numsS K b 1 a).1.getD 0 0 :: (dropsS K b m (numsS K b 1 a).2.1 (!(numsS K b 1 a).2.2)).1, (dropsS K b m (numsS K b 1 a).2.1 (!(numsS K b 1 a).2.2)).2) := by
 rw [dropsS, if_neg Bool.false_ne_true]; rfl
theorem dropsS_at {K : Nat} {b : List Int} (ht : tot K b = true) : ∀ m a bad, a ≤ b.length → (dropsS K b m a bad).2.1 ≤ b.length
 | 0, a, _, h => h
 | m + 1, a, true, h => by rw [dropsS_bad]; exact h
 | m + 1, a, false, h => by rw [dropsS_one]; exact dropsS_at ht m _ _ (numsS_at ht 1 a h)
theorem dropsS_up {k K : Nat} (hK : k + 1 = K) {b : List Int} (h : tot k b = true) : ∀ m a bad, a ≤ b.length → dropsS K b m a bad = dropsS k b m a bad
 | 0, a, _, _ => (dropsS_zero _ _ _ _).trans (dropsS_zero _ _ _ _).symm
 | m + 1, a, true, _ => by rw [dropsS_bad, dropsS_bad]
 | m + 1, a, false, ha => by rw [dropsS_one, dropsS_one, numsS_up hK h 1 a ha, dropsS_up hK h m _ _ (numsS_at h 1 a ha)]
structure GS where
 h : List Int
 ts : List S31
 ds : List Int
 at_ : Nat
 bad : Bool
def capN (n : Int) : Nat := min n.toNat 256
def getS (K : Nat) (b : List Int) : GS :=
 let h := numsS K b 5 0
 let t := tabsS K b (capN (h.1.getD 4 0)) h.2.1 (!h.2.2)
 let n := numsS K b 1 t.2.1
 let d := dropsS K b (capN (n.1.getD 0 0)) n.2.1 (t.2.2 || !n.2.2)
 ⟨h.1, t.1, d.1, d.2.1, d.2.2⟩
theorem getS_up {k K : Nat} (hK : k + 1 = K) {b : List Int} (h : tot k b = true) : getS K b = getS k b := by
 have h1 := numsS_at h 5 0 (Nat.zero_le _)
 have h2 := tabsS_at h (capN ((numsS k b 5 0).1.getD 4 0)) _ (!(numsS k b 5 0).2.2) h1
 have h3 := numsS_at h 1 _ h2
 unfold getS
 simp only [numsS_up hK h 5 0 (Nat.zero_le _), tabsS_up hK h _ _ _ h1, numsS_up hK h 1 _ h2, dropsS_up hK h _ _ _ h3]
def edit_Get.f (k : Nat) (l0 : List Int) : Option (Int × Int × Int × Int × (List (S31)) × (List Int) × Bool) :=
 if tot k l0 = true then
  if (getS k l0).bad = true then some (0, 0, 0, 0, ([] : List S31), ([] : List Int), false)
  else if l0.length = 0 then some (0, 0, 0, 0, ([] : List S31), ([] : List Int), false)
  else (edit_Put.f k ((getS k l0).h.getD 0 0) ((getS k l0).h.getD 1 0) ((getS k l0).h.getD 2 0) ((getS k l0).h.getD 3 0) (getS k l0).ts (getS k l0).ds).bind fun p => (slices_Equal_byte_byte.f k p l0).bind fun t => if t = true then some ((getS k l0).h.getD 0 0, (getS k l0).h.getD 1 0, (getS k l0).h.getD 2 0, (getS k l0).h.getD 3 0, (getS k l0).ts, (getS k l0).ds, true) else some (0, 0, 0, 0, ([] : List S31), ([] : List Int), false)
 else none
theorem edit_Get.mono : ∀ a0 k, LeO (edit_Get.f k a0) (edit_Get.f (k + 1) a0) := by
 intro b k
 obtain ⟨K, hK⟩ : ∃ K, k + 1 = K := ⟨_, rfl⟩
 rw [hK]
 unfold edit_Get.f
 have e1 : ∀ a0 a1 a2 a3 a4 a5, LeO (edit_Put.f k a0 a1 a2 a3 a4 a5) (edit_Put.f K a0 a1 a2 a3 a4 a5) := by rw [← hK]; intro a0 a1 a2 a3 a4 a5; exact edit_Put.mono _ _ _ _ _ _ _
 have e2 : ∀ a0 a1, LeO (slices_Equal_byte_byte.f k a0 a1) (slices_Equal_byte_byte.f K a0 a1) := by rw [← hK]; intro a0 a1; exact slices_Equal_byte_byte.mono _ _ _
 by_cases h : tot k b = true
 ·
  have h2 : tot K b = true := by rw [← hK]; exact tot_up h
  rw [if_pos h, if_pos h2, getS_up hK h]
  exact LeO.ite (LeO.refl _) (LeO.ite (LeO.refl _) (LeO.bind (e1 _ _ _ _ _ _) fun _ => LeO.bind (e2 _ _) fun _ => LeO.refl _))
 · rw [if_neg h]; exact LeO.none _
def ecells (x0 x1 x2 x3 : Int) (v4 v5 : Value) : Array Value := #[.int .i64 x0, .int .i64 x1, .int .i64 x2, .int .i64 x3, v4, v5]
theorem mem5 {E n : Nat} {q : Addr} (h : q ∈ [(⟨E, 0, none⟩ : Addr), ⟨E, 1, none⟩, ⟨E, 2, none⟩, ⟨E, 3, none⟩, ⟨n, 0, none⟩]) : q.block = E ∨ q.block = n := by
 simp only [List.mem_cons, List.not_mem_nil, or_false] at h
 rcases h with rfl | rfl | rfl | rfl | rfl
 · exact Or.inl rfl
 · exact Or.inl rfl
 · exact Or.inl rfl
 · exact Or.inl rfl
 · exact Or.inr rfl
theorem C_u8_came {w : World} {A : Option Addr} {n : Nat} {l : List Int} (h : Kd.C (Kd.int .u8) w A n l) : ∀ W', Kept w W' (fun k => w.heap.size ≤ k) → Kd.C (Kd.int .u8) W' A n l :=
 Kd.C_kept_came (Kd.heap_int .u8) h (Below.refl _ _) (fun _ hk => hk)
/-- What Get's loops keep. -/
structure GL (A : Option Addr) (c m g : Nat) (w : World) (x0 x1 x2 x3 n : Int) (a : Nat) (bad : Bool) (v4 v5 : Value) (ts : List S31) (ds : List Int) (wr : World) : Prop where
 R : wr.heap[g + 1]? = some (.cells #[.slice A m c, .int .i64 (a : Int), .bool bad] 83 (0, 0))
 E : wr.heap[g + 1 + 1]? = some (.cells (ecells x0 x1 x2 x3 v4 v5) 25 (0, 0))
 N : wr.heap[g + 1 + 1 + 1]? = some (.cells #[.int .i64 n] 3 (0, 0))
 O : wr.heap[g]? = some (.cells (ecells 0 0 0 0 (.slice none 0 0) (.slice none 0 0)) 25 (0, 0))
 T : Kd.R k31 31 wr g (fun _ => True) v4 ts
 D : Kd.R (Kd.int .i64) 3 wr g (fun k => k ≠ g + 1 + 1 + 1) v5 ds
 B : Below g w wr
 S : g + 1 + 1 + 1 + 1 ≤ wr.heap.size
section
variable {A : Option Addr} {c m g : Nat} {w : World} {x0 x1 x2 x3 n : Int} {a : Nat} {bad : Bool} {v4 v5 : Value} {ts : List S31} {ds : List Int} {wr : World}
theorem GL.drew (h : GL A c m g w x0 x1 x2 x3 n a bad v4 v5 ts ds wr) : GL A c m g w x0 x1 x2 x3 n a bad v4 v5 ts ds wr.drew := ⟨h.R, h.E, h.N, h.O, Kd.R_drew h.T, Kd.R_drew h.D, below_drew h.B, h.S⟩
theorem GL.alloc (h : GL A c m g w x0 x1 x2 x3 n a bad v4 v5 ts ds wr) (o : Obj) : GL A c m g w x0 x1 x2 x3 n a bad v4 v5 ts ds (wr.alloc o) :=
 ⟨blk_alloc h.R o, blk_alloc h.E o, blk_alloc h.N o, blk_alloc h.O o, Kd.R_below h.T (below_alloc (Below.refl _ _) o), Kd.R_below h.D (below_alloc (Below.refl _ _) o), h.B.alloc (by have := h.S; omega) o, by have := h.S; have e : (wr.alloc o).heap.size = wr.heap.size + 1 := Array.size_push ..; omega⟩
theorem GL.step (h : GL A c m g w x0 x1 x2 x3 n a bad v4 v5 ts ds wr) {a' : Nat} {bad' : Bool} {w1 : World} (hR : w1.heap[g + 1]? = some (.cells #[.slice A m c, .int .i64 (a' : Int), .bool bad'] 83 (0, 0)))
 (hh : ∀ k, k < wr.heap.size → k ≠ g + 1 → w1.heap[k]? = wr.heap[k]?) (hb : Below 0 wr w1) : GL A c m g w x0 x1 x2 x3 n a' bad' v4 v5 ts ds w1 := by
 have hS := h.S
 refine ⟨hR, (hh _ (by omega) (by omega)).trans h.E, (hh _ (by omega) (by omega)).trans h.N, (hh _ (by omega) (by omega)).trans h.O, ?_, ?_, ?_, Nat.le_trans hS hb.size⟩
 · exact Kd.R_mono (Kd.R_step (Kd.R_types h.T h.R (by decide)) (fun k hk hlt => hh k hlt hk.2)) (fun _ _ => trivial)
 · exact Kd.R_mono (Kd.R_step (Kd.R_types h.D h.R (by decide)) (fun k hk hlt => hh k hlt hk.2)) (fun _ hk => hk.1)
 · exact ⟨hb.os.trans h.B.os, hb.tape.trans h.B.tape, hb.output.trans h.B.output, Nat.le_trans h.B.size hb.size, fun k hk => (hh k (by omega) (by omega)).trans (h.B.block k hk)⟩
theorem own_ty {v : Value} {xs : List Int} {ok : Nat → Prop} {base : Nat} (h : Kd.R (Kd.int .i64) 3 wr base ok v xs) {k : Nat} (e : v.ownBlock = some k) : ∃ cells, wr.heap[k]? = some (.cells cells 3 (0, 0)) := by
 obtain ⟨_, _, _, q, hq, cells, hc⟩ := (Kd.R_bound h).1 k e
 have hq2 : q ∈ [3] := hq
 have : q = 3 := by simpa using hq2
 subst this
 exact ⟨cells, hc⟩
theorem GL.app4 (h : GL A c m g w x0 x1 x2 x3 n a bad v4 (.slice none 0 0) ts [] wr) {v4' : Value} {ts' : List S31} {w2 : World} (ho : Kd.R k31 31 w2 g (fun _ => True) v4' ts') (hb : Below g w w2) (hg : wr.grownBy w2 v4.ownBlock) :
 GL A c m g w x0 x1 x2 x3 n a bad v4' (.slice none 0 0) ts' [] (w2.setCell ⟨g + 1 + 1, 4, none⟩ v4') := by
 have hS := h.S
 have hE2 := blk_grown h.E hg (Kd.R_ne h.T h.E (by decide))
 have hsz : (w2.setCell ⟨g + 1 + 1, 4, none⟩ v4').heap.size = w2.heap.size := by simp [World.setCell]
 refine ⟨blk_far (blk_grown h.R hg (Kd.R_ne h.T h.R (by decide))) (by dsimp only; omega) _, blk_put hE2 4 _ rfl, blk_far (blk_grown h.N hg (Kd.R_ne h.T h.N (by decide))) (by dsimp only; omega) _, blk_far (blk_grown h.O hg (Kd.R_ne h.T h.O (by decide))) (by dsimp only; omega) _, Kd.R_set ho hE2 (by decide) 4 _, Kd.R_nil _ _ _ _ _, Below.setCell hb (by dsimp only; omega) _, by rw [hsz]; exact Nat.le_trans hS hg.size⟩
theorem GL.app5 (h : GL A c m g w x0 x1 x2 x3 n a bad v4 v5 ts ds wr) {v5' : Value} {ds' : List Int} {w2 : World} (ho : Kd.R (Kd.int .i64) 3 w2 g (fun k => k ≠ g + 1 + 1 + 1) v5' ds') (hb : Below g w w2) (hg : wr.grownBy w2 v5.ownBlock) :
 GL A c m g w x0 x1 x2 x3 n a bad v4 v5' ts ds' (w2.setCell ⟨g + 1 + 1, 5, none⟩ v5') := by
 have hS := h.S
 have hE2 := blk_grown h.E hg (Kd.R_ne h.D h.E (by decide))
 have hN2 := blk_grown h.N hg (fun e => h.D.1 _ e.symm rfl)
 have hsz : (w2.setCell ⟨g + 1 + 1, 5, none⟩ v5').heap.size = w2.heap.size := by simp [World.setCell]
 have hT2 := Kd.R_grown2 h.T rfl hg (fun k e => by
  obtain ⟨cells, hc⟩ := own_ty h.D e
  exact Kd.R_ne h.T hc (by decide))
 refine ⟨blk_far (blk_grown h.R hg (Kd.R_ne h.D h.R (by decide))) (by dsimp only; omega) _, blk_put hE2 5 _ rfl, blk_far hN2 (by dsimp only; omega) _, blk_far (blk_grown h.O hg (Kd.R_ne h.D h.O (by decide))) (by dsimp only; omega) _, Kd.R_set hT2 hE2 (by decide) 5 _, Kd.R_set ho hE2 (by decide) 5 _, Below.setCell hb (by dsimp only; omega) _, by rw [hsz]; exact Nat.le_trans hS hg.size⟩
end
theorem tabs_start (k : Nat) (b : List Int) (m a : Nat) (bad : Bool) {tt : List S31 × Nat × Bool} (h : tabsS k b m a bad = tt) : tt = (([] : List S31) ++ (tabsS k b (m - ([] : List S31).length) a bad).1, (tabsS k b (m - ([] : List S31).length) a bad).2) := by
 rw [List.length_nil, Nat.sub_zero, h, List.nil_append]
theorem tabs_round {k : Nat} {b : List Int} {m : Nat} {ts zs : List S31} {t : S31} {a a2 : Nat} {ok2 : Bool} {tt : List S31 × Nat × Bool}
 (hs : tt = (ts ++ (tabsS k b (m - ts.length) a false).1, (tabsS k b (m - ts.length) a false).2)) (ht : tableS k b a = (t, a2, ok2)) (hz : ts ++ [t] = zs) (hl : ts.length < m) :
 tt = (zs ++ (tabsS k b (m - zs.length) a2 (!ok2)).1, (tabsS k b (m - zs.length) a2 (!ok2)).2) := by
 have hlz : zs.length = ts.length + 1 := by rw [← hz, List.length_append, List.length_singleton]
 have e : m - ts.length = (m - zs.length) + 1 := by omega
 rw [e, tabsS_one, ht] at hs
 dsimp only at hs
 rw [hs, ← hz, List.append_assoc, List.singleton_append]
theorem tabs_bad {k : Nat} {b : List Int} {m : Nat} {ts : List S31} {a : Nat} {tt : List S31 × Nat × Bool}
 (hs : tt = (ts ++ (tabsS k b (m - ts.length) a true).1, (tabsS k b (m - ts.length) a true).2)) : tt = (ts, a, true) := by
 rw [tabsS_bad, List.append_nil] at hs; exact hs
theorem tabs_end {k : Nat} {b : List Int} {m : Nat} {ts : List S31} {a : Nat} {bad : Bool} {tt : List S31 × Nat × Bool}
 (hs : tt = (ts ++ (tabsS k b (m - ts.length) a bad).1, (tabsS k b (m - ts.length) a bad).2)) (hl : m - ts.length = 0) : tt = (ts, a, bad) := by
 rw [hl, tabsS_zero, List.append_nil] at hs; exact hs
theorem drops_start (k : Nat) (b : List Int) (m a : Nat) (bad : Bool) {tt : List Int × Nat × Bool} (h : dropsS k b m a bad = tt) : tt = (([] : List Int) ++ (dropsS k b (m - ([] : List Int).length) a bad).1, (dropsS k b (m - ([] : List Int).length) a bad).2) := by
 rw [List.length_nil, Nat.sub_zero, h, List.nil_append]
theorem drops_round {k : Nat} {b : List Int} {m : Nat} {ts zs : List Int} {t : List Int × Nat × Bool} {a : Nat} {d : Int} {tt : List Int × Nat × Bool}
 (hs : tt = (ts ++ (dropsS k b (m - ts.length) a false).1, (dropsS k b (m - ts.length) a false).2)) (ht : numsS k b 1 a = t) (hd : t.1.getD 0 0 = d) (hz : ts ++ [d] = zs) (hl : ts.length < m) :
 tt = (zs ++ (dropsS k b (m - zs.length) t.2.1 (!t.2.2)).1, (dropsS k b (m - zs.length) t.2.1 (!t.2.2)).2) := by
 have hlz : zs.length = ts.length + 1 := by rw [← hz, List.length_append, List.length_singleton]
 have e : m - ts.length = (m - zs.length) + 1 := by omega
 rw [e, dropsS_one, ht, hd] at hs
 rw [hs, ← hz, List.append_assoc, List.singleton_append]
theorem drops_bad {k : Nat} {b : List Int} {m : Nat} {ts : List Int} {a : Nat} {tt : List Int × Nat × Bool}
 (hs : tt = (ts ++ (dropsS k b (m - ts.length) a true).1, (dropsS k b (m - ts.length) a true).2)) : tt = (ts, a, true) := by
 rw [dropsS_bad, List.append_nil] at hs; exact hs
theorem drops_end {k : Nat} {b : List Int} {m : Nat} {ts : List Int} {a : Nat} {bad : Bool} {tt : List Int × Nat × Bool}
 (hs : tt = (ts ++ (dropsS k b (m - ts.length) a bad).1, (dropsS k b (m - ts.length) a bad).2)) (hl : m - ts.length = 0) : tt = (ts, a, bad) := by
 rw [hl, dropsS_zero, List.append_nil] at hs; exact hs
section
variable {A : Option Addr} {c m g : Nat} {w : World} {x0 x1 x2 x3 n : Int} {a : Nat} {bad : Bool} {v4 v5 : Value} {ts : List S31} {ds : List Int} {wr : World}
theorem GL.setN (h : GL A c m g w x0 x1 x2 x3 n a bad v4 v5 ts ds wr) (n' : Int) : GL A c m g w x0 x1 x2 x3 n' a bad v4 v5 ts ds (wr.setCell ⟨g + 1 + 1 + 1, 0, none⟩ (.int .i64 n')) := by
 have hS := h.S
 have hsz : (wr.setCell ⟨g + 1 + 1 + 1, 0, none⟩ (.int .i64 n')).heap.size = wr.heap.size := by simp [World.setCell]
 refine ⟨blk_far h.R (by dsimp only; omega) _, blk_far h.E (by dsimp only; omega) _, blk_put h.N 0 _ rfl, blk_far h.O (by dsimp only; omega) _, Kd.R_set h.T h.N (by decide) 0 _, ?_, Below.setCell h.B (by dsimp only; omega) _, by rw [hsz]; exact hS⟩
 exact Kd.R_far h.D (p := ⟨g + 1 + 1 + 1, 0, none⟩) (fun _ hk => hk) _
/-- nums(&n) -/
theorem GL.numsN (h : GL A c m g w x0 x1 x2 x3 n a bad v4 v5 ts ds wr) {K : Nat} {b : List Int} (hm : b.length = m) {w1 : World} (M : NumsOut K b [⟨g + 1 + 1 + 1, 0, none⟩] A c (g + 1) a bad wr w1) :
 GL A c m g w x0 x1 x2 x3 ((numsS K b 1 a).1.getD 0 n) (numsS K b 1 a).2.1 (bad || !(numsS K b 1 a).2.2) v4 v5 ts ds w1 := by
 have hS := h.S
 subst hm
 have hl := numsS_len K b 1 a
 have hh : ∀ j, j < wr.heap.size → j ≠ g + 1 → j ≠ g + 1 + 1 + 1 → w1.heap[j]? = wr.heap[j]? := fun j hj h1 h2 => (M.heap j hj h1).trans (setAll_far _ _ (fun q hq => by
  have := zip_mem q hq
  simp only [List.mem_singleton] at this
  rw [this]; exact h2))
 refine ⟨M.reader, (hh _ (by omega) (by omega) (by omega)).trans h.E, (M.heap _ (by omega) (by omega)).trans (set_1 h.N _ hl), (hh _ (by omega) (by omega) (by omega)).trans h.O, ?_, ?_, ?_, Nat.le_trans hS M.rest.size⟩
 · exact Kd.R_mono (Kd.R_step (Kd.R_types (Kd.R_types h.T h.R (by decide)) h.N (by decide)) (fun k hk hlt => hh k hlt hk.1.2 hk.2)) (fun _ _ => trivial)
 · exact Kd.R_mono (Kd.R_step (Kd.R_types h.D h.R (by decide)) (fun k hk hlt => hh k hlt hk.2 hk.1)) (fun _ hk => hk.1)
 · exact ⟨M.rest.os.trans h.B.os, M.rest.tape.trans h.B.tape, M.rest.output.trans h.B.output, Nat.le_trans h.B.size M.rest.size, fun k hk => (hh k (by omega) (by omega) (by omega)).trans (h.B.block k hk)⟩
end
section
variable {A : Option Addr} {c m g : Nat} {w : World} {x0 x1 x2 x3 n : Int} {a : Nat} {bad : Bool} {v4 v5 : Value} {ts : List S31} {ds : List Int} {wr : World}
/-- nums(&d): d lies in a new block. -/
theorem GL.numsD (h : GL A c m g w x0 x1 x2 x3 n a bad v4 v5 ts ds wr) {K : Nat} {b : List Int} (hm : b.length = m) {wd w1 : World} {D : Nat} (hD : wr.heap.size = D) (hd : ∀ j, j < wr.heap.size → wd.heap[j]? = wr.heap[j]?) (hb : Below 0 wr wd) {z : Int} (hz : wd.heap[D]? = some (.cells #[.int .i64 z] 3 (0, 0))) {bad' : Bool}
 (M : NumsOut K b [⟨D, 0, none⟩] A c (g + 1) a bad' wd w1) :
 GL A c m g w x0 x1 x2 x3 n (numsS K b 1 a).2.1 (bad' || !(numsS K b 1 a).2.2) v4 v5 ts ds w1 ∧ w1.heap[D]? = some (.cells #[.int .i64 ((numsS K b 1 a).1.getD 0 z)] 3 (0, 0)) := by
 have hS := h.S
 subst hm
 have hs := hb.size
 have hzl := blk_lt hz
 refine ⟨h.step M.reader (fun j hj h1 => ((M.heap j (by omega) h1).trans (setAll_far _ _ (fun q hq => by
  have := zip_mem q hq
  simp only [List.mem_singleton] at this
  rw [this]; dsimp only; omega))).trans (hd j hj)) (hb.trans M.rest), ?_⟩
 exact (M.heap D hzl (by omega)).trans (set_1 hz _ (numsS_len K b 1 a))
end
theorem wrap_succ {n z : Nat} (hz : z = n + 1) (h : (n : Int) < 256) : wrap64 ((n : Int) + 1) = (z : Int) := by
 rw [hz]; unfold wrap64; omega
theorem meas_lt {m a z : Nat} (hz : z = a + 1) (h : a < m) : ((m : Int) - intOf (Value.int .i64 (z : Int))).toNat < ((m : Int) - intOf (Value.int .i64 (a : Int))).toNat := by
 show ((m : Int) - (z : Int)).toNat < ((m : Int) - (a : Int)).toNat
 omega
theorem cap_lt {n : Int} {m l : Nat} (hm : capN n = m) (h1 : (l : Int) < n) (h2 : (l : Int) < 256) : l < m := by
 unfold capN at hm; omega
theorem snoc_len {α : Type} {l z : List α} {x : α} (h : l ++ [x] = z) : z.length = l.length + 1 := by rw [← h, List.length_append, List.length_singleton]
structure OTD (g : Nat) (w : World) (v4 v5 : Value) (ts : List S31) (ds : List Int) (x : World) : Prop where
 O : ∃ cs, x.heap[g]? = some (.cells cs 25 (0, 0))
 T : Kd.R k31 31 x g (fun _ => True) v4 ts
 D : Kd.R (Kd.int .i64) 3 x g (fun _ => True) v5 ds
 B : Below g w x
theorem OTD.set {g : Nat} {w x : World} {v4 v5 : Value} {ts : List S31} {ds : List Int} (h : OTD g w v4 v5 ts ds x) (j : Nat) (v : Value) : OTD g w v4 v5 ts ds (x.setCell ⟨g, j, none⟩ v) := by
 obtain ⟨cs, hO⟩ := h.O
 exact ⟨⟨_, blk_put hO j v rfl⟩, Kd.R_set h.T hO (by decide) j v, Kd.R_set h.D hO (by decide) j v, Below.setCell h.B (Nat.le_refl _) v⟩
def get.T9 : Bool × List (List Nat × List Nat) := (true, [([], []), ([0], [0]), ([], []), ([2], [2]), ([3], [3]), ([1, 4, 3], [1, 4]), ([0, 1, 2, 3, 4, 5], []), ([6, 5, 5, 0, 1, 2, 3, 4, 5], [5, 6])])
def get.B9 : List Nat := [0, 1, 0, 4, 12, 31, 63, 127]
theorem get.tab9 : rtab .any (opsOf Try.f17 9) = get.T9 := by kernel_rfl
theorem get.bits9 : waitsOk get.T9.2 get.B9 = true := by kernel_rfl
set_option maxHeartbeats 4000000 in
set_option maxRecDepth 100000 in
theorem get_x (k : Nat) (A : Option Addr) (c : Nat) (b : List Int) (w : World) (hr0 : Kd.C (Kd.int .u8) w A b.length b) (hc : b.length ≤ c) (ht : tot k b = true) (r1 r2 r3 r4 : Int) (r5 : List S31) (r6 : List Int) (r7 : Bool)
 (hH : (if (getS k b).bad = true then some (0, 0, 0, 0, ([] : List S31), ([] : List Int), false) else if b.length = 0 then some (0, 0, 0, 0, ([] : List S31), ([] : List Int), false) else (edit_Put.f k ((getS k b).h.getD 0 0) ((getS k b).h.getD 1 0) ((getS k b).h.getD 2 0) ((getS k b).h.getD 3 0) (getS k b).ts (getS k b).ds).bind fun p => (slices_Equal_byte_byte.f k p b).bind fun t => if t = true then some ((getS k b).h.getD 0 0, (getS k b).h.getD 1 0, (getS k b).h.getD 2 0, (getS k b).h.getD 3 0, (getS k b).ts, (getS k b).ds, true) else some (0, 0, 0, 0, ([] : List S31), ([] : List Int), false)) = some (r1, r2, r3, r4, r5, r6, r7)) :
 Calls Try.prog 17 #[.slice A b.length c] w fun e w' => ∃ v1_ v2_ : Value, e = .returned (.tuple #[.agg #[.int .i64 r1, .int .i64 r2, .int .i64 r3, .int .i64 r4, v1_, v2_], .bool r7]) ∧ Kd.R k31 31 w' w.heap.size (fun _ => True) v1_ r5 ∧ Kd.R (Kd.int .i64) 3 w' w.heap.size (fun _ => True) v2_ r6 ∧ Below w.heap.size w w' := by
 have hu25 := Try.underlying25
 have hu83 := Try.underlying83
 obtain ⟨g, hg⟩ : ∃ g, w.heap.size = g := ⟨_, rfl⟩
 obtain ⟨w1, ew1⟩ : ∃ w1, w.alloc (.cells (ecells 0 0 0 0 (.slice none 0 0) (.slice none 0 0)) 25) = w1 := ⟨_, rfl⟩
 have Z1 : w1.heap.size = g + 1 := by rw [← ew1, ← hg]; exact Array.size_push ..
 have O1 : w1.heap[g]? = some (.cells (ecells 0 0 0 0 (.slice none 0 0) (.slice none 0 0)) 25 (0, 0)) := by rw [← ew1, ← hg]; exact blk_new _ _
 have B1 : Below w.heap.size w w1 := by rw [← ew1]; exact below_alloc (Below.refl _ _) _
 obtain ⟨w2, ew2⟩ : ∃ w2, w1.alloc (.cells #[.slice A b.length c, .int .i64 0, .bool false] 83) = w2 := ⟨_, rfl⟩
 have Z2 : w2.heap.size = g + 1 + 1 := by rw [← ew2, ← Z1]; exact Array.size_push ..
 have R2 : w2.heap[g + 1]? = some (.cells #[.slice A b.length c, .int .i64 0, .bool false] 83 (0, 0)) := by rw [← ew2, ← Z1]; exact blk_new _ _
 have O2 : w2.heap[g]? = some (.cells (ecells 0 0 0 0 (.slice none 0 0) (.slice none 0 0)) 25 (0, 0)) := by rw [← ew2]; exact blk_alloc O1 _
 have B2 : Below w.heap.size w w2 := by rw [← ew2]; exact B1.alloc (by omega) _
 obtain ⟨w3, ew3⟩ : ∃ w3, w2.alloc (.cells (ecells 0 0 0 0 (.slice none 0 0) (.slice none 0 0)) 25) = w3 := ⟨_, rfl⟩
 have Z3 : w3.heap.size = g + 1 + 1 + 1 := by rw [← ew3, ← Z2]; exact Array.size_push ..
 have E3 : w3.heap[g + 1 + 1]? = some (.cells (ecells 0 0 0 0 (.slice none 0 0) (.slice none 0 0)) 25 (0, 0)) := by rw [← ew3, ← Z2]; exact blk_new _ _
 have B3 : Below w.heap.size w w3 := by rw [← ew3]; exact B2.alloc (by omega) _
 obtain ⟨w4, ew4⟩ : ∃ w4, w3.alloc (.cells #[.int .i64 0] 3) = w4 := ⟨_, rfl⟩
 have Z4 : w4.heap.size = g + 1 + 1 + 1 + 1 := by rw [← ew4, ← Z3]; exact Array.size_push ..
 have N4 : w4.heap[g + 1 + 1 + 1]? = some (.cells #[.int .i64 0] 3 (0, 0)) := by rw [← ew4, ← Z3]; exact blk_new _ _
 have E4 : w4.heap[g + 1 + 1]? = some (.cells (ecells 0 0 0 0 (.slice none 0 0) (.slice none 0 0)) 25 (0, 0)) := by rw [← ew4]; exact blk_alloc E3 _
 have R4 : w4.heap[g + 1]? = some (.cells #[.slice A b.length c, .int .i64 ((0 : Nat) : Int), .bool false] 83 (0, 0)) := by rw [← ew4, ← ew3]; exact blk_alloc (blk_alloc R2 _) _
 have O4 : w4.heap[g]? = some (.cells (ecells 0 0 0 0 (.slice none 0 0) (.slice none 0 0)) 25 (0, 0)) := by rw [← ew4, ← ew3]; exact blk_alloc (blk_alloc O2 _) _
 have B4 : Below w.heap.size w w4 := by rw [← ew4]; exact B3.alloc (by omega) _
 have P1 := nums_lit k (g + 1) [⟨g + 1 + 1, 0, none⟩, ⟨g + 1 + 1, 1, none⟩, ⟨g + 1 + 1, 2, none⟩, ⟨g + 1 + 1, 3, none⟩, ⟨g + 1 + 1 + 1, 0, none⟩] A c b 0 false w4 R4 (by
  intro p hp
  simp only [List.mem_cons, List.not_mem_nil, or_false] at hp
  rcases hp with rfl | rfl | rfl | rfl | rfl
  · exact ⟨by dsimp only; omega, int_blk E4 rfl⟩
  · exact ⟨by dsimp only; omega, int_blk E4 rfl⟩
  · exact ⟨by dsimp only; omega, int_blk E4 rfl⟩
  · exact ⟨by dsimp only; omega, int_blk E4 rfl⟩
  · exact ⟨by dsimp only; omega, int_blk N4 rfl⟩)
  (fun W' hW => C_u8_came hr0 W' (Kept.then_ (Kept.of_below B4 _) hW (fun q hq => Or.inr (by
   rcases hq with e | ⟨p, hp, e⟩
   · omega
   · rcases mem5 hp with h | h <;> omega)))) hc ht (Nat.zero_le _) (by simp only [List.length_cons, List.length_nil]; omega)
 simp only [List.map_cons, List.map_nil, List.length_cons, List.length_nil, Nat.zero_add, Nat.reduceAdd, Z4] at P1
 have QP1 := Aside0.mk P1
 have QC0 := Aside0.mk (C_u8_came hr0)
 have QE := Aside0.mk E4
 have QN := Aside0.mk N4
 have QO := Aside0.mk O4
 have QB := Aside0.mk B4
 have QZ1 := Aside0.mk Z1
 have QZ2 := Aside0.mk Z2
 have QZ3 := Aside0.mk Z3
 have QZ4 := Aside0.mk Z4
 have Qt := Aside0.mk ht
 have QH := Aside0.mk hH
 have Qg := Aside0.mk hg
 clear hr0 ht hH P1 E4 N4 O4 B4 Z1 Z2 Z3 Z4 R4 B3 B2 B1 O1 O2 R2 E3
 unfold ecells at ew1 ew3
 go_enter Try.func17, Try.ntmps17
 go_wp2_with (first
  | (with_reducible refine wp_label ?_) | (with_reducible refine wp_scope_straight ?_) | (simp only [Exit.noGoto_ret, Exit.noGoto_normal, Exit.noGoto_exit])
  | fail)
 simp only [QZ1.out, QZ2.out, QZ3.out, QZ4.out]
 go_at_call 51
 with_reducible refine QP1.out.mono ?_
 rintro e x1 ⟨rfl, N1⟩
 clear QP1
 have hg0 := Qg.out
 have hz4 := QZ4.out
 obtain ⟨h, eh⟩ : ∃ h, numsS k b 5 0 = h := ⟨_, rfl⟩
 have hl : h.1.length ≤ 5 := by rw [← eh]; exact numsS_len k b 5 0
 have ha1 : h.2.1 ≤ b.length := by rw [← eh]; exact numsS_at Qt.out 5 0 (Nat.zero_le _)
 have R5 : x1.heap[g + 1]? = some (.cells #[.slice A b.length c, .int .i64 (h.2.1 : Int), .bool (!h.2.2)] 83 (0, 0)) := by rw [← eh]; simpa using N1.reader
 have G1 : ∀ j, j < w4.heap.size → j ≠ g + 1 → x1.heap[j]? = (setAll w4 ([⟨g + 1 + 1, 0, none⟩, ⟨g + 1 + 1, 1, none⟩, ⟨g + 1 + 1, 2, none⟩, ⟨g + 1 + 1, 3, none⟩, ⟨g + 1 + 1 + 1, 0, none⟩].zip h.1)).heap[j]? := by rw [← eh]; exact N1.heap
 have E5 := (G1 (g + 1 + 1) (by omega) (by omega)).trans (set_e5 QE.out QN.out (by omega) h.1 hl).1
 have N5 := (G1 (g + 1 + 1 + 1) (by omega) (by omega)).trans (set_e5 QE.out QN.out (by omega) h.1 hl).2
 have F5 : ∀ j, j < g + 1 → x1.heap[j]? = w4.heap[j]? := fun j hk => (G1 j (by omega) (by omega)).trans (setAll_old (n := g + 1) (fun q hq => by rcases mem5 (zip_mem q hq) with h | h <;> omega) hk)
 have O5 := (F5 g (by omega)).trans QO.out
 have B5 : Below w.heap.size w x1 := ⟨N1.rest.os.trans QB.out.os, N1.rest.tape.trans QB.out.tape, N1.rest.output.trans QB.out.output, Nat.le_trans QB.out.size N1.rest.size, fun j hk => (F5 j (by omega)).trans (QB.out.block j hk)⟩
 obtain ⟨n, en⟩ : ∃ n, h.1.getD 4 0 = n := ⟨_, rfl⟩
 rw [en] at N5
 have QR5 := Aside0.mk R5
 have QE5 := Aside0.mk E5
 have QN5 := Aside0.mk N5
 have QO5 := Aside0.mk O5
 have QB5 := Aside0.mk B5
 have Qh := Aside0.mk eh
 have Qn := Aside0.mk en
 have Qa := Aside0.mk ha1
 have QS := Aside0.mk (show w4.heap.size ≤ x1.heap.size from N1.rest.size)
 obtain ⟨x0, e0⟩ : ∃ x, h.1.getD 0 0 = x := ⟨_, rfl⟩
 obtain ⟨y1, e1⟩ : ∃ x, h.1.getD 1 0 = x := ⟨_, rfl⟩
 obtain ⟨y2, e2⟩ : ∃ x, h.1.getD 2 0 = x := ⟨_, rfl⟩
 obtain ⟨y3, e3⟩ : ∃ x, h.1.getD 3 0 = x := ⟨_, rfl⟩
 rw [e0, e1, e2, e3] at E5
 have QL0 := Aside0.mk (show GL A c b.length g w x0 y1 y2 y3 n h.2.1 (!h.2.2) (.slice none 0 0) (.slice none 0 0) [] [] x1 from ⟨R5, E5, N5, O5, Kd.R_nil _ _ _ _ _, Kd.R_nil _ _ _ _ _, by rw [← hg0]; exact B5, by have := N1.rest.size; omega⟩)
 have Qy := Aside0.mk (And.intro e0 (And.intro e1 (And.intro e2 e3)))
 clear QR5 QE5 QN5 QO5 QB5 e0 e1 e2 e3
 clear E5 N5 F5 O5 B5 R5 eh en ha1 hl G1 N1 QE QN QO QB hz4 QZ1 QZ2 QZ3 ew1 ew2 ew3 ew4
 clear w1 w2 w3
 obtain ⟨tb, etb⟩ : ∃ tb, tabsS k b (capN n) h.2.1 (!h.2.2) = tb := ⟨_, rfl⟩
 have Qtb := Aside0.mk etb
 have Qat := Aside0.mk (show tb.2.1 ≤ b.length by rw [← etb]; exact tabsS_at Qt.out _ _ _ Qa.out)
 have QST := Aside0.mk (tabs_start k b (capN n) h.2.1 (!h.2.2) etb)
 clear etb
 obtain ⟨m, em⟩ : ∃ m, capN n = m := ⟨_, rfl⟩
 rw [em] at QST
 have Qm := Aside0.mk em
 clear em
 go_upto_block 0 with (first | (with_reducible refine wp_label ?_) | (with_reducible refine wp_scope_straight ?_) | (simp only [Exit.noGoto_ret, Exit.noGoto_normal, Exit.noGoto_exit]) | fail)
 go_cut [7] (fun v7 wc => ∃ (v4 : Value), Aside0 (GL A c b.length g w x0 y1 y2 y3 n tb.2.1 tb.2.2 v4 (.slice none 0 0) tb.1 [] wc))
 case first =>
  go_wp2_with (first | (with_reducible refine wp_label ?_) | (with_reducible refine wp_scope_straight ?_) | (simp only [Exit.noGoto_ret, Exit.noGoto_normal, Exit.noGoto_exit]) | fail)
  go_loopw [7] (fun v7 wr => ∃ (ts : List S31) (a : Nat) (bad : Bool) (v4 : Value), v7 = .int .i64 (ts.length : Int) ∧ Aside0 (ts.length ≤ m) ∧ Aside0 (a ≤ b.length) ∧ Aside0 (tb = (ts ++ (tabsS k b (m - ts.length) a bad).1, (tabsS k b (m - ts.length) a bad).2)) ∧ Aside0 (GL A c b.length g w x0 y1 y2 y3 n a bad v4 (.slice none 0 0) ts [] wr)) (fun v7 _ => (m - (intOf v7)).toNat)
  case atStart => exact ⟨[], h.2.1, !h.2.2, .slice none 0 0, rfl, ⟨Nat.zero_le _⟩, Qa, QST, QL0⟩
  case round =>
   obtain ⟨ts, a, bad, v4, e7, HV, HA, HS, HL⟩ := hrel
   subst e7
   have hn0 : wr.cell? ⟨g + 1 + 1 + 1, 0, none⟩ = some (.int .i64 n) := (blk_cell HL.out.N 0).trans rfl
   obtain ⟨_, _, r2⟩ := cells3 HL.out.R
   by_cases c1 : (ts.length : Int) < n
   ·
    have c1b : decide ((ts.length : Int) < n) = true := decide_eq_true c1
    have QC1 := Aside0.mk c1
    clear c1
    cases bad with
    | true =>
     go_wp2_with (first | (with_reducible refine wp_label ?_) | (with_reducible refine wp_scope_straight ?_) | (simp only [Exit.noGoto_ret, Exit.noGoto_normal, Exit.noGoto_exit]) | fail)
     go_meet
     case rel =>
      refine ⟨v4, ⟨?_⟩⟩
      rw [tabs_bad HS.out]
      exact HL.out
    | false =>
     by_cases c2 : (256 : Int) ≤ (ts.length : Int)
     ·
      have c2b : decide ((ts.length : Int) ≥ 256) = true := decide_eq_true c2
      have QC2 := Aside0.mk c2
      clear c2
      go_wp2_with (first | (with_reducible refine wp_label ?_) | (with_reducible refine wp_scope_straight ?_) | (simp only [Exit.noGoto_ret, Exit.noGoto_normal, Exit.noGoto_exit]) | fail)
      go_meet
      case rel =>
       refine ⟨v4, ⟨?_⟩⟩
       have e : m - ts.length = 0 := by have := QC2.out; have := Qm.out; unfold capN at this; omega
       rw [tabs_end HS.out e]
       exact HL.out
     ·
      have c2b : decide ((ts.length : Int) ≥ 256) = false := decide_eq_false c2
      have QC2 := Aside0.mk c2
      clear c2
      go_wp2_with (first | (with_reducible refine wp_label ?_) | (with_reducible refine wp_scope_straight ?_) | (simp only [Exit.noGoto_ret, Exit.noGoto_normal, Exit.noGoto_exit]) | fail)
      have HLd := Aside0.mk HL.out.drew
      have cE : wr.drew.cell? ⟨g + 1 + 1, 4, none⟩ = some v4 := (blk_cell HLd.out.E 4).trans rfl
      clear HL hn0 r2 c1b c2b
      refine start_ (n := 8) (S := fun w' => w'.cell? ⟨g + 1 + 1, 4, none⟩ = some v4) (ds := [7]) #[false, false, false, false, false, false, false, false] (by kernel_rfl) rfl rfl cE (fun hHeld => ?_); refine with_tabW get.tab9 get.bits9 (fun HT_ HW_ => ?_)
      generalize ewd : wr.drew = wd at HLd cE hHeld ⊢
      clear ewd
      refine pure_ (i := 0) (N := some 33) (v := ?_) (a' := ?_) #[true, false, false, false, false, false, false, false] rfl rfl (any_of HT_.out (by kernel_rfl)) (fun _ _ _ h => h) (Or.inl ⟨by rfl, ?_⟩) ?_ ?_
      rotate_left
      ·
       intro w'
       go_simp
       with_reducible rfl
      rotate_left
      ·
       simp only [Act.put, List.setIfInBounds_toArray, List.set_cons_zero, List.set_cons_succ, i64_w, i32_w]
       rfl

      refine take_ (i := 1) (N := some 34) (v := ?_) (a' := ?_) #[true, true, false, false, false, false, false, false] rfl rfl (take_ofW HT_.out HW_.out (by kernel_rfl)) (fun _ _ _ h => h) (Or.inl ⟨by rfl, ?_⟩) hHeld ?_ ?_
      rotate_left
      ·
       intro w' s0
       go_simp
       with_reducible rfl
      rotate_left
      ·
       simp only [Act.put, List.setIfInBounds_toArray, List.set_cons_zero, List.set_cons_succ, i64_w, i32_w]
       rfl

      refine pure_ (i := 2) (N := some 35) (v := ?_) (a' := ?_) #[true, true, true, false, false, false, false, false] rfl rfl (any_of HT_.out (by kernel_rfl)) (fun _ _ _ h => h) (Or.inl ⟨by rfl, ?_⟩) ?_ ?_
      rotate_left
      ·
       intro w'
       go_simp
       with_reducible rfl
      rotate_left
      ·
       simp only [Act.put, List.setIfInBounds_toArray, List.set_cons_zero, List.set_cons_succ, i64_w, i32_w]
       rfl

      refine one_ (i := 3) (N := some 36) #[true, true, true, true, false, false, false, false] rfl rfl (one_of HT_.out (by kernel_rfl)) (by decide) (fun K hK => ?_)
      refine goes_ Try.func52 (by kernel_rfl) rfl #[.pointer (some ⟨g + 1, 0, none⟩)] (by rfl) rfl rfl (by first | rfl | (simp [Act.eval]; done) | (go_simp; done) | (simp [Act.eval]; rfl)) ?_
      refine (table_x k (g + 1) A c b a false wd HLd.out.R (fun W' hW => QC0.out W' (Kept.then_ (Kept.of_below (Below.lower0 (by rw [Qg.out]; exact HLd.out.B) (Nat.le_refl _)) _) hW (fun q hq => Or.inr (by rw [Qg.out]; omega)))) hc Qt.out HA.out).mono ?_
      rintro e1 w1 ⟨rfl, M1⟩
      have HL1 := Aside0.mk (HLd.out.step (a' := (tableS k b a).2.1) (bad' := !(tableS k b a).2.2) (by simpa using M1.reader) M1.heap M1.rest)
      obtain ⟨tt, et⟩ : ∃ tt, tableS k b a = tt := ⟨_, rfl⟩
      rw [et] at HL1 ⊢
      have Qtt := Aside0.mk et
      have c1 : w1.cell? ⟨g + 1 + 1, 4, none⟩ = some v4 := (blk_cell HL1.out.E 4).trans rfl
      clear et M1 hHeld cE
      obtain ⟨⟨f0, f1, f2, f3, f4, f5, f6, f7, f8⟩, a2, ok2⟩ := tt
      dsimp only [tval, tcells] at HL1 ⊢
      refine ⟨_, rfl, hK.out _ _ c1 (fun hHeld => ?_)⟩
      clear hK K
      refine norm_ (a' := ?_) ?_ ?_
      rotate_left
      ·
       show Act.put _ (some 36) _ = _
       simp only [Act.put, List.setIfInBounds_toArray, List.set_cons_zero, List.set_cons_succ, i64_w, i32_w]
       rfl
      refine one_ (i := 4) (N := some 37) #[true, true, true, true, true, false, false, false] rfl rfl (one_of HT_.out (by kernel_rfl)) (by decide) (fun K hK => ?_)
      refine event_step (w1 := ?_) (v := ?_) (by rfl) ?_ ?_
      rotate_left 2
      ·
       go_simp
       exact And.intro (by rfl) (by rfl)
      have HL2 := Aside0.mk (HL1.out.alloc (.cells #[.int .i64 f0, .int .i64 f1, .int .i64 f2, .string f3, .string f4, .int .i64 f5, .int .i64 f6, .bool f7, .bool f8] 31))
      have c2 : (w1.alloc (.cells #[.int .i64 f0, .int .i64 f1, .int .i64 f2, .string f3, .string f4, .int .i64 f5, .int .i64 f6, .bool f7, .bool f8] 31)).cell? ⟨g + 1 + 1, 4, none⟩ = some v4 := (blk_cell HL2.out.E 4).trans rfl
      refine hK.out _ _ c2 (fun hHeld => ?_)
      clear hK K c1
      refine norm_ (a' := ?_) ?_ ?_
      rotate_left
      ·
       show Act.put _ (some 37) _ = _
       simp only [Act.put, List.setIfInBounds_toArray, List.set_cons_zero, List.set_cons_succ, i64_w, i32_w]
       rfl
      refine one_ (i := 5) (N := some 38) #[true, true, true, true, true, true, false, false] rfl rfl (one_of HT_.out (by kernel_rfl)) (by decide) (fun K hK => ?_)
      refine Kd.R_append_step k31 (w0 := w) (W := w1) g (by rfl) (.tmp 34) (.tmp 37) 22 31 (.agg #[(.int .i64 0), (.int .i64 0), (.int .i64 0), (.string ⟨#[]⟩), (.string ⟨#[]⟩), (.int .i64 0), (.int .i64 0), (.bool false), (.bool false)]) 80 rfl Try.underlying22 info31 rfl (by decide) (by omega) v4 ts (⟨f0, f1, f2, f3, f4, f5, f6, f7, f8⟩ : S31) [.int .i64 f0, .int .i64 f1, .int .i64 f2, .string f3, .string f4, .int .i64 f5, .int .i64 f6, .bool f7, .bool f8] (fun _ => True) (fun _ => False) rfl rfl (k31_mkM _ _ _ (⟨f0, f1, f2, f3, f4, f5, f6, f7, f8⟩ : S31)) (fun _ h => h.elim) (fun _ _ => trivial) HL1.out.T HL1.out.B (by have := HL1.out.S; omega) ?aL ?_
      case aL => have := QC2.out; omega
      intro v1 w2 ho hb hg2 hat
      generalize ezs : ts ++ [(⟨f0, f1, f2, f3, f4, f5, f6, f7, f8⟩ : S31)] = zs at ho
      have EZ := Aside0.mk ezs
      clear ezs
      obtain ⟨A2, cc2, ev2⟩ := Kd.R_slice ho
      subst ev2
      have HL3 := Aside0.mk (HL1.out.app4 ho hb hg2)
      have HE2 := Aside0.mk (blk_grown HL1.out.E hg2 (Kd.R_ne HL1.out.T HL1.out.E (by decide)))
      have c3 : w2.cell? ⟨g + 1 + 1, 4, none⟩ = some v4 := (blk_cell HE2.out 4).trans rfl
      have f3 := blk_frozen HE2.out 4
      clear ho hb hg2 hat c2
      refine hK.out _ _ c3 (fun hHeld => ?_)
      clear hK K
      refine norm_ (a' := ?_) ?_ ?_
      rotate_left
      ·
       show Act.put _ (some 38) _ = _
       simp only [Act.put, List.setIfInBounds_toArray, List.set_cons_zero, List.set_cons_succ, i64_w, i32_w]
       rfl
      refine pure_ (i := 6) (N := some 39) (v := ?_) (a' := ?_) #[true, true, true, true, true, true, true, false] rfl rfl (any_of HT_.out (by kernel_rfl)) (fun _ _ _ h => h) (Or.inl ⟨by rfl, ?_⟩) ?_ ?_
      rotate_left
      ·
       intro w'
       go_simp
       with_reducible rfl
      rotate_left
      ·
       simp only [Act.put, List.setIfInBounds_toArray, List.set_cons_zero, List.set_cons_succ, i64_w, i32_w]
       rfl

      refine last_ (i := 7) (N := none) #[true, true, true, true, true, true, true, true] rfl rfl (one_of HT_.out (by kernel_rfl)) (by decide) (fun K hK => ?_)
      refine skip_ (w1 := ?_) (by rfl) rfl ?_ ?_
      rotate_left
      ·
       go_simp
       rfl
      refine hK.out _ _ ?_
      clear hK K
      refine done_ (done_of HT_.out (by kernel_rfl)) ?_
      generalize w2.setCell ⟨g + 1 + 1, 4, none⟩ (.slice A2 zs.length cc2) = w3 at HL3 ⊢
      clear hHeld c3 f3
      go_wp2_with (first | (with_reducible refine wp_label ?_) | (with_reducible refine wp_scope_straight ?_) | (simp only [Exit.noGoto_ret, Exit.noGoto_normal, Exit.noGoto_exit]) | fail)
      have hz := snoc_len EZ.out
      have hcap := cap_lt Qm.out QC1.out (by first | exact QC2.out | exact Int.not_le.1 QC2.out)
      rw [wrap_succ hz (by first | exact QC2.out | exact Int.not_le.1 QC2.out)]
      refine ⟨⟨zs, a2, !ok2, _, rfl, ⟨hz ▸ hcap⟩, ⟨?_⟩, ⟨tabs_round HS.out Qtt.out EZ.out hcap⟩, HL3⟩, meas_lt hz hcap⟩
      have := tableS_at Qt.out a HA.out
      rw [Qtt.out] at this
      exact this
   ·
    have c1b : decide ((ts.length : Int) < n) = false := decide_eq_false c1
    have QC1 := Aside0.mk c1
    clear c1
    go_wp2_with (first | (with_reducible refine wp_label ?_) | (with_reducible refine wp_scope_straight ?_) | (simp only [Exit.noGoto_ret, Exit.noGoto_normal, Exit.noGoto_exit]) | fail)
    go_meet
    case rel =>
     refine ⟨v4, ⟨?_⟩⟩
     have e : m - ts.length = 0 := by have := QC1.out; have := Qm.out; unfold capN at this; omega
     rw [tabs_end HS.out e]
     exact HL.out
 case rest =>
  obtain ⟨v4, HL⟩ := hcut
  have hn0 : wc.cell? ⟨g + 1 + 1 + 1, 0, none⟩ = some (.int .i64 n) := (blk_cell HL.out.N 0).trans rfl
  have fn0 := blk_frozen HL.out.N 0
  clear QL0 QST
  have HL1 := Aside0.mk (HL.out.setN 0)
  obtain ⟨wn, ewn⟩ : ∃ wn, wc.setCell ⟨g + 1 + 1 + 1, 0, none⟩ (.int .i64 0) = wn := ⟨_, rfl⟩
  have Zn : wn.heap.size = wc.heap.size := by rw [← ewn]; simp [World.setCell]
  rw [ewn] at HL1
  have P2 := nums_lit k (g + 1) [⟨g + 1 + 1 + 1, 0, none⟩] A c b tb.2.1 tb.2.2 wn HL1.out.R (by
   intro p hp
   simp only [List.mem_singleton] at hp
   subst hp
   exact ⟨by dsimp only; omega, int_blk HL1.out.N rfl⟩)
   (fun W' hW => QC0.out W' (Kept.then_ (Kept.of_below (by rw [Qg.out]; exact HL1.out.B) _) hW (fun q hq => Or.inr (by
    rw [Qg.out]
    rcases hq with e | ⟨p, hp, e⟩
    · omega
    ·
     simp only [List.mem_singleton] at hp
     subst hp
     dsimp only at e
     omega)))) hc Qt.out Qat.out (by simp only [List.length_cons, List.length_nil]; omega)
  simp only [List.map_cons, List.map_nil, List.length_cons, List.length_nil, Nat.zero_add, Nat.reduceAdd] at P2
  have QP2 := Aside0.mk P2
  clear P2 Zn HL
  go_wp2_with (first | (with_reducible refine wp_label ?_) | (with_reducible refine wp_scope_straight ?_) | (simp only [Exit.noGoto_ret, Exit.noGoto_normal, Exit.noGoto_exit]) | fail)
  go_at_call 51
  with_reducible refine QP2.out.mono ?_
  rintro e x2 ⟨rfl, N2⟩
  have HL2 := Aside0.mk (HL1.out.numsN rfl N2)
  obtain ⟨nn, enn⟩ : ∃ nn, numsS k b 1 tb.2.1 = nn := ⟨_, rfl⟩
  rw [enn] at HL2
  obtain ⟨n2, en2⟩ : ∃ n2, nn.1.getD 0 0 = n2 := ⟨_, rfl⟩
  rw [en2] at HL2
  have Qnn := Aside0.mk enn
  have Qn2 := Aside0.mk en2
  have Qa2 := Aside0.mk (show nn.2.1 ≤ b.length by rw [← enn]; exact numsS_at Qt.out 1 _ Qat.out)
  obtain ⟨bad2, ebad2⟩ : ∃ x, (tb.2.2 || !nn.2.2) = x := ⟨_, rfl⟩
  rw [ebad2] at HL2
  have Qbad2 := Aside0.mk ebad2
  obtain ⟨m2, em2⟩ : ∃ m, capN n2 = m := ⟨_, rfl⟩
  obtain ⟨db, edb⟩ : ∃ db, dropsS k b m2 nn.2.1 bad2 = db := ⟨_, rfl⟩
  have Qdb := Aside0.mk edb
  have QSD := Aside0.mk (drops_start k b m2 nn.2.1 bad2 edb)
  have Qm2 := Aside0.mk em2
  clear N2 HL1 QP2 enn en2 ebad2 em2 edb ewn hn0 fn0
  go_upto_block 2 with (first | (with_reducible refine wp_label ?_) | (with_reducible refine wp_scope_straight ?_) | (simp only [Exit.noGoto_ret, Exit.noGoto_normal, Exit.noGoto_exit]) | fail)
  go_cut [8] (fun v8 wc2 => ∃ (v5 : Value), Aside0 (GL A c b.length g w x0 y1 y2 y3 n2 db.2.1 db.2.2 v4 v5 tb.1 db.1 wc2))
  case first =>
   go_wp2_with (first | (with_reducible refine wp_label ?_) | (with_reducible refine wp_scope_straight ?_) | (simp only [Exit.noGoto_ret, Exit.noGoto_normal, Exit.noGoto_exit]) | fail)
   go_loopw [8] (fun v8 wr => ∃ (ds : List Int) (a : Nat) (bad : Bool) (v5 : Value), v8 = .int .i64 (ds.length : Int) ∧ Aside0 (ds.length ≤ m2) ∧ Aside0 (a ≤ b.length) ∧ Aside0 (db = (ds ++ (dropsS k b (m2 - ds.length) a bad).1, (dropsS k b (m2 - ds.length) a bad).2)) ∧ Aside0 (GL A c b.length g w x0 y1 y2 y3 n2 a bad v4 v5 tb.1 ds wr)) (fun v8 _ => (m2 - (intOf v8)).toNat)
   case atStart => exact ⟨[], nn.2.1, bad2, .slice none 0 0, rfl, ⟨Nat.zero_le _⟩, Qa2, QSD, HL2⟩
   case round =>
    obtain ⟨ds, a, bad, v5, e8, HV, HA, HS, HL⟩ := hrel
    subst e8
    have hn0 : wr.cell? ⟨g + 1 + 1 + 1, 0, none⟩ = some (.int .i64 n2) := (blk_cell HL.out.N 0).trans rfl
    obtain ⟨_, _, r2⟩ := cells3 HL.out.R
    by_cases c1 : (ds.length : Int) < n2
    ·
     have c1b : decide ((ds.length : Int) < n2) = true := decide_eq_true c1
     have QC1 := Aside0.mk c1
     clear c1
     cases bad with
     | true =>
      go_wp2_with (first | (with_reducible refine wp_label ?_) | (with_reducible refine wp_scope_straight ?_) | (simp only [Exit.noGoto_ret, Exit.noGoto_normal, Exit.noGoto_exit]) | fail)
      go_meet
      case rel =>
       refine ⟨v5, ⟨?_⟩⟩
       rw [drops_bad HS.out]
       exact HL.out
     | false =>
      by_cases c2 : (256 : Int) ≤ (ds.length : Int)
      ·
       have c2b : decide ((ds.length : Int) ≥ 256) = true := decide_eq_true c2
       have QC2 := Aside0.mk c2
       clear c2
       go_wp2_with (first | (with_reducible refine wp_label ?_) | (with_reducible refine wp_scope_straight ?_) | (simp only [Exit.noGoto_ret, Exit.noGoto_normal, Exit.noGoto_exit]) | fail)
       go_meet
       case rel =>
        refine ⟨v5, ⟨?_⟩⟩
        have e : m2 - ds.length = 0 := by have := QC2.out; have := Qm2.out; unfold capN at this; omega
        rw [drops_end HS.out e]
        exact HL.out
      ·
       have c2b : decide ((ds.length : Int) ≥ 256) = false := decide_eq_false c2
       have QC2 := Aside0.mk c2
       clear c2
       obtain ⟨D, eD⟩ : ∃ D, wr.heap.size = D := ⟨_, rfl⟩
       have QD := Aside0.mk eD
       obtain ⟨wd, ewd⟩ : ∃ wd, (wr.alloc (.cells #[.int .i64 0] 3)).setCell ⟨D, 0, none⟩ (.int .i64 0) = wd := ⟨_, rfl⟩
       have hS := HL.out.S
       have D0 : (wr.alloc (.cells #[.int .i64 0] 3)).heap[D]? = some (.cells #[.int .i64 0] 3 (0, 0)) := by rw [← eD]; exact blk_new _ _
       have D1 : wd.heap[D]? = some (.cells #[.int .i64 0] 3 (0, 0)) := by rw [← ewd]; exact blk_put D0 0 _ rfl
       have Dh : ∀ j, j < wr.heap.size → wd.heap[j]? = wr.heap[j]? := fun j hj => by rw [← ewd]; exact (Below.heap_setCell _ _ _ j (by dsimp only; omega)).trans (Below.heap_alloc _ _ _ hj)
       have Db : Below 0 wr wd := by rw [← ewd]; exact Below.setCell (Below.lower0 (below_alloc (Below.refl _ _) _) (Nat.zero_le _)) (Nat.zero_le _) _
       have R1 : wd.heap[g + 1]? = some (.cells #[.slice A b.length c, .int .i64 (a : Int), .bool false] 83 (0, 0)) := (Dh _ (by omega)).trans HL.out.R
       have P3 := nums_lit k (g + 1) [⟨D, 0, none⟩] A c b a false wd R1 (by
        intro p hp
        simp only [List.mem_singleton] at hp
        subst hp
        exact ⟨by dsimp only; omega, int_blk D1 rfl⟩)
        (fun W' hW => QC0.out W' (Kept.then_ (⟨Nat.le_trans HL.out.B.size Db.size, fun j hj _ => (Dh j (by have := Qg.out; omega)).trans (HL.out.B.block j (by have := Qg.out; omega))⟩ : Kept w wd (fun q => w.heap.size ≤ q)) hW (fun q hq => Or.inr (by
         rw [Qg.out]
         rcases hq with e | ⟨p, hp, e⟩
         · omega
         ·
          simp only [List.mem_singleton] at hp
          subst hp
          dsimp only at e
          omega)))) hc Qt.out HA.out (by simp only [List.length_cons, List.length_nil]; omega)
       simp only [List.map_cons, List.map_nil, List.length_cons, List.length_nil, Nat.zero_add, Nat.reduceAdd] at P3
       have QP3 := Aside0.mk P3
       have QD1 := Aside0.mk D1
       have QDh := Aside0.mk Dh
       have QDb := Aside0.mk Db
       have d0 : (wr.alloc (.cells #[.int .i64 0] 3)).cell? ⟨D, 0, none⟩ = some (.int .i64 0) := (blk_cell D0 0).trans rfl
       have fd0 := blk_frozen D0 0
       clear P3 D0 D1 Dh Db R1 hS
       go_wp2_with (first
        | (with_reducible refine wp_label ?_) | (with_reducible refine wp_scope_straight ?_) | (simp only [Exit.noGoto_ret, Exit.noGoto_normal, Exit.noGoto_exit])
        | (
         go_at_call 51
         with_reducible refine QP3.out.mono ?_
         rintro e x3 ⟨rfl, N3⟩
         obtain ⟨HG, HD⟩ := HL.out.numsD rfl QD.out QDh.out QDb.out QD1.out N3
         obtain ⟨dn, edn⟩ : ∃ dn, numsS k b 1 a = dn := ⟨_, rfl⟩
         rw [edn] at HG HD
         rw [Bool.false_or] at HG
         obtain ⟨dv, edv⟩ : ∃ dv, dn.1.getD 0 0 = dv := ⟨_, rfl⟩
         rw [edv] at HD
         have HG3 := Aside0.mk HG
         have Qdn := Aside0.mk edn
         have Qdv := Aside0.mk edv
         have cE5 : x3.cell? ⟨g + 1 + 1, 5, none⟩ = some v5 := (blk_cell HG.E 5).trans rfl
         have cD : x3.cell? ⟨D, 0, none⟩ = some (.int .i64 dv) := (blk_cell HD 0).trans rfl
         clear HG HD edn edv N3 QP3 d0 fd0)
        | (
         (with_reducible refine gate_builtin (b := .append) (xs := #[.tmp 60, .tmp 62]) rfl ?_)
         at_builtin
         refine Kd.R_append (Kd.int .i64) (w0 := w) (W := x3) g rfl (.tmp 60) (.tmp 62) 23 3 (.int .i64 0) 8 rfl Try.underlying23 info3 rfl (by decide) (by omega) v5 ds dv [.int .i64 dv] (fun q => q ≠ g + 1 + 1 + 1) (fun _ => False) rfl rfl rfl (fun _ h => h.elim) (fun q hq => by have := HG3.out.S; omega) HG3.out.D HG3.out.B (by have := HG3.out.S; omega) (by have := QC2.out; omega) ?_
         intro v1 w2 ho hb hg2 hat
         generalize ezs : ds ++ [dv] = zs at ho
         have EZ := Aside0.mk ezs
         clear ezs
         obtain ⟨A2, cc2, ev2⟩ := Kd.R_slice ho
         subst ev2
         have HG4 := Aside0.mk (HG3.out.app5 ho hb hg2)
         have HE2 := blk_grown HG3.out.E hg2 (Kd.R_ne HG3.out.D HG3.out.E (by decide))
         have c5 : w2.cell? ⟨g + 1 + 1, 5, none⟩ = some v5 := (blk_cell HE2 5).trans rfl
         have f5 := blk_frozen HE2 5
         clear ho hb hg2 hat HE2 cE5 cD))
       generalize w2.setCell ⟨g + 1 + 1, 5, none⟩ (.slice A2 zs.length cc2) = w3' at HG4 ⊢
       have hz := snoc_len EZ.out
       have hcap := cap_lt Qm2.out QC1.out (by first | exact QC2.out | exact Int.not_le.1 QC2.out)
       rw [wrap_succ hz (by first | exact QC2.out | exact Int.not_le.1 QC2.out)]
       refine ⟨⟨zs, dn.2.1, !dn.2.2, _, rfl, ⟨hz ▸ hcap⟩, ⟨?_⟩, ⟨drops_round HS.out Qdn.out Qdv.out EZ.out hcap⟩, HG4⟩, meas_lt hz hcap⟩
       rw [← Qdn.out]
       exact numsS_at Qt.out 1 a HA.out
    ·
     have c1b : decide ((ds.length : Int) < n2) = false := decide_eq_false c1
     have QC1 := Aside0.mk c1
     clear c1
     go_wp2_with (first | (with_reducible refine wp_label ?_) | (with_reducible refine wp_scope_straight ?_) | (simp only [Exit.noGoto_ret, Exit.noGoto_normal, Exit.noGoto_exit]) | fail)
     go_meet
     case rel =>
      refine ⟨v5, ⟨?_⟩⟩
      have e : m2 - ds.length = 0 := by have := QC1.out; have := Qm2.out; unfold capN at this; omega
      rw [drops_end HS.out e]
      exact HL.out
  case rest =>
   obtain ⟨v5, HL⟩ := hcut
   have eG : getS k b = ⟨h.1, tb.1, db.1, db.2.1, db.2.2⟩ := by
    unfold getS
    dsimp only
    rw [Qh.out, Qn.out, Qtb.out, Qnn.out, Qn2.out, Qbad2.out, Qm2.out, Qdb.out]
   have H := QH.out
   rw [eG] at H
   dsimp only at H
   obtain ⟨ey0, ey1, ey2, ey3⟩ := Qy.out
   rw [ey0, ey1, ey2, ey3] at H
   clear eG ey0 ey1 ey2 ey3 QH QSD Qdb Qtb Qnn Qn2 Qbad2 Qm2 Qm Qh Qn Qy
   obtain ⟨ds, da, dbad⟩ := db
   obtain ⟨ts, ta, tbad⟩ := tb
   dsimp only at H HL
   have o_ := cells6 HL.out.O
   obtain ⟨o0, o1, o2, o3, o4, o5⟩ := o_
   have fo0 := blk_frozen HL.out.O 0
   have fo1 := blk_frozen HL.out.O 1
   have fo2 := blk_frozen HL.out.O 2
   have fo3 := blk_frozen HL.out.O 3
   have fo4 := blk_frozen HL.out.O 4
   have fo5 := blk_frozen HL.out.O 5
   obtain ⟨_, _, r2⟩ := cells3 HL.out.R
   have HO := Aside0.mk HL.out.O
   have HBB := Aside0.mk HL.out.B
   cases dbad with
   | true =>
    rw [if_pos rfl] at H
    simp only [Option.some.injEq, Prod.mk.injEq] at H
    obtain ⟨rfl, rfl, rfl, rfl, rfl, rfl, rfl⟩ := H
    go_wp2_with (first | (with_reducible refine wp_label ?_) | (with_reducible refine wp_scope_straight ?_) | (simp only [Exit.noGoto_ret, Exit.noGoto_normal, Exit.noGoto_exit]) | fail)
    refine bodyPost_ret (results_ct rfl _ _ g 25 (ecells 0 0 0 0 (.slice none 0 0) (.slice none 0 0)) (0, 0) _ rfl (by
     refine blk_put (cs := ecells 0 0 0 0 (.slice none 0 0) (.slice none 0 0)) ?_ 5 _ rfl
     refine blk_put (cs := ecells 0 0 0 0 (.slice none 0 0) (.slice none 0 0)) ?_ 4 _ rfl
     refine blk_put (cs := ecells 0 0 0 0 (.slice none 0 0) (.slice none 0 0)) ?_ 3 _ rfl
     refine blk_put (cs := ecells 0 0 0 0 (.slice none 0 0) (.slice none 0 0)) ?_ 2 _ rfl
     refine blk_put (cs := ecells 0 0 0 0 (.slice none 0 0) (.slice none 0 0)) ?_ 1 _ rfl
     refine blk_put (cs := ecells 0 0 0 0 (.slice none 0 0) (.slice none 0 0)) ?_ 0 _ rfl
     exact HO.out) Try.underlying25 rfl (by kernel_rfl)) rfl ?_
    have HW0 : OTD g w (.slice none 0 0) (.slice none 0 0) [] [] _ := ⟨⟨_, HO.out⟩, Kd.R_nil _ _ _ _ _, Kd.R_nil _ _ _ _ _, HBB.out⟩
    have HW := ((((((HW0.set 0 (.int .i64 0)).set 1 (.int .i64 0)).set 2 (.int .i64 0)).set 3 (.int .i64 0)).set 4 (.slice none 0 0)).set 5 (.slice none 0 0))
    exact ⟨_, _, rfl, HW.T, HW.D, HW.B⟩
   | false =>
    rw [if_neg Bool.false_ne_true] at H
    by_cases cl : b.length = 0
    ·
     rw [if_pos cl] at H
     simp only [Option.some.injEq, Prod.mk.injEq] at H
     obtain ⟨rfl, rfl, rfl, rfl, rfl, rfl, rfl⟩ := H
     have pl : (((b.length : Nat) : Int) == 0) = true := by rw [cl]; rfl
     have Qcl := Aside0.mk cl
     clear cl
     go_wp2_with (first | (with_reducible refine wp_label ?_) | (with_reducible refine wp_scope_straight ?_) | (simp only [Exit.noGoto_ret, Exit.noGoto_normal, Exit.noGoto_exit]) | fail)
     refine bodyPost_ret (results_ct rfl _ _ g 25 (ecells 0 0 0 0 (.slice none 0 0) (.slice none 0 0)) (0, 0) _ rfl (by
      refine blk_put (cs := ecells 0 0 0 0 (.slice none 0 0) (.slice none 0 0)) ?_ 5 _ rfl
      refine blk_put (cs := ecells 0 0 0 0 (.slice none 0 0) (.slice none 0 0)) ?_ 4 _ rfl
      refine blk_put (cs := ecells 0 0 0 0 (.slice none 0 0) (.slice none 0 0)) ?_ 3 _ rfl
      refine blk_put (cs := ecells 0 0 0 0 (.slice none 0 0) (.slice none 0 0)) ?_ 2 _ rfl
      refine blk_put (cs := ecells 0 0 0 0 (.slice none 0 0) (.slice none 0 0)) ?_ 1 _ rfl
      refine blk_put (cs := ecells 0 0 0 0 (.slice none 0 0) (.slice none 0 0)) ?_ 0 _ rfl
      exact HO.out) Try.underlying25 rfl (by kernel_rfl)) rfl ?_
     have HW0 : OTD g w (.slice none 0 0) (.slice none 0 0) [] [] _ := ⟨⟨_, HO.out⟩, Kd.R_nil _ _ _ _ _, Kd.R_nil _ _ _ _ _, HBB.out⟩
     have HW := ((((((HW0.set 0 (.int .i64 0)).set 1 (.int .i64 0)).set 2 (.int .i64 0)).set 3 (.int .i64 0)).set 4 (.slice none 0 0)).set 5 (.slice none 0 0))
     exact ⟨_, _, rfl, HW.T, HW.D, HW.B⟩
    ·
     rw [if_neg cl] at H
     have pl : (((b.length : Nat) : Int) == 0) = false := by rw [beq_eq_false_iff_ne]; omega
     have Qcl := Aside0.mk cl
     clear cl
     obtain ⟨p, hp, H⟩ := Option.bind_eq_some_iff.1 H
     obtain ⟨t, hq, H⟩ := Option.bind_eq_some_iff.1 H
     obtain ⟨A4, c4, e4⟩ := Kd.R_slice HL.out.T
     subst e4
     obtain ⟨A5, c5, e5⟩ := Kd.R_slice HL.out.D
     subst e5
     have QHp := Aside0.mk hp
     have QHq := Aside0.mk hq
     have QHf := Aside0.mk H
     clear hp hq H
     have e_ := cells6 HL.out.E
     obtain ⟨u0, u1, u2, u3, u4, u5⟩ := e_
     cases t with
     | true =>
      rw [if_pos rfl] at QHf
      have H := QHf.out
      simp only [Option.some.injEq, Prod.mk.injEq] at H
      obtain ⟨rfl, rfl, rfl, rfl, rfl, rfl, rfl⟩ := H
      go_wp2_with (first
       | (with_reducible refine wp_label ?_) | (with_reducible refine wp_scope_straight ?_) | (simp only [Exit.noGoto_ret, Exit.noGoto_normal, Exit.noGoto_exit])
       | (
        go_at_call 21
        with_reducible refine (edit_Put.calls k x0 y1 y2 y3 A4 c4 ts A5 c5 ds p _ (Kd.R_reads' HL.out.T).2.2 (Kd.R_reads' HL.out.T).2.1 (Kd.R_reads' HL.out.D).2.2 (Kd.R_reads' HL.out.D).2.1 QHp.out).mono ?_
        rintro e x4 ⟨vp, rfl, hp, hb⟩
        obtain ⟨Ap, cp, ep⟩ := Kd.R_slice hp
        subst ep
        have HP := Aside0.mk hp
        have HXB := Aside0.mk (HL.out.B.trans (Below.lower0 hb (by have := HL.out.S; omega)))
        have HCb := Aside0.mk (QC0.out x4 (Kept.of_below (by rw [Qg.out]; exact HXB.out) _))
        have HXE := Aside0.mk (blk_below HL.out.E hb)
        have HXO := Aside0.mk (blk_below HL.out.O hb)
        have HXT := Aside0.mk (Kd.R_below HL.out.T hb)
        have HXD := Aside0.mk (Kd.R_below HL.out.D hb)
        clear hp hb u0 u1 u2 u3 u4 u5 o0 o1 o2 o3 o4 o5 fo0 fo1 fo2 fo3 fo4 fo5 HO HBB r2)
       | (
        go_at_call 53
        with_reducible refine (slices_Equal_byte_byte.calls k Ap cp p A c b true _ (Kd.R_reads' HP.out).2.2 (Kd.R_reads' HP.out).2.1 HCb.out hc QHq.out).mono ?_
        rintro e x5 ⟨rfl, nd, rfl⟩
        have HYE := Aside0.mk (blk_drewN HXE.out nd)
        have HYO := Aside0.mk (blk_drewN HXO.out nd)
        have HYT := Aside0.mk (Kd.R_drewN HXT.out nd)
        have HYD := Aside0.mk (Kd.R_drewN HXD.out nd)
        have HYB := Aside0.mk (pw_below_drewN HXB.out nd)
        clear HXE HXO HXT HXD HXB HCb HP
        generalize x4.drewN nd = x5 at HYE HYO HYT HYD HYB ⊢
        have e_ := cells6 HYE.out
        obtain ⟨u0, u1, u2, u3, u4, u5⟩ := e_
        have o_ := cells6 HYO.out
        obtain ⟨o0, o1, o2, o3, o4, o5⟩ := o_
        have fo0 := blk_frozen HYO.out 0
        have fo1 := blk_frozen HYO.out 1
        have fo2 := blk_frozen HYO.out 2
        have fo3 := blk_frozen HYO.out 3
        have fo4 := blk_frozen HYO.out 4
        have fo5 := blk_frozen HYO.out 5))
      refine bodyPost_ret (results_ct rfl _ _ g 25 (ecells x0 y1 y2 y3 (.slice A4 ts.length c4) (.slice A5 ds.length c5)) (0, 0) _ rfl (by
       refine blk_put (cs := ecells x0 y1 y2 y3 (.slice A4 ts.length c4) (.slice none 0 0)) ?_ 5 _ rfl
       refine blk_put (cs := ecells x0 y1 y2 y3 (.slice none 0 0) (.slice none 0 0)) ?_ 4 _ rfl
       refine blk_put (cs := ecells x0 y1 y2 0 (.slice none 0 0) (.slice none 0 0)) ?_ 3 _ rfl
       refine blk_put (cs := ecells x0 y1 0 0 (.slice none 0 0) (.slice none 0 0)) ?_ 2 _ rfl
       refine blk_put (cs := ecells x0 0 0 0 (.slice none 0 0) (.slice none 0 0)) ?_ 1 _ rfl
       refine blk_put (cs := ecells 0 0 0 0 (.slice none 0 0) (.slice none 0 0)) ?_ 0 _ rfl
       exact HYO.out) Try.underlying25 rfl (by kernel_rfl)) rfl ?_
      have HW0 : OTD g w (.slice A4 ts.length c4) (.slice A5 ds.length c5) ts ds x5 := ⟨⟨_, HYO.out⟩, HYT.out, Kd.R_mono HYD.out (fun _ _ => trivial), HYB.out⟩
      have HW := ((((((HW0.set 0 (.int .i64 x0)).set 1 (.int .i64 y1)).set 2 (.int .i64 y2)).set 3 (.int .i64 y3)).set 4 (.slice A4 ts.length c4)).set 5 (.slice A5 ds.length c5))
      exact ⟨_, _, rfl, HW.T, HW.D, HW.B⟩
     | false =>
      rw [if_neg Bool.false_ne_true] at QHf
      have H := QHf.out
      simp only [Option.some.injEq, Prod.mk.injEq] at H
      obtain ⟨rfl, rfl, rfl, rfl, rfl, rfl, rfl⟩ := H
      go_wp2_with (first
       | (with_reducible refine wp_label ?_) | (with_reducible refine wp_scope_straight ?_) | (simp only [Exit.noGoto_ret, Exit.noGoto_normal, Exit.noGoto_exit])
       | (
        go_at_call 21
        with_reducible refine (edit_Put.calls k x0 y1 y2 y3 A4 c4 ts A5 c5 ds p _ (Kd.R_reads' HL.out.T).2.2 (Kd.R_reads' HL.out.T).2.1 (Kd.R_reads' HL.out.D).2.2 (Kd.R_reads' HL.out.D).2.1 QHp.out).mono ?_
        rintro e x4 ⟨vp, rfl, hp, hb⟩
        obtain ⟨Ap, cp, ep⟩ := Kd.R_slice hp
        subst ep
        have HP := Aside0.mk hp
        have HXB := Aside0.mk (HL.out.B.trans (Below.lower0 hb (by have := HL.out.S; omega)))
        have HCb := Aside0.mk (QC0.out x4 (Kept.of_below (by rw [Qg.out]; exact HXB.out) _))
        have HXE := Aside0.mk (blk_below HL.out.E hb)
        have HXO := Aside0.mk (blk_below HL.out.O hb)
        have HXT := Aside0.mk (Kd.R_below HL.out.T hb)
        have HXD := Aside0.mk (Kd.R_below HL.out.D hb)
        clear hp hb u0 u1 u2 u3 u4 u5 o0 o1 o2 o3 o4 o5 fo0 fo1 fo2 fo3 fo4 fo5 HO HBB r2)
       | (
        go_at_call 53
        with_reducible refine (slices_Equal_byte_byte.calls k Ap cp p A c b false _ (Kd.R_reads' HP.out).2.2 (Kd.R_reads' HP.out).2.1 HCb.out hc QHq.out).mono ?_
        rintro e x5 ⟨rfl, nd, rfl⟩
        have HYE := Aside0.mk (blk_drewN HXE.out nd)
        have HYO := Aside0.mk (blk_drewN HXO.out nd)
        have HYT := Aside0.mk (Kd.R_drewN HXT.out nd)
        have HYD := Aside0.mk (Kd.R_drewN HXD.out nd)
        have HYB := Aside0.mk (pw_below_drewN HXB.out nd)
        clear HXE HXO HXT HXD HXB HCb HP
        generalize x4.drewN nd = x5 at HYE HYO HYT HYD HYB ⊢
        have e_ := cells6 HYE.out
        obtain ⟨u0, u1, u2, u3, u4, u5⟩ := e_
        have o_ := cells6 HYO.out
        obtain ⟨o0, o1, o2, o3, o4, o5⟩ := o_
        have fo0 := blk_frozen HYO.out 0
        have fo1 := blk_frozen HYO.out 1
        have fo2 := blk_frozen HYO.out 2
        have fo3 := blk_frozen HYO.out 3
        have fo4 := blk_frozen HYO.out 4
        have fo5 := blk_frozen HYO.out 5))
      refine bodyPost_ret (results_ct rfl _ _ g 25 (ecells 0 0 0 0 (.slice none 0 0) (.slice none 0 0)) (0, 0) _ rfl (by
       refine blk_put (cs := ecells 0 0 0 0 (.slice none 0 0) (.slice none 0 0)) ?_ 5 _ rfl
       refine blk_put (cs := ecells 0 0 0 0 (.slice none 0 0) (.slice none 0 0)) ?_ 4 _ rfl
       refine blk_put (cs := ecells 0 0 0 0 (.slice none 0 0) (.slice none 0 0)) ?_ 3 _ rfl
       refine blk_put (cs := ecells 0 0 0 0 (.slice none 0 0) (.slice none 0 0)) ?_ 2 _ rfl
       refine blk_put (cs := ecells 0 0 0 0 (.slice none 0 0) (.slice none 0 0)) ?_ 1 _ rfl
       refine blk_put (cs := ecells 0 0 0 0 (.slice none 0 0) (.slice none 0 0)) ?_ 0 _ rfl
       exact HYO.out) Try.underlying25 rfl (by kernel_rfl)) rfl ?_
      have HW0 : OTD g w (.slice none 0 0) (.slice none 0 0) [] [] _ := ⟨⟨_, HYO.out⟩, Kd.R_nil _ _ _ _ _, Kd.R_nil _ _ _ _ _, HYB.out⟩
      have HW := ((((((HW0.set 0 (.int .i64 0)).set 1 (.int .i64 0)).set 2 (.int .i64 0)).set 3 (.int .i64 0)).set 4 (.slice none 0 0)).set 5 (.slice none 0 0))
      exact ⟨_, _, rfl, HW.T, HW.D, HW.B⟩
theorem edit_Get.calls (k : Nat) (A0 : Option Addr) (c0 : Nat) (l0 : List Int) (r1 r2 r3 r4 : Int) (r5 : List (S31)) (r6 : List Int) (r7 : Bool) (w : World) (hr0 : Kd.C (Kd.int .u8) w A0 l0.length l0) (hc0 : l0.length ≤ c0) (h : edit_Get.f k l0 = some (r1, r2, r3, r4, r5, r6, r7)) :
 Calls Try.prog 17 #[.slice A0 l0.length c0] w fun e w' => ∃ v1_ v2_ : Value, e = .returned (.tuple #[.agg #[.int .i64 r1, .int .i64 r2, .int .i64 r3, .int .i64 r4, v1_, v2_], .bool r7]) ∧ Kd.R k31 31 w' w.heap.size (fun _ => True) v1_ r5 ∧ Kd.R (Kd.int .i64) 3 w' w.heap.size (fun _ => True) v2_ r6 ∧ Below w.heap.size w w' := by
 unfold edit_Get.f at h
 by_cases ht : tot k l0 = true
 ·
  rw [if_pos ht] at h
  exact get_x k A0 c0 l0 w hr0 hc0 ht r1 r2 r3 r4 r5 r6 r7 h
 · rw [if_neg ht] at h; cases h

end Go.Proofs.Ytffnimaaolmbdaa.PEditBack
