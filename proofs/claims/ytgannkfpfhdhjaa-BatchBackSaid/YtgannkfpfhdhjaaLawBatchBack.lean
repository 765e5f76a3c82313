/- The functions that a law reaches, as Lean functions, each with the contract that its Go code comes to just these answers. Written by a program of this claim's author (wip/mkprint.py). No conditions. -/
import Derived.Test.YtgannkfpfhdhjaaRows
import Derived.Test.YtgannkfpfhdhjaaPBatchBackx7
import Derived.Test.YtgannkfpfhdhjaaPureBatchBack
import Derived.WalkKit
import Derived.ProofKit
import Derived.OpenShut
import Derived.ShutString
import Derived.ChangeOld
import Derived.Below
import Derived.SizedLaws
import Derived.Deep.Slices
import Derived.ChangeArms
import Derived.Test.YtgannkfpfhdhjaaWSized
namespace Go.Proofs.Ytgannkfpfhdhjaa.batchBack
open Go.ChangeShapes Go.WideShapes Go.ChangeAt Go.RowKit
open Go.ChangeMaps (open_string shut_string)
set_option linter.unusedVariables false
theorem own : ownKnob Try.prog.godebug = none := by kernel_rfl
theorem laidOut : laidOutB Try.prog = true := by kernel_rfl
def IsRow (k : IntKind) (w : World) (a : Option Addr) (len cap : Nat) (zs : List Int) : Prop :=
  (a = none ∧ len = 0 ∧ cap = 0 ∧ zs = []) ∨
  ∃ x, a = some x ∧ len ≤ cap ∧ cap ≤ maxLen ∧ zs.length = cap ∧ (∀ i, i < zs.length → w.cell? (x.add i) = some (.int k (zs.getD i 0))) ∧ ∀ n ∈ zs, (Lit.int k n).wf = true
open Go.Proofs.Ytgannkfpfhdhjaa.PBatchBack Go.Proofs.YtgannkfpfhdhjaaW.PrintWords Go.Proofs.YtgannkfpfhdhjaaW.PrintLast Go.Proofs.YtgannkfpfhdhjaaW.PrintMore
/-! ### WHAT CAME IN, OPENED BY ITS KIND: of any datum that is read at a type, the value that a kind tells of its cells -/
section
open Go.Deep
theorem list_of_each {α : Type} {p : Nat → α → Prop} : ∀ n : Nat, (∀ i, i < n → ∃ v, p i v) → ∃ xs : List α, xs.length = n ∧ ∀ i v, xs[i]? = some v → p i v
  | 0, _ => ⟨[], rfl, fun i v h => by simp at h⟩
  | k + 1, each => by
    obtain ⟨xs, hxl, hxs⟩ := list_of_each k (fun i hi => each i (by omega))
    obtain ⟨v, hv⟩ := each k (by omega)
    refine ⟨xs ++ [v], by simp [hxl], fun i u hu => ?_⟩
    by_cases hi : i < xs.length
    · rw [List.getElem?_append_left hi] at hu; exact hxs i u hu
    · rw [List.getElem?_append_right (by omega)] at hu
      have h0 : i - xs.length = 0 := by
        rcases Nat.eq_zero_or_pos (i - xs.length) with h | h
        · exact h
        · rw [List.getElem?_eq_none (by simp; omega)] at hu; cases hu
      rw [h0] at hu
      obtain rfl := Option.some.inj hu
      rw [show i = k by omega]; exact hv
/-- At type t each datum that came in is a value of the kind d, and is as WF says. -/
def Opens {α : Type} (d : Kd α) (WF : α → Prop) (P : Program) (t : TypeId) : Prop :=
  P.cellsOf t = d.sz ∧ ∀ {H : Type} {enc : TypeId × Value → H} {w : World} {base : Nat} {spare : Nat → Bool} {held : Bool} {fuel : Nat} {cs : List Value} {x : DataW H × List MemPlace},
    DataW.trod enc P w base spare held fuel t cs = some x → ∃ v : α, d.K w v cs ∧ WF v
variable {P : Program} {t : TypeId}
theorem Opens.int {k : IntKind} (ht : P.underlying t = some (.int k)) (hc : P.cellsOf t = 1) : Opens (Kd.int k) (fun n => (Lit.int k n).wf = true) P t :=
  ⟨hc, fun h => by obtain ⟨n, rfl, _, hw⟩ := DataW.trod_int ht h; exact ⟨n, rfl, hw⟩⟩
theorem Opens.string (ht : P.underlying t = some .string) (hc : P.cellsOf t = 1) : Opens Kd.string (fun s => s.size ≤ maxLen) P t :=
  ⟨hc, fun h => by obtain ⟨s, rfl, _, hw⟩ := DataW.trod_string ht h; exact ⟨s, rfl, hw⟩⟩
theorem Opens.bool (ht : P.underlying t = some .bool) (hc : P.cellsOf t = 1) : Opens Kd.bool (fun _ => True) P t :=
  ⟨hc, fun h => by obtain ⟨b, rfl, _⟩ := DataW.trod_bool ht h; exact ⟨b, rfl, trivial⟩⟩
theorem Opens.iso {α β : Type} {d : Kd α} {WF : α → Prop} (f : β → α) (g : α → β) (hg : ∀ a, f (g a) = a) (h : Opens d WF P t) : Opens (Kd.iso d f) (fun b => WF (f b)) P t :=
  ⟨h.1, fun hx => by obtain ⟨v, hv, hw⟩ := h.2 hx; exact ⟨g v, by show d.K _ (f (g v)) _; rw [hg]; exact hv, by show WF (f (g v)); rw [hg]; exact hw⟩⟩
theorem Opens.slice {α : Type} {d : Kd α} {WF : α → Prop} {e : TypeId} (ht : P.underlying t = some (.slice e)) (hc : P.cellsOf t = 1) (he : Opens d WF P e) :
    Opens (Kd.slice e d) (fun xs => xs.length ≤ maxLen ∧ ∀ x ∈ xs, WF x) P t := by
  refine ⟨hc, fun {H enc w base spare held fuel cs x} h => ?_⟩
  rcases open_slice ht h with ⟨rfl, _⟩ | ⟨a, len, cap, m, n, D, Pl, rfl, hb, hl, hm, hmm, _, hx⟩
  · exact ⟨[], ⟨none, 0, rfl, Nat.le_refl _, rfl, Nat.zero_le _, fun h => by simp at h⟩, Nat.zero_le _, fun x hx => by simp at hx⟩
  · have hlm : len ≤ m := by rw [hmm]; split <;> omega
    have each : ∀ i, i < len → ∃ v : α, (∃ cs', w.cells? base (a.add (i * P.cellsOf e)) (P.cellsOf e) = some cs' ∧ d.K w v cs') ∧ WF v := by
      intro i hi
      obtain ⟨cs', h1, h2⟩ := hx i (by omega)
      obtain ⟨v, hv, hw⟩ := he.2 h2
      exact ⟨v, ⟨cs', h1, hv⟩, hw⟩
    obtain ⟨xs, hxl, hxs⟩ := list_of_each len each
    refine ⟨xs, ⟨some a, cap, by rw [hxl], by omega, rfl, ?_, fun _ => ⟨a, rfl, fun j p hp => ?_⟩⟩, by show xs.length ≤ maxLen; omega, fun x hx => ?_⟩
    · have : maxLen ≤ 9223372036854775807 := by decide
      omega
    · obtain ⟨⟨cs', h1, h2⟩, _⟩ := hxs j p hp
      obtain ⟨_, hlen, hcell⟩ := World.cells?_some h1
      refine ⟨cs', d.K_len h2, h2, fun i u hu => ?_⟩
      have hi : i < cs'.length := by
        rcases Nat.lt_or_ge i cs'.length with h | h
        · exact h
        · rw [List.getElem?_eq_none h] at hu; cases hu
      have := hcell i (by omega)
      rw [← he.1]
      rw [Go.Deep.add_add] at this
      rw [this]; exact hu
    · obtain ⟨i, hi⟩ := List.getElem?_of_mem hx
      exact (hxs i x hi).2
/-- Fields side by side: each field's cells are read at its type. -/
def OpensF {α : Type} (d : Kd α) (WF : α → Prop) (P : Program) (fs : List Field) (off : Nat) : Prop :=
  ∀ {H : Type} {enc : TypeId × Value → H} {w : World} {base : Nat} {spare : Nat → Bool} {held : Bool} {fuel : Nat} {cs : List Value}, cs.length = d.sz →
    (∀ f ∈ fs, ∃ x : DataW H × List MemPlace, DataW.trod enc P w base spare held fuel f.type ((cs.drop (f.offset - off)).take (P.cellsOf f.type)) = some x) →
    (∀ f ∈ fs, off ≤ f.offset) → ∃ v : α, d.K w v cs ∧ WF v
theorem OpensF.one {α : Type} {d : Kd α} {WF : α → Prop} {f : Field} {off : Nat} (ho : f.offset = off) (h : Opens d WF P f.type) : OpensF d WF P [f] off := by
  intro H enc w base spare held fuel cs hl hx _
  obtain ⟨x, hx⟩ := hx f (by simp)
  rw [ho, Nat.sub_self, List.drop_zero, h.1, ← hl, List.take_length] at hx
  exact h.2 hx
theorem OpensF.more {α β : Type} {d : Kd α} {d2 : Kd β} {WF : α → Prop} {WF2 : β → Prop} {f : Field} {fs : List Field} {off off2 : Nat} (ho : f.offset = off) (h : Opens d WF P f.type)
    (h2 : OpensF d2 WF2 P fs off2) (e : off2 = off + d.sz) (hoff : ∀ g ∈ fs, off2 ≤ g.offset) : OpensF (Kd.pair d d2) (fun v => WF v.1 ∧ WF2 v.2) P (f :: fs) off := by
  subst e
  intro H enc w base spare held fuel cs hl hx _
  have hl' : cs.length = d.sz + d2.sz := hl
  obtain ⟨x, hx0⟩ := hx f (by simp)
  rw [ho, Nat.sub_self, List.drop_zero, h.1] at hx0
  obtain ⟨v, hv, hw⟩ := h.2 hx0
  obtain ⟨u, hu, hwu⟩ := h2 (enc := enc) (w := w) (base := base) (spare := spare) (held := held) (fuel := fuel) (cs := cs.drop d.sz) (by rw [List.length_drop]; omega)
    (fun g hg => by
      obtain ⟨y, hy⟩ := hx g (List.mem_cons_of_mem _ hg)
      have := hoff g hg
      refine ⟨y, ?_⟩
      rw [List.drop_drop, show d.sz + (g.offset - (off + d.sz)) = g.offset - off by omega]; exact hy) hoff
  exact ⟨(v, u), ⟨cs.take d.sz, cs.drop d.sz, (List.take_append_drop _ _).symm, hv, hu⟩, hw, hwu⟩
theorem Opens.struct {α : Type} {d : Kd α} {WF : α → Prop} {fs : Array Field} (ht : P.underlying t = some (.struct fs)) (hc : P.cellsOf t = d.sz) (h : OpensF d WF P fs.toList 0) : Opens d WF P t :=
  ⟨hc, fun {H enc w base spare held fuel cs x} hx => by
    obtain ⟨xs, n, _, _, hl, hxl, hf⟩ := DataW.trod_struct ht hx
    refine h (enc := enc) (base := base) (spare := spare) (held := held) (fuel := n) (by rw [hl, hc]) (fun f hf' => ?_) (fun f _ => Nat.zero_le _)
    obtain ⟨i, hi⟩ := List.getElem?_of_mem hf'
    have hi' : i < fs.size := by
      have := (List.getElem?_eq_some_iff.1 hi).1
      simpa using this
    have := hf i f (by simpa using hi)
    rw [Nat.sub_zero, this]
    exact ⟨xs[i]'(by omega), List.getElem?_eq_getElem (by omega)⟩⟩
end

set_option maxRecDepth 100000 in
theorem opens_S27 : Opens k27 WF27 Try.prog 27 := by
  have h := Opens.iso (fun x : S27 => (x.f0, x.f1, x.f2)) (fun a => ⟨a.1, a.2.1, a.2.2⟩) (fun _ => rfl) (Opens.struct (P := Try.prog) (t := 27) Try.underlying27 (by kernel_rfl) (OpensF.more rfl (Opens.int (P := Try.prog) (t := 3) Try.underlying3 (by kernel_rfl)) (OpensF.more rfl (Opens.string (P := Try.prog) (t := 9) Try.underlying9 (by kernel_rfl)) (OpensF.one rfl (Opens.string (P := Try.prog) (t := 9) Try.underlying9 (by kernel_rfl))) rfl (by decide)) rfl (by decide)))
  exact ⟨h.1, fun hx => h.2 hx⟩
set_option maxRecDepth 100000 in
theorem lifted (os : Os) (started : os.Started) (H : Type) (enc : TypeId × Value → H) :
    ReturnsInHanded {} Try.checked os 5 .any (Rows.batchBackSpec.pre6 enc Try.prog Try.f5 Rows.batchBackRow.domain false) (Rows.batchBackSpec.post enc Try.prog Try.f5 false true false false) := by
  refine returnsInHanded_of_change_sized (C := Try.checked) own started (by kernel_rfl) Try.func5
    (ChangeSpec.witness6 (enc := enc) (C := Try.checked) false ⟨#[], #[.slice none 0 0, .int .u32 0, .slice none 0 0], []⟩ 8 (by kernel_rfl) (by kernel_rfl) (by kernel_rfl) (by kernel_rfl)) ?_
  intro W base args ds gs before hval0 hW hcnd hsz0 _
  have hsz : (DataW.weightsEach Try.prog (Try.f5.params.toList ++ Rows.batchBackSpec.plain.varTypes Try.prog) (ds ++ gs)).all (· ≤ reachBytes) = true := hsz0
  have hval : ∀ (j : Nat) t v, Try.f5.params[j]? = some t → args[j]? = some v → Value.okWide Try.prog W .any base t v := hval0
  have hW' := hW
  obtain ⟨p, q, hA0, hV, rfl, hfz, hnd⟩ := hW
  have hA : DataW.TrodAll enc Try.prog W 0 (fun _ => true) true Try.f5.params.toList args.toList ds p := hA0
  rw [Try.params5] at hA hval hsz
  obtain ⟨v0, vs0, d0, ds0, p0, q0, hargs, rfl, rfl, h0, r0⟩ := trodAll_cons hA
  obtain ⟨v1, vs1, d1, ds1, p1, q1, rfl, rfl, rfl, h1, r1⟩ := trodAll_cons r0
  obtain ⟨v2, vs2, d2, ds2, p2, q2, rfl, rfl, rfl, h2, r2⟩ := trodAll_cons r1
  obtain ⟨rfl, rfl, rfl⟩ := trodAll_nil r2
  obtain rfl : args = #[v0, v1, v2] := by cases args; simp_all
  obtain ⟨rfl, rfl⟩ := trodVars_none hV
  obtain ⟨a0, len0, cap0, rfl⟩ := okWide_slice Try.underlying22 (hval 0 22 v0 rfl rfl)
  have k0 := h0
  have lt0 : ∀ x ∈ p0, x.block < W.heap.size := by obtain ⟨m, hm⟩ := k0; exact DataW.trod_lt m _ _ _ hm
  obtain ⟨l0, w0, c0, m0, y0, rfl⟩ : ∃ l : List (S27), Kd.C k27 W a0 l.length l ∧ l.length ≤ cap0 ∧ l.length ≤ maxLen ∧ (∀ x ∈ l, WF27 x) ∧ len0 = l.length := by
    obtain ⟨fuel, hf⟩ := h0
    obtain ⟨l, ⟨A_, c_, he_, hc_, hC_⟩, hm_, hw_⟩ := ((Opens.slice (P := Try.prog) (t := 22) Try.underlying22 (by kernel_rfl) opens_S27)).2 hf
    simp [Value.cells] at he_
    obtain ⟨rfl, rfl, rfl⟩ := he_
    exact ⟨l, hC_, hc_, hm_, hw_, rfl⟩
  obtain ⟨a1, rfl, rfl, rfl, w1⟩ := open_int Try.underlying35 (hval 1 35 v1 rfl rfl) h1
  obtain ⟨a2, len2, cap2, rfl⟩ := okWide_slice Try.underlying33 (hval 2 33 v2 rfl rfl)
  have k2 := h2
  have lt2 : ∀ x ∈ p2, x.block < W.heap.size := by obtain ⟨m, hm⟩ := k2; exact DataW.trod_lt m _ _ _ hm
  obtain ⟨z2, w2⟩ : ∃ zs, IsRow .u8 W a2 len2 cap2 zs := by
    obtain ⟨fuel, hf⟩ := h2
    rcases open_ints Try.underlying33 Try.underlying5 (by kernel_rfl) hf with ⟨hcs, _⟩ | ⟨x, l, c, zs, hcs, _, hl, hm, hz, _, hcell, hwz⟩
    · simp [Value.cells] at hcs
      obtain ⟨rfl, rfl, rfl⟩ := hcs
      exact ⟨[], .inl ⟨rfl, rfl, rfl, rfl⟩⟩
    · simp [Value.cells] at hcs
      obtain ⟨rfl, rfl, rfl⟩ := hcs
      exact ⟨zs, .inr ⟨_, rfl, hl, hm, by simpa using hz, hcell, hwz⟩⟩
  have y2 : len2 * 1 ≤ 140737488351232 := Go.Proofs.YtgannkfpfhdhjaaW.PrintWords.sized_ints hsz (j := 2) (t := 33) rfl rfl Try.underlying33 Try.underlying5 (by kernel_rfl) (by kernel_rfl) h2
  clear hA0 hval0 hsz0 hsz
  refine (PBatchBack.iceboxlaw8_BatchBack.walk Pure.BatchBack a0 cap0 l0 a1 a2 len2 cap2 z2 W w0 c0 m0 y0 w1 w2 y2).mono fun e W' ⟨he, bel⟩ => ?_
  subst he
  exact ⟨_, rfl, _, _, _, [], _, [], hW', trodAll_mk1 (shut_bool Try.underlying4 _), (trodAll_cons_mk (Below.trod laidOut (by kernel_rfl) (of_decide_eq_true (by kernel_rfl)) k0 bel lt0) (trodAll_cons_mk (shut_int Try.underlying35 w1) (trodAll_cons_mk (Below.trod laidOut (by kernel_rfl) (of_decide_eq_true (by kernel_rfl)) k2 bel lt2) trodAll_mk0))), rfl, bel.frame _, fun h => by cases h⟩
theorem over : Rows.batchBackRow.holds Try.pinned (OpenSpec.ofChange Rows.batchBackSpec) :=
  OpenClaim.holds_of_wide 5 Try.f5 rfl rfl rfl rfl rfl rfl rfl ⟨rfl, rfl, rfl, rfl, rfl⟩ rfl rfl rfl rfl rfl (by kernel_rfl) Try.func5 (by kernel_rfl)
    (of_decide_eq_true (by kernel_rfl)) (by unfold Func.isWrapper; first | (rw [if_pos (by decide +kernel)]; kernel_rfl) | (rw [if_neg (by decide +kernel)]; exact ⟨rfl, rfl⟩))
    (fun os started H enc _ => lifted os started H enc)
theorem proved : Rows.BatchBackSaid := over
#print axioms proved
end Go.Proofs.Ytgannkfpfhdhjaa.batchBack
namespace Go.Proofs.Ytgannkfpfhdhjaa
/-- The row, under a short name, for the claim. -/
theorem batchBack_holds : Rows.BatchBackSaid := batchBack.proved
end Go.Proofs.Ytgannkfpfhdhjaa
