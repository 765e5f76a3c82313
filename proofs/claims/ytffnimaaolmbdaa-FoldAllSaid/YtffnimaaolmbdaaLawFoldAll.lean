/- The functions that a law reaches, as Lean functions, each with the contract that its Go code comes to just these answers. Written by a program of this claim's author (wip/mkprint.py). No conditions. -/
import Derived.Test.YtffnimaaolmbdaaRows
import Derived.Test.YtffnimaaolmbdaaPFoldAllx7
import Derived.Test.YtffnimaaolmbdaaPureFoldAll
import Derived.WalkKit
import Derived.ProofKit
import Derived.OpenShut
import Derived.ShutString
import Derived.ChangeOld
import Derived.Below
import Derived.SizedLaws
import Derived.Deep.Slices
import Derived.ChangeArms
import Derived.Test.YtffnimaaolmbdaaXFoldAllSized
namespace Go.Proofs.Ytffnimaaolmbdaa.foldAll
open Go.ChangeShapes Go.WideShapes Go.ChangeAt Go.RowKit
open Go.ChangeMaps (open_string shut_string)
set_option linter.unusedVariables false
theorem own : ownKnob Try.prog.godebug = none := by kernel_rfl
theorem laidOut : laidOutB Try.prog = true := by kernel_rfl
def IsRow (k : IntKind) (w : World) (a : Option Addr) (len cap : Nat) (zs : List Int) : Prop :=
  (a = none ∧ len = 0 ∧ cap = 0 ∧ zs = []) ∨
  ∃ x, a = some x ∧ len ≤ cap ∧ cap ≤ maxLen ∧ zs.length = cap ∧ (∀ i, i < zs.length → w.cell? (x.add i) = some (.int k (zs.getD i 0))) ∧ ∀ n ∈ zs, (Lit.int k n).wf = true
open Go.Proofs.Ytffnimaaolmbdaa.PFoldAll Go.Proofs.YtffnimaaolmbdaaW.PrintWords Go.Proofs.YtffnimaaolmbdaaW.PrintLast Go.Proofs.YtffnimaaolmbdaaW.PrintMore
/-! ### WHAT CAME IN, OPENED BY ITS KIND: of any datum that is read at a type, the value that a kind tells of its cells -/
section
open Go.Deep
theorem list_of_each {α : Type} {p : Nat → α → Prop} : ∀ n : Nat, (∀ i, i < n → ∃ v, p i v) → ∃ xs : List α, xs.length = n ∧ ∀ i v, xs[i]? = some v → p i v
  | 0, _ => ⟨[], rfl, fun i v h => by simp at h⟩
  | k + 1, each => by
    obtain ⟨xs, hxl, hxs⟩ := list_of_each k (fun i hi => each i (by omega))
    obtain ⟨v, hv⟩ := each k (by omega)
    refine ⟨xs ++ [v], by simp [hxl], fun i u hu => ?_⟩
    by_cases hi : i < xs.length
    · rw [List.getElem?_append_left hi] at hu; exact hxs i u hu
    · rw [List.getElem?_append_right (by omega)] at hu
      have h0 : i - xs.length = 0 := by
        rcases Nat.eq_zero_or_pos (i - xs.length) with h | h
        · exact h
        · rw [List.getElem?_eq_none (by simp; omega)] at hu; cases hu
      rw [h0] at hu
      obtain rfl := Option.some.inj hu
      rw [show i = k by omega]; exact hv
/-- At type t each datum that came in is a value of the kind d, and is as WF says. -/
def Opens {α : Type} (d : Kd α) (WF : α → Prop) (P : Program) (t : TypeId) : Prop :=
  P.cellsOf t = d.sz ∧ ∀ {H : Type} {enc : TypeId × Value → H} {w : World} {base : Nat} {spare : Nat → Bool} {held : Bool} {fuel : Nat} {cs : List Value} {x : DataW H × List MemPlace},
    DataW.trod enc P w base spare held fuel t cs = some x → ∃ v : α, d.K w v cs ∧ WF v
variable {P : Program} {t : TypeId}
theorem Opens.int {k : IntKind} (ht : P.underlying t = some (.int k)) (hc : P.cellsOf t = 1) : Opens (Kd.int k) (fun n => (Lit.int k n).wf = true) P t :=
  ⟨hc, fun h => by obtain ⟨n, rfl, _, hw⟩ := DataW.trod_int ht h; exact ⟨n, rfl, hw⟩⟩
theorem Opens.string (ht : P.underlying t = some .string) (hc : P.cellsOf t = 1) : Opens Kd.string (fun s => s.size ≤ maxLen) P t :=
  ⟨hc, fun h => by obtain ⟨s, rfl, _, hw⟩ := DataW.trod_string ht h; exact ⟨s, rfl, hw⟩⟩
theorem Opens.bool (ht : P.underlying t = some .bool) (hc : P.cellsOf t = 1) : Opens Kd.bool (fun _ => True) P t :=
  ⟨hc, fun h => by obtain ⟨b, rfl, _⟩ := DataW.trod_bool ht h; exact ⟨b, rfl, trivial⟩⟩
theorem Opens.iso {α β : Type} {d : Kd α} {WF : α → Prop} (f : β → α) (g : α → β) (hg : ∀ a, f (g a) = a) (h : Opens d WF P t) : Opens (Kd.iso d f) (fun b => WF (f b)) P t :=
  ⟨h.1, fun hx => by obtain ⟨v, hv, hw⟩ := h.2 hx; exact ⟨g v, by show d.K _ (f (g v)) _; rw [hg]; exact hv, by show WF (f (g v)); rw [hg]; exact hw⟩⟩
theorem Opens.slice {α : Type} {d : Kd α} {WF : α → Prop} {e : TypeId} (ht : P.underlying t = some (.slice e)) (hc : P.cellsOf t = 1) (he : Opens d WF P e) :
    Opens (Kd.slice e d) (fun xs => xs.length ≤ maxLen ∧ ∀ x ∈ xs, WF x) P t := by
  refine ⟨hc, fun {H enc w base spare held fuel cs x} h => ?_⟩
  rcases open_slice ht h with ⟨rfl, _⟩ | ⟨a, len, cap, m, n, D, Pl, rfl, hb, hl, hm, hmm, _, hx⟩
  · exact ⟨[], ⟨none, 0, rfl, Nat.le_refl _, rfl, Nat.zero_le _, fun h => by simp at h⟩, Nat.zero_le _, fun x hx => by simp at hx⟩
  · have hlm : len ≤ m := by rw [hmm]; split <;> omega
    have each : ∀ i, i < len → ∃ v : α, (∃ cs', w.cells? base (a.add (i * P.cellsOf e)) (P.cellsOf e) = some cs' ∧ d.K w v cs') ∧ WF v := by
      intro i hi
      obtain ⟨cs', h1, h2⟩ := hx i (by omega)
      obtain ⟨v, hv, hw⟩ := he.2 h2
      exact ⟨v, ⟨cs', h1, hv⟩, hw⟩
    obtain ⟨xs, hxl, hxs⟩ := list_of_each len each
    refine ⟨xs, ⟨some a, cap, by rw [hxl], by omega, rfl, ?_, fun _ => ⟨a, rfl, fun j p hp => ?_⟩⟩, by show xs.length ≤ maxLen; omega, fun x hx => ?_⟩
    · have : maxLen ≤ 9223372036854775807 := by decide
      omega
    · obtain ⟨⟨cs', h1, h2⟩, _⟩ := hxs j p hp
      obtain ⟨_, hlen, hcell⟩ := World.cells?_some h1
      refine ⟨cs', d.K_len h2, h2, fun i u hu => ?_⟩
      have hi : i < cs'.length := by
        rcases Nat.lt_or_ge i cs'.length with h | h
        · exact h
        · rw [List.getElem?_eq_none h] at hu; cases hu
      have := hcell i (by omega)
      rw [← he.1]
      rw [Go.Deep.add_add] at this
      rw [this]; exact hu
    · obtain ⟨i, hi⟩ := List.getElem?_of_mem hx
      exact (hxs i x hi).2
/-- Fields side by side: each field's cells are read at its type. -/
def OpensF {α : Type} (d : Kd α) (WF : α → Prop) (P : Program) (fs : List Field) (off : Nat) : Prop :=
  ∀ {H : Type} {enc : TypeId × Value → H} {w : World} {base : Nat} {spare : Nat → Bool} {held : Bool} {fuel : Nat} {cs : List Value}, cs.length = d.sz →
    (∀ f ∈ fs, ∃ x : DataW H × List MemPlace, DataW.trod enc P w base spare held fuel f.type ((cs.drop (f.offset - off)).take (P.cellsOf f.type)) = some x) →
    (∀ f ∈ fs, off ≤ f.offset) → ∃ v : α, d.K w v cs ∧ WF v
theorem OpensF.one {α : Type} {d : Kd α} {WF : α → Prop} {f : Field} {off : Nat} (ho : f.offset = off) (h : Opens d WF P f.type) : OpensF d WF P [f] off := by
  intro H enc w base spare held fuel cs hl hx _
  obtain ⟨x, hx⟩ := hx f (by simp)
  rw [ho, Nat.sub_self, List.drop_zero, h.1, ← hl, List.take_length] at hx
  exact h.2 hx
theorem OpensF.more {α β : Type} {d : Kd α} {d2 : Kd β} {WF : α → Prop} {WF2 : β → Prop} {f : Field} {fs : List Field} {off off2 : Nat} (ho : f.offset = off) (h : Opens d WF P f.type)
    (h2 : OpensF d2 WF2 P fs off2) (e : off2 = off + d.sz) (hoff : ∀ g ∈ fs, off2 ≤ g.offset) : OpensF (Kd.pair d d2) (fun v => WF v.1 ∧ WF2 v.2) P (f :: fs) off := by
  subst e
  intro H enc w base spare held fuel cs hl hx _
  have hl' : cs.length = d.sz + d2.sz := hl
  obtain ⟨x, hx0⟩ := hx f (by simp)
  rw [ho, Nat.sub_self, List.drop_zero, h.1] at hx0
  obtain ⟨v, hv, hw⟩ := h.2 hx0
  obtain ⟨u, hu, hwu⟩ := h2 (enc := enc) (w := w) (base := base) (spare := spare) (held := held) (fuel := fuel) (cs := cs.drop d.sz) (by rw [List.length_drop]; omega)
    (fun g hg => by
      obtain ⟨y, hy⟩ := hx g (List.mem_cons_of_mem _ hg)
      have := hoff g hg
      refine ⟨y, ?_⟩
      rw [List.drop_drop, show d.sz + (g.offset - (off + d.sz)) = g.offset - off by omega]; exact hy) hoff
  exact ⟨(v, u), ⟨cs.take d.sz, cs.drop d.sz, (List.take_append_drop _ _).symm, hv, hu⟩, hw, hwu⟩
theorem Opens.struct {α : Type} {d : Kd α} {WF : α → Prop} {fs : Array Field} (ht : P.underlying t = some (.struct fs)) (hc : P.cellsOf t = d.sz) (h : OpensF d WF P fs.toList 0) : Opens d WF P t :=
  ⟨hc, fun {H enc w base spare held fuel cs x} hx => by
    obtain ⟨xs, n, _, _, hl, hxl, hf⟩ := DataW.trod_struct ht hx
    refine h (enc := enc) (base := base) (spare := spare) (held := held) (fuel := n) (by rw [hl, hc]) (fun f hf' => ?_) (fun f _ => Nat.zero_le _)
    obtain ⟨i, hi⟩ := List.getElem?_of_mem hf'
    have hi' : i < fs.size := by
      have := (List.getElem?_eq_some_iff.1 hi).1
      simpa using this
    have := hf i f (by simpa using hi)
    rw [Nat.sub_zero, this]
    exact ⟨xs[i]'(by omega), List.getElem?_eq_getElem (by omega)⟩⟩
end

set_option maxRecDepth 100000 in
theorem opens_S72 : Opens k72 WF72 Try.prog 72 := by
  have h := Opens.iso (fun x : S72 => (x.f0, x.f1, x.f2)) (fun a => ⟨a.1, a.2.1, a.2.2⟩) (fun _ => rfl) (Opens.struct (P := Try.prog) (t := 72) Try.underlying72 (by kernel_rfl) (OpensF.more rfl (Opens.int (P := Try.prog) (t := 3) Try.underlying3 (by kernel_rfl)) (OpensF.more rfl (Opens.string (P := Try.prog) (t := 9) Try.underlying9 (by kernel_rfl)) (OpensF.one rfl (Opens.string (P := Try.prog) (t := 9) Try.underlying9 (by kernel_rfl))) rfl (by decide)) rfl (by decide)))
  exact ⟨h.1, fun hx => h.2 hx⟩
set_option maxRecDepth 100000 in
theorem opens_S70 : Opens k70 WF70 Try.prog 70 := by
  have h := Opens.iso (fun x : S70 => (x.f0, x.f1)) (fun a => ⟨a.1, a.2⟩) (fun _ => rfl) (Opens.struct (P := Try.prog) (t := 70) Try.underlying70 (by kernel_rfl) (OpensF.more rfl (Opens.int (P := Try.prog) (t := 3) Try.underlying3 (by kernel_rfl)) (OpensF.one rfl (Opens.slice (P := Try.prog) (t := 68) Try.underlying68 (by kernel_rfl) opens_S72)) rfl (by decide)))
  exact ⟨h.1, fun hx => h.2 hx⟩
set_option maxRecDepth 100000 in
theorem opens_S66 : Opens k66 WF66 Try.prog 66 := by
  have h := Opens.iso (fun x : S66 => (x.f0, x.f1)) (fun a => ⟨a.1, a.2⟩) (fun _ => rfl) (Opens.struct (P := Try.prog) (t := 66) Try.underlying66 (by kernel_rfl) (OpensF.more rfl (Opens.string (P := Try.prog) (t := 9) Try.underlying9 (by kernel_rfl)) (OpensF.one rfl (Opens.string (P := Try.prog) (t := 9) Try.underlying9 (by kernel_rfl))) rfl (by decide)))
  exact ⟨h.1, fun hx => h.2 hx⟩
set_option maxRecDepth 100000 in
theorem lifted (os : Os) (started : os.Started) (H : Type) (enc : TypeId × Value → H) :
    ReturnsInHanded {} Try.checked os 12 .any (Rows.foldAllSpec.pre6 enc Try.prog Try.f12 Rows.foldAllRow.domain false) (Rows.foldAllSpec.post enc Try.prog Try.f12 false true false false) := by
  refine returnsInHanded_of_change_sized (C := Try.checked) own started (by kernel_rfl) Try.func12
    (ChangeSpec.witness6 (enc := enc) (C := Try.checked) false ⟨#[], #[.slice none 0 0, .int .i64 0, .string ByteArray.empty, .string ByteArray.empty, .string ByteArray.empty, .bool false, .int .i64 0, .slice none 0 0], []⟩ 8 (by kernel_rfl) (by kernel_rfl) (by kernel_rfl) (by kernel_rfl)) ?_
  intro W base args ds gs before hval0 hW hcnd hsz0 _
  have hsz : (DataW.weightsEach Try.prog (Try.f12.params.toList ++ Rows.foldAllSpec.plain.varTypes Try.prog) (ds ++ gs)).all (· ≤ reachBytes) = true := hsz0
  have hval : ∀ (j : Nat) t v, Try.f12.params[j]? = some t → args[j]? = some v → Value.okWide Try.prog W .any base t v := hval0
  have hW' := hW
  obtain ⟨p, q, hA0, hV, rfl, hfz, hnd⟩ := hW
  have hA : DataW.TrodAll enc Try.prog W 0 (fun _ => true) true Try.f12.params.toList args.toList ds p := hA0
  rw [Try.params12] at hA hval hsz
  obtain ⟨v0, vs0, d0, ds0, p0, q0, hargs, rfl, rfl, h0, r0⟩ := trodAll_cons hA
  obtain ⟨v1, vs1, d1, ds1, p1, q1, rfl, rfl, rfl, h1, r1⟩ := trodAll_cons r0
  obtain ⟨v2, vs2, d2, ds2, p2, q2, rfl, rfl, rfl, h2, r2⟩ := trodAll_cons r1
  obtain ⟨v3, vs3, d3, ds3, p3, q3, rfl, rfl, rfl, h3, r3⟩ := trodAll_cons r2
  obtain ⟨v4, vs4, d4, ds4, p4, q4, rfl, rfl, rfl, h4, r4⟩ := trodAll_cons r3
  obtain ⟨v5, vs5, d5, ds5, p5, q5, rfl, rfl, rfl, h5, r5⟩ := trodAll_cons r4
  obtain ⟨v6, vs6, d6, ds6, p6, q6, rfl, rfl, rfl, h6, r6⟩ := trodAll_cons r5
  obtain ⟨v7, vs7, d7, ds7, p7, q7, rfl, rfl, rfl, h7, r7⟩ := trodAll_cons r6
  obtain ⟨rfl, rfl, rfl⟩ := trodAll_nil r7
  obtain rfl : args = #[v0, v1, v2, v3, v4, v5, v6, v7] := by cases args; simp_all
  obtain ⟨rfl, rfl⟩ := trodVars_none hV
  obtain ⟨a0, len0, cap0, rfl⟩ := okWide_slice Try.underlying61 (hval 0 61 v0 rfl rfl)
  have k0 := h0
  have lt0 : ∀ x ∈ p0, x.block < W.heap.size := by obtain ⟨m, hm⟩ := k0; exact DataW.trod_lt m _ _ _ hm
  obtain ⟨l0, w0, c0, m0, y0, rfl⟩ : ∃ l : List (S70), Kd.C k70 W a0 l.length l ∧ l.length ≤ cap0 ∧ l.length ≤ maxLen ∧ (∀ x ∈ l, WF70 x) ∧ len0 = l.length := by
    obtain ⟨fuel, hf⟩ := h0
    obtain ⟨l, ⟨A_, c_, he_, hc_, hC_⟩, hm_, hw_⟩ := ((Opens.slice (P := Try.prog) (t := 61) Try.underlying61 (by kernel_rfl) opens_S70)).2 hf
    simp [Value.cells] at he_
    obtain ⟨rfl, rfl, rfl⟩ := he_
    exact ⟨l, hC_, hc_, hm_, hw_, rfl⟩
  obtain ⟨a1, rfl, rfl, rfl, w1⟩ := open_int Try.underlying3 (hval 1 3 v1 rfl rfl) h1
  obtain ⟨a2, rfl, rfl, rfl, y2⟩ := open_string Try.underlying9 (hval 2 9 v2 rfl rfl) h2
  have w2 : a2.size ≤ 140737488351232 := by
    have z := sized_string hsz (j := 2) (t := 9) rfl rfl
    rw [Array.length_toList] at z
    exact z
  obtain ⟨a3, rfl, rfl, rfl, y3⟩ := open_string Try.underlying9 (hval 3 9 v3 rfl rfl) h3
  have w3 : a3.size ≤ 140737488351232 := by
    have z := sized_string hsz (j := 3) (t := 9) rfl rfl
    rw [Array.length_toList] at z
    exact z
  obtain ⟨a4, rfl, rfl, rfl, y4⟩ := open_string Try.underlying9 (hval 4 9 v4 rfl rfl) h4
  have w4 : a4.size ≤ 140737488351232 := by
    have z := sized_string hsz (j := 4) (t := 9) rfl rfl
    rw [Array.length_toList] at z
    exact z
  obtain ⟨a5, rfl, rfl, rfl⟩ := open_bool Try.underlying4 (hval 5 4 v5 rfl rfl) h5
  obtain ⟨a6, rfl, rfl, rfl, w6⟩ := open_int Try.underlying3 (hval 6 3 v6 rfl rfl) h6
  obtain ⟨a7, len7, cap7, rfl⟩ := okWide_slice Try.underlying63 (hval 7 63 v7 rfl rfl)
  have k7 := h7
  have lt7 : ∀ x ∈ p7, x.block < W.heap.size := by obtain ⟨m, hm⟩ := k7; exact DataW.trod_lt m _ _ _ hm
  obtain ⟨l7, w7, c7, m7, y7, rfl⟩ : ∃ l : List (S66), Kd.C k66 W a7 l.length l ∧ l.length ≤ cap7 ∧ l.length ≤ maxLen ∧ (∀ x ∈ l, WF66 x) ∧ len7 = l.length := by
    obtain ⟨fuel, hf⟩ := h7
    obtain ⟨l, ⟨A_, c_, he_, hc_, hC_⟩, hm_, hw_⟩ := ((Opens.slice (P := Try.prog) (t := 63) Try.underlying63 (by kernel_rfl) opens_S66)).2 hf
    simp [Value.cells] at he_
    obtain ⟨rfl, rfl, rfl⟩ := he_
    exact ⟨l, hC_, hc_, hm_, hw_, rfl⟩
  clear hA0 hval0 hsz0 hsz
  refine (PFoldAll.iceboxlaw24_FoldAll.walk Pure.FoldAll a0 cap0 l0 a1 a2 a3 a4 a5 a6 a7 cap7 l7 W w0 c0 m0 y0 w1 w2 w3 w4 w6 w7 c7 m7 y7).mono fun e W' ⟨he, bel⟩ => ?_
  subst he
  exact ⟨_, rfl, _, _, _, [], _, [], hW', trodAll_mk1 (shut_bool Try.underlying4 _), (trodAll_cons_mk (Below.trod laidOut (by kernel_rfl) (of_decide_eq_true (by kernel_rfl)) k0 bel lt0) (trodAll_cons_mk (shut_int Try.underlying3 w1) (trodAll_cons_mk (shut_string Try.underlying9 y2) (trodAll_cons_mk (shut_string Try.underlying9 y3) (trodAll_cons_mk (shut_string Try.underlying9 y4) (trodAll_cons_mk (shut_bool Try.underlying4 _) (trodAll_cons_mk (shut_int Try.underlying3 w6) (trodAll_cons_mk (Below.trod laidOut (by kernel_rfl) (of_decide_eq_true (by kernel_rfl)) k7 bel lt7) trodAll_mk0)))))))), rfl, bel.frame _, fun h => by cases h⟩
theorem over : Rows.foldAllRow.holds Try.pinned (OpenSpec.ofChange Rows.foldAllSpec) :=
  OpenClaim.holds_of_wide 12 Try.f12 rfl rfl rfl rfl rfl rfl rfl ⟨rfl, rfl, rfl, rfl, rfl⟩ rfl rfl rfl rfl rfl (by kernel_rfl) Try.func12 (by kernel_rfl)
    (of_decide_eq_true (by kernel_rfl)) (by unfold Func.isWrapper; first | (rw [if_pos (by decide +kernel)]; kernel_rfl) | (rw [if_neg (by decide +kernel)]; exact ⟨rfl, rfl⟩))
    (fun os started H enc _ => lifted os started H enc)
theorem proved : Rows.FoldAllSaid := over
#print axioms proved
end Go.Proofs.Ytffnimaaolmbdaa.foldAll
namespace Go.Proofs.Ytffnimaaolmbdaa
/-- The row, under a short name, for the claim. -/
theorem foldAll_holds : Rows.FoldAllSaid := foldAll.proved
end Go.Proofs.Ytffnimaaolmbdaa
