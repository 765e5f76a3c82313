/-
  No cell of these rows narrows 'for every input' (looked for: loops, veiled, ifaces, maps, wideKeys, modest, calm, conditions, laid).
  DERIVED. THE GIVEN ROWS OF THIS SEAT. 11 by the template 'for every input the law returns true; each argument reads behind the call as it read before'; 0 by the template 'total and deterministic' (their statements: YtoomipmndapgnaaTotals.lean).
  GIVEN WITH THE SEED: the statements are not yours to turn. If you find one false, say at which input.
  Laid BY PROGRAM, IN A SANDBOX (cutbox-rows.mjs): the forced cells as the released guide's own fill.sh prints them over the translation e6be4be54bee556f… (all of the seat's roots in one cut). By AI agents, Wed Nov 11 2026. No macro, syntax, notation, axiom, sorry.
-/
import Derived.Test.YtoomipmndapgnaaChecked
import GoSem.Claim
import GoSem.ClaimJoined
import GoSem.ClaimMapViews
import Derived.JoinedTies
import Derived.KernelRfl
namespace Go.Proofs.Ytoomipmndapgnaa
/- THE CELL 'sum', in the pinned program and in every row, IS THE sha256 OF THE DUMP (.gsa) THAT YtoomipmndapgnaaProg.lean LOADS. Nothing in Lean hashes anything: it is a label: what it is worth is what the hold of that sum in a sandbox is worth. -/
noncomputable def Try.pinned : Pinned := { name := "ytoomipmndapgnaa", sum := "e6be4be54bee556fe1ab32d496a1b89f47f36f9394836652a86983266eba5cef", checked := Try.checked }
namespace Rows
def none {H : Type} : Left H := { results := [], args := [] }

/-- 'iceboxlaw14.SeekWhole': WHATEVER THE INPUT: true; the input reads as it did. -/
def seekWholeSpec : ChangeSpec := { name := "seekWhole", fn := fun _ => fun
  | [d1, d2] => { results := [.lit (.bool true)], args := [d1, d2] }
  | _ => none }
def seekWholeRow : OpenClaim := { program := "ytoomipmndapgnaa", sum := "e6be4be54bee556fe1ab32d496a1b89f47f36f9394836652a86983266eba5cef", func := "icebox/iceboxlaw14.SeekWhole", spec := "seekWhole", unfollowed := true, recurses := true, apart := false }
def SeekWholeSaid : Prop := seekWholeRow.holds Try.pinned (OpenSpec.ofChange seekWholeSpec)

/-- ITS FALSE NEIGHBOUR: 'it returns false'. Refute it at one input. -/
def seekWholeWrong : ChangeSpec := { name := "seekWhole", fn := fun _ => fun
  | [d1, d2] => { results := [.lit (.bool false)], args := [d1, d2] }
  | _ => none }
def SeekWholeWrongFalsely : Prop := seekWholeRow.holds Try.pinned (OpenSpec.ofChange seekWholeWrong)

/-- 'iceboxlaw15.MergeAll': WHATEVER THE INPUT: true; the input reads as it did. -/
def mergeAllSpec : ChangeSpec := { name := "mergeAll", fn := fun _ => fun
  | [d] => { results := [.lit (.bool true)], args := [d] }
  | _ => none }
def mergeAllRow : OpenClaim := { program := "ytoomipmndapgnaa", sum := "e6be4be54bee556fe1ab32d496a1b89f47f36f9394836652a86983266eba5cef", func := "icebox/iceboxlaw15.MergeAll", spec := "mergeAll", unfollowed := true, recurses := true, apart := false }
def MergeAllSaid : Prop := mergeAllRow.holds Try.pinned (OpenSpec.ofChange mergeAllSpec)

/-- ITS FALSE NEIGHBOUR: 'it returns false'. Refute it at one input. -/
def mergeAllWrong : ChangeSpec := { name := "mergeAll", fn := fun _ => fun
  | [d] => { results := [.lit (.bool false)], args := [d] }
  | _ => none }
def MergeAllWrongFalsely : Prop := mergeAllRow.holds Try.pinned (OpenSpec.ofChange mergeAllWrong)

/-- 'iceboxlaw15.MergeViews': WHATEVER THE INPUT: true; the input reads as it did. -/
def mergeViewsSpec : ChangeSpec := { name := "mergeViews", fn := fun _ => fun
  | [d1, d2, d3, d4, d5, d6] => { results := [.lit (.bool true)], args := [d1, d2, d3, d4, d5, d6] }
  | _ => none }
def mergeViewsRow : OpenClaim := { program := "ytoomipmndapgnaa", sum := "e6be4be54bee556fe1ab32d496a1b89f47f36f9394836652a86983266eba5cef", func := "icebox/iceboxlaw15.MergeViews", spec := "mergeViews", unfollowed := true, recurses := true, apart := false }
def MergeViewsSaid : Prop := mergeViewsRow.holds Try.pinned (OpenSpec.ofChange mergeViewsSpec)

/-- ITS FALSE NEIGHBOUR: 'it returns false'. Refute it at one input. -/
def mergeViewsWrong : ChangeSpec := { name := "mergeViews", fn := fun _ => fun
  | [d1, d2, d3, d4, d5, d6] => { results := [.lit (.bool false)], args := [d1, d2, d3, d4, d5, d6] }
  | _ => none }
def MergeViewsWrongFalsely : Prop := mergeViewsRow.holds Try.pinned (OpenSpec.ofChange mergeViewsWrong)

/-- 'iceboxlaw15.MergeParts': WHATEVER THE INPUT: true; the input reads as it did. -/
def mergePartsSpec : ChangeSpec := { name := "mergeParts", fn := fun _ => fun
  | [d1, d2, d3] => { results := [.lit (.bool true)], args := [d1, d2, d3] }
  | _ => none }
def mergePartsRow : OpenClaim := { program := "ytoomipmndapgnaa", sum := "e6be4be54bee556fe1ab32d496a1b89f47f36f9394836652a86983266eba5cef", func := "icebox/iceboxlaw15.MergeParts", spec := "mergeParts", unfollowed := true, recurses := true, apart := false }
def MergePartsSaid : Prop := mergePartsRow.holds Try.pinned (OpenSpec.ofChange mergePartsSpec)

/-- ITS FALSE NEIGHBOUR: 'it returns false'. Refute it at one input. -/
def mergePartsWrong : ChangeSpec := { name := "mergeParts", fn := fun _ => fun
  | [d1, d2, d3] => { results := [.lit (.bool false)], args := [d1, d2, d3] }
  | _ => none }
def MergePartsWrongFalsely : Prop := mergePartsRow.holds Try.pinned (OpenSpec.ofChange mergePartsWrong)

/-- 'iceboxlaw15.MergeBack': WHATEVER THE INPUT: true; the input reads as it did. -/
def mergeBackSpec : ChangeSpec := { name := "mergeBack", fn := fun _ => fun
  | [d1, d2, d3, d4, d5] => { results := [.lit (.bool true)], args := [d1, d2, d3, d4, d5] }
  | _ => none }
def mergeBackRow : OpenClaim := { program := "ytoomipmndapgnaa", sum := "e6be4be54bee556fe1ab32d496a1b89f47f36f9394836652a86983266eba5cef", func := "icebox/iceboxlaw15.MergeBack", spec := "mergeBack", unfollowed := true, recurses := true, apart := false }
def MergeBackSaid : Prop := mergeBackRow.holds Try.pinned (OpenSpec.ofChange mergeBackSpec)

/-- ITS FALSE NEIGHBOUR: 'it returns false'. Refute it at one input. -/
def mergeBackWrong : ChangeSpec := { name := "mergeBack", fn := fun _ => fun
  | [d1, d2, d3, d4, d5] => { results := [.lit (.bool false)], args := [d1, d2, d3, d4, d5] }
  | _ => none }
def MergeBackWrongFalsely : Prop := mergeBackRow.holds Try.pinned (OpenSpec.ofChange mergeBackWrong)

/-- 'iceboxlaw15.MergeSees': WHATEVER THE INPUT: true; the input reads as it did. -/
def mergeSeesSpec : ChangeSpec := { name := "mergeSees", fn := fun _ => fun
  | [d1, d2, d3] => { results := [.lit (.bool true)], args := [d1, d2, d3] }
  | _ => none }
def mergeSeesRow : OpenClaim := { program := "ytoomipmndapgnaa", sum := "e6be4be54bee556fe1ab32d496a1b89f47f36f9394836652a86983266eba5cef", func := "icebox/iceboxlaw15.MergeSees", spec := "mergeSees", unfollowed := true, recurses := true, apart := false }
def MergeSeesSaid : Prop := mergeSeesRow.holds Try.pinned (OpenSpec.ofChange mergeSeesSpec)

/-- ITS FALSE NEIGHBOUR: 'it returns false'. Refute it at one input. -/
def mergeSeesWrong : ChangeSpec := { name := "mergeSees", fn := fun _ => fun
  | [d1, d2, d3] => { results := [.lit (.bool false)], args := [d1, d2, d3] }
  | _ => none }
def MergeSeesWrongFalsely : Prop := mergeSeesRow.holds Try.pinned (OpenSpec.ofChange mergeSeesWrong)

/-- 'iceboxlaw15.MergeTwice': WHATEVER THE INPUT: true; the input reads as it did. -/
def mergeTwiceSpec : ChangeSpec := { name := "mergeTwice", fn := fun _ => fun
  | [d1, d2, d3] => { results := [.lit (.bool true)], args := [d1, d2, d3] }
  | _ => none }
def mergeTwiceRow : OpenClaim := { program := "ytoomipmndapgnaa", sum := "e6be4be54bee556fe1ab32d496a1b89f47f36f9394836652a86983266eba5cef", func := "icebox/iceboxlaw15.MergeTwice", spec := "mergeTwice", unfollowed := true, recurses := true, apart := false }
def MergeTwiceSaid : Prop := mergeTwiceRow.holds Try.pinned (OpenSpec.ofChange mergeTwiceSpec)

/-- ITS FALSE NEIGHBOUR: 'it returns false'. Refute it at one input. -/
def mergeTwiceWrong : ChangeSpec := { name := "mergeTwice", fn := fun _ => fun
  | [d1, d2, d3] => { results := [.lit (.bool false)], args := [d1, d2, d3] }
  | _ => none }
def MergeTwiceWrongFalsely : Prop := mergeTwiceRow.holds Try.pinned (OpenSpec.ofChange mergeTwiceWrong)

/-- 'iceboxlaw15.MergePages': WHATEVER THE INPUT: true; the input reads as it did. -/
def mergePagesSpec : ChangeSpec := { name := "mergePages", fn := fun _ => fun
  | [d1, d2, d3] => { results := [.lit (.bool true)], args := [d1, d2, d3] }
  | _ => none }
def mergePagesRow : OpenClaim := { program := "ytoomipmndapgnaa", sum := "e6be4be54bee556fe1ab32d496a1b89f47f36f9394836652a86983266eba5cef", func := "icebox/iceboxlaw15.MergePages", spec := "mergePages", unfollowed := true, recurses := true, apart := false }
def MergePagesSaid : Prop := mergePagesRow.holds Try.pinned (OpenSpec.ofChange mergePagesSpec)

/-- ITS FALSE NEIGHBOUR: 'it returns false'. Refute it at one input. -/
def mergePagesWrong : ChangeSpec := { name := "mergePages", fn := fun _ => fun
  | [d1, d2, d3] => { results := [.lit (.bool false)], args := [d1, d2, d3] }
  | _ => none }
def MergePagesWrongFalsely : Prop := mergePagesRow.holds Try.pinned (OpenSpec.ofChange mergePagesWrong)

/-- 'iceboxlaw14.SeekFinds': WHATEVER THE INPUT: true; the input reads as it did. -/
def seekFindsSpec : ChangeSpec := { name := "seekFinds", fn := fun _ => fun
  | [d1, d2, d3] => { results := [.lit (.bool true)], args := [d1, d2, d3] }
  | _ => none }
def seekFindsRow : OpenClaim := { program := "ytoomipmndapgnaa", sum := "e6be4be54bee556fe1ab32d496a1b89f47f36f9394836652a86983266eba5cef", func := "icebox/iceboxlaw14.SeekFinds", spec := "seekFinds", unfollowed := true, recurses := true, apart := false }
def SeekFindsSaid : Prop := seekFindsRow.holds Try.pinned (OpenSpec.ofChange seekFindsSpec)

/-- ITS FALSE NEIGHBOUR: 'it returns false'. Refute it at one input. -/
def seekFindsWrong : ChangeSpec := { name := "seekFinds", fn := fun _ => fun
  | [d1, d2, d3] => { results := [.lit (.bool false)], args := [d1, d2, d3] }
  | _ => none }
def SeekFindsWrongFalsely : Prop := seekFindsRow.holds Try.pinned (OpenSpec.ofChange seekFindsWrong)

/-- 'iceboxlaw14.SeekRuns': WHATEVER THE INPUT: true; the input reads as it did. -/
def seekRunsSpec : ChangeSpec := { name := "seekRuns", fn := fun _ => fun
  | [d1, d2] => { results := [.lit (.bool true)], args := [d1, d2] }
  | _ => none }
def seekRunsRow : OpenClaim := { program := "ytoomipmndapgnaa", sum := "e6be4be54bee556fe1ab32d496a1b89f47f36f9394836652a86983266eba5cef", func := "icebox/iceboxlaw14.SeekRuns", spec := "seekRuns", unfollowed := true, recurses := true, apart := false }
def SeekRunsSaid : Prop := seekRunsRow.holds Try.pinned (OpenSpec.ofChange seekRunsSpec)

/-- ITS FALSE NEIGHBOUR: 'it returns false'. Refute it at one input. -/
def seekRunsWrong : ChangeSpec := { name := "seekRuns", fn := fun _ => fun
  | [d1, d2] => { results := [.lit (.bool false)], args := [d1, d2] }
  | _ => none }
def SeekRunsWrongFalsely : Prop := seekRunsRow.holds Try.pinned (OpenSpec.ofChange seekRunsWrong)

/-- 'iceboxlaw14.SeekNil': WHATEVER THE INPUT: true; the input reads as it did. -/
def seekNilSpec : ChangeSpec := { name := "seekNil", fn := fun _ => fun
  | [d] => { results := [.lit (.bool true)], args := [d] }
  | _ => none }
def seekNilRow : OpenClaim := { program := "ytoomipmndapgnaa", sum := "e6be4be54bee556fe1ab32d496a1b89f47f36f9394836652a86983266eba5cef", func := "icebox/iceboxlaw14.SeekNil", spec := "seekNil", unfollowed := true, recurses := true, apart := false }
def SeekNilSaid : Prop := seekNilRow.holds Try.pinned (OpenSpec.ofChange seekNilSpec)

/-- ITS FALSE NEIGHBOUR: 'it returns false'. Refute it at one input. -/
def seekNilWrong : ChangeSpec := { name := "seekNil", fn := fun _ => fun
  | [d] => { results := [.lit (.bool false)], args := [d] }
  | _ => none }
def SeekNilWrongFalsely : Prop := seekNilRow.holds Try.pinned (OpenSpec.ofChange seekNilWrong)

/- THE SECOND FORM. 'bulk': how many values and letters a reading holds, each counted each time it is reached (what is shared counts as often as it is met; a slice's spare places count too). A statement '..UptoSaid' is the law's where the arguments, and the package variables that the reading takes, are together of bulk at most 1048576: NARROWER than '..Said'. Prove '..Said' where nothing that the law and all that it calls make is longer than what came in: it says more and counts as full. Else prove '..UptoSaid'. A law counts once. -/
mutual
def uptoBulk {H : Type} : DataW H → Nat
  | .lit (.string bytes) => bytes.length + 1
  | .lit _ => 1
  | .nil => 1
  | .ptr d => uptoBulk d + 1
  | .slice elems spare => uptoBulkAll elems + uptoBulkAll spare + 1
  | .agg parts => uptoBulkAll parts + 1
  | .iface _ d => uptoBulk d + 1
  | .map entries => uptoBulkEntries entries + 1
  | .held _ => 1
def uptoBulkAll {H : Type} : List (DataW H) → Nat
  | [] => 0
  | d :: r => uptoBulk d + uptoBulkAll r
def uptoBulkEntries {H : Type} : List (Lit × DataW H) → Nat
  | [] => 0
  | x :: r => uptoBulkEntry x + uptoBulkEntries r
def uptoBulkEntry {H : Type} : Lit × DataW H → Nat
  | (.string bytes, d) => bytes.length + uptoBulk d + 1
  | (_, d) => uptoBulk d + 1
 end
def uptoSmall : (H : Type) → List (DataW H) → Bool := fun _ ds => decide (uptoBulkAll ds ≤ 1048576)
def OpenSpec.upto (s : _root_.Go.ChangeSpec) : _root_.Go.OpenSpec := { _root_.Go.OpenSpec.ofChange s with cond := some uptoSmall }

/-- 'iceboxlaw14.SeekWhole', WHERE WHAT IT READS IS OF BULK AT MOST 1048576: true; the input reads as it did. -/
def seekWholeUptoRow : OpenClaim := { program := "ytoomipmndapgnaa", sum := "e6be4be54bee556fe1ab32d496a1b89f47f36f9394836652a86983266eba5cef", func := "icebox/iceboxlaw14.SeekWhole", spec := "seekWhole", unfollowed := true, recurses := true, apart := false, narrowed := true }
def SeekWholeUptoSaid : Prop := seekWholeUptoRow.holds Try.pinned (OpenSpec.upto seekWholeSpec)

/-- 'iceboxlaw15.MergeAll', WHERE WHAT IT READS IS OF BULK AT MOST 1048576: true; the input reads as it did. -/
def mergeAllUptoRow : OpenClaim := { program := "ytoomipmndapgnaa", sum := "e6be4be54bee556fe1ab32d496a1b89f47f36f9394836652a86983266eba5cef", func := "icebox/iceboxlaw15.MergeAll", spec := "mergeAll", unfollowed := true, recurses := true, apart := false, narrowed := true }
def MergeAllUptoSaid : Prop := mergeAllUptoRow.holds Try.pinned (OpenSpec.upto mergeAllSpec)

/-- 'iceboxlaw15.MergeViews', WHERE WHAT IT READS IS OF BULK AT MOST 1048576: true; the input reads as it did. -/
def mergeViewsUptoRow : OpenClaim := { program := "ytoomipmndapgnaa", sum := "e6be4be54bee556fe1ab32d496a1b89f47f36f9394836652a86983266eba5cef", func := "icebox/iceboxlaw15.MergeViews", spec := "mergeViews", unfollowed := true, recurses := true, apart := false, narrowed := true }
def MergeViewsUptoSaid : Prop := mergeViewsUptoRow.holds Try.pinned (OpenSpec.upto mergeViewsSpec)

/-- 'iceboxlaw15.MergeParts', WHERE WHAT IT READS IS OF BULK AT MOST 1048576: true; the input reads as it did. -/
def mergePartsUptoRow : OpenClaim := { program := "ytoomipmndapgnaa", sum := "e6be4be54bee556fe1ab32d496a1b89f47f36f9394836652a86983266eba5cef", func := "icebox/iceboxlaw15.MergeParts", spec := "mergeParts", unfollowed := true, recurses := true, apart := false, narrowed := true }
def MergePartsUptoSaid : Prop := mergePartsUptoRow.holds Try.pinned (OpenSpec.upto mergePartsSpec)

/-- 'iceboxlaw15.MergeBack', WHERE WHAT IT READS IS OF BULK AT MOST 1048576: true; the input reads as it did. -/
def mergeBackUptoRow : OpenClaim := { program := "ytoomipmndapgnaa", sum := "e6be4be54bee556fe1ab32d496a1b89f47f36f9394836652a86983266eba5cef", func := "icebox/iceboxlaw15.MergeBack", spec := "mergeBack", unfollowed := true, recurses := true, apart := false, narrowed := true }
def MergeBackUptoSaid : Prop := mergeBackUptoRow.holds Try.pinned (OpenSpec.upto mergeBackSpec)

/-- 'iceboxlaw15.MergeSees', WHERE WHAT IT READS IS OF BULK AT MOST 1048576: true; the input reads as it did. -/
def mergeSeesUptoRow : OpenClaim := { program := "ytoomipmndapgnaa", sum := "e6be4be54bee556fe1ab32d496a1b89f47f36f9394836652a86983266eba5cef", func := "icebox/iceboxlaw15.MergeSees", spec := "mergeSees", unfollowed := true, recurses := true, apart := false, narrowed := true }
def MergeSeesUptoSaid : Prop := mergeSeesUptoRow.holds Try.pinned (OpenSpec.upto mergeSeesSpec)

/-- 'iceboxlaw15.MergeTwice', WHERE WHAT IT READS IS OF BULK AT MOST 1048576: true; the input reads as it did. -/
def mergeTwiceUptoRow : OpenClaim := { program := "ytoomipmndapgnaa", sum := "e6be4be54bee556fe1ab32d496a1b89f47f36f9394836652a86983266eba5cef", func := "icebox/iceboxlaw15.MergeTwice", spec := "mergeTwice", unfollowed := true, recurses := true, apart := false, narrowed := true }
def MergeTwiceUptoSaid : Prop := mergeTwiceUptoRow.holds Try.pinned (OpenSpec.upto mergeTwiceSpec)

/-- 'iceboxlaw15.MergePages', WHERE WHAT IT READS IS OF BULK AT MOST 1048576: true; the input reads as it did. -/
def mergePagesUptoRow : OpenClaim := { program := "ytoomipmndapgnaa", sum := "e6be4be54bee556fe1ab32d496a1b89f47f36f9394836652a86983266eba5cef", func := "icebox/iceboxlaw15.MergePages", spec := "mergePages", unfollowed := true, recurses := true, apart := false, narrowed := true }
def MergePagesUptoSaid : Prop := mergePagesUptoRow.holds Try.pinned (OpenSpec.upto mergePagesSpec)

/-- 'iceboxlaw14.SeekFinds', WHERE WHAT IT READS IS OF BULK AT MOST 1048576: true; the input reads as it did. -/
def seekFindsUptoRow : OpenClaim := { program := "ytoomipmndapgnaa", sum := "e6be4be54bee556fe1ab32d496a1b89f47f36f9394836652a86983266eba5cef", func := "icebox/iceboxlaw14.SeekFinds", spec := "seekFinds", unfollowed := true, recurses := true, apart := false, narrowed := true }
def SeekFindsUptoSaid : Prop := seekFindsUptoRow.holds Try.pinned (OpenSpec.upto seekFindsSpec)

/-- 'iceboxlaw14.SeekRuns', WHERE WHAT IT READS IS OF BULK AT MOST 1048576: true; the input reads as it did. -/
def seekRunsUptoRow : OpenClaim := { program := "ytoomipmndapgnaa", sum := "e6be4be54bee556fe1ab32d496a1b89f47f36f9394836652a86983266eba5cef", func := "icebox/iceboxlaw14.SeekRuns", spec := "seekRuns", unfollowed := true, recurses := true, apart := false, narrowed := true }
def SeekRunsUptoSaid : Prop := seekRunsUptoRow.holds Try.pinned (OpenSpec.upto seekRunsSpec)

/-- 'iceboxlaw14.SeekNil', WHERE WHAT IT READS IS OF BULK AT MOST 1048576: true; the input reads as it did. -/
def seekNilUptoRow : OpenClaim := { program := "ytoomipmndapgnaa", sum := "e6be4be54bee556fe1ab32d496a1b89f47f36f9394836652a86983266eba5cef", func := "icebox/iceboxlaw14.SeekNil", spec := "seekNil", unfollowed := true, recurses := true, apart := false, narrowed := true }
def SeekNilUptoSaid : Prop := seekNilUptoRow.holds Try.pinned (OpenSpec.upto seekNilSpec)

end Rows
end Go.Proofs.Ytoomipmndapgnaa
