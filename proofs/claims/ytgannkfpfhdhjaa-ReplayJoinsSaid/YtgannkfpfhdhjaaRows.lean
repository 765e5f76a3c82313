/-
  No cell of these rows narrows 'for every input' (looked for: loops, veiled, ifaces, maps, wideKeys, modest, calm, conditions, laid).
  DERIVED. THE GIVEN ROWS OF THIS SEAT. 9 by the template 'for every input the law returns true; each argument reads behind the call as it read before'; 0 by the template 'total and deterministic' (their statements: YtgannkfpfhdhjaaTotals.lean).
  GIVEN WITH THE SEED: the statements are not yours to turn. If you find one false, say at which input.
  Laid BY PROGRAM, IN A SANDBOX (cutbox-rows.mjs): the forced cells as the released guide's own fill.sh prints them over the translation a33561f686304053… (all of the seat's roots in one cut). By AI agents, Wed Nov 11 2026. No macro, syntax, notation, axiom, sorry.
-/
import Derived.Test.YtgannkfpfhdhjaaChecked
import GoSem.Claim
import GoSem.ClaimJoined
import GoSem.ClaimMapViews
import Derived.JoinedTies
import Derived.KernelRfl
namespace Go.Proofs.Ytgannkfpfhdhjaa
/- THE CELL 'sum', in the pinned program and in every row, IS THE sha256 OF THE DUMP (.gsa) THAT YtgannkfpfhdhjaaProg.lean LOADS. Nothing in Lean hashes anything: it is a label: what it is worth is what the hold of that sum in a sandbox is worth. -/
noncomputable def Try.pinned : Pinned := { name := "ytgannkfpfhdhjaa", sum := "a33561f68630405399ab89b62cc590815c7934d4b64013d79dfc5f6ce4f1427f", checked := Try.checked }
namespace Rows
def none {H : Type} : Left H := { results := [], args := [] }

/-- 'iceboxlaw8.BatchNorm': WHATEVER THE INPUT: true; the input reads as it did. -/
def batchNormSpec : ChangeSpec := { name := "batchNorm", fn := fun _ => fun
  | [d] => { results := [.lit (.bool true)], args := [d] }
  | _ => none }
def batchNormRow : OpenClaim := { program := "ytgannkfpfhdhjaa", sum := "a33561f68630405399ab89b62cc590815c7934d4b64013d79dfc5f6ce4f1427f", func := "icebox/iceboxlaw8.BatchNorm", spec := "batchNorm", unfollowed := true, recurses := true, apart := false }
def BatchNormSaid : Prop := batchNormRow.holds Try.pinned (OpenSpec.ofChange batchNormSpec)

/-- ITS FALSE NEIGHBOUR: 'it returns false'. Refute it at one input. -/
def batchNormWrong : ChangeSpec := { name := "batchNorm", fn := fun _ => fun
  | [d] => { results := [.lit (.bool false)], args := [d] }
  | _ => none }
def BatchNormWrongFalsely : Prop := batchNormRow.holds Try.pinned (OpenSpec.ofChange batchNormWrong)

/-- 'iceboxlaw8.BatchMay': WHATEVER THE INPUT: true; the input reads as it did. -/
def batchMaySpec : ChangeSpec := { name := "batchMay", fn := fun _ => fun
  | [d1, d2, d3, d4, d5] => { results := [.lit (.bool true)], args := [d1, d2, d3, d4, d5] }
  | _ => none }
def batchMayRow : OpenClaim := { program := "ytgannkfpfhdhjaa", sum := "a33561f68630405399ab89b62cc590815c7934d4b64013d79dfc5f6ce4f1427f", func := "icebox/iceboxlaw8.BatchMay", spec := "batchMay", unfollowed := true, recurses := true, apart := false }
def BatchMaySaid : Prop := batchMayRow.holds Try.pinned (OpenSpec.ofChange batchMaySpec)

/-- ITS FALSE NEIGHBOUR: 'it returns false'. Refute it at one input. -/
def batchMayWrong : ChangeSpec := { name := "batchMay", fn := fun _ => fun
  | [d1, d2, d3, d4, d5] => { results := [.lit (.bool false)], args := [d1, d2, d3, d4, d5] }
  | _ => none }
def BatchMayWrongFalsely : Prop := batchMayRow.holds Try.pinned (OpenSpec.ofChange batchMayWrong)

/-- 'iceboxlaw8.BatchBack': WHATEVER THE INPUT: true; the input reads as it did. -/
def batchBackSpec : ChangeSpec := { name := "batchBack", fn := fun _ => fun
  | [d1, d2, d3] => { results := [.lit (.bool true)], args := [d1, d2, d3] }
  | _ => none }
def batchBackRow : OpenClaim := { program := "ytgannkfpfhdhjaa", sum := "a33561f68630405399ab89b62cc590815c7934d4b64013d79dfc5f6ce4f1427f", func := "icebox/iceboxlaw8.BatchBack", spec := "batchBack", unfollowed := true, recurses := true, apart := false }
def BatchBackSaid : Prop := batchBackRow.holds Try.pinned (OpenSpec.ofChange batchBackSpec)

/-- ITS FALSE NEIGHBOUR: 'it returns false'. Refute it at one input. -/
def batchBackWrong : ChangeSpec := { name := "batchBack", fn := fun _ => fun
  | [d1, d2, d3] => { results := [.lit (.bool false)], args := [d1, d2, d3] }
  | _ => none }
def BatchBackWrongFalsely : Prop := batchBackRow.holds Try.pinned (OpenSpec.ofChange batchBackWrong)

/-- 'iceboxlaw8.BatchAll': WHATEVER THE INPUT: true; the input reads as it did. -/
def batchAllSpec : ChangeSpec := { name := "batchAll", fn := fun _ => fun
  | [d1, d2] => { results := [.lit (.bool true)], args := [d1, d2] }
  | _ => none }
def batchAllRow : OpenClaim := { program := "ytgannkfpfhdhjaa", sum := "a33561f68630405399ab89b62cc590815c7934d4b64013d79dfc5f6ce4f1427f", func := "icebox/iceboxlaw8.BatchAll", spec := "batchAll", unfollowed := true, recurses := true, apart := false }
def BatchAllSaid : Prop := batchAllRow.holds Try.pinned (OpenSpec.ofChange batchAllSpec)

/-- ITS FALSE NEIGHBOUR: 'it returns false'. Refute it at one input. -/
def batchAllWrong : ChangeSpec := { name := "batchAll", fn := fun _ => fun
  | [d1, d2] => { results := [.lit (.bool false)], args := [d1, d2] }
  | _ => none }
def BatchAllWrongFalsely : Prop := batchAllRow.holds Try.pinned (OpenSpec.ofChange batchAllWrong)

/-- 'iceboxlaw9.ReplayCuts': WHATEVER THE INPUT: true; the input reads as it did. -/
def replayCutsSpec : ChangeSpec := { name := "replayCuts", fn := fun _ => fun
  | [d1, d2, d3] => { results := [.lit (.bool true)], args := [d1, d2, d3] }
  | _ => none }
def replayCutsRow : OpenClaim := { program := "ytgannkfpfhdhjaa", sum := "a33561f68630405399ab89b62cc590815c7934d4b64013d79dfc5f6ce4f1427f", func := "icebox/iceboxlaw9.ReplayCuts", spec := "replayCuts", unfollowed := true, recurses := true, apart := false }
def ReplayCutsSaid : Prop := replayCutsRow.holds Try.pinned (OpenSpec.ofChange replayCutsSpec)

/-- ITS FALSE NEIGHBOUR: 'it returns false'. Refute it at one input. -/
def replayCutsWrong : ChangeSpec := { name := "replayCuts", fn := fun _ => fun
  | [d1, d2, d3] => { results := [.lit (.bool false)], args := [d1, d2, d3] }
  | _ => none }
def ReplayCutsWrongFalsely : Prop := replayCutsRow.holds Try.pinned (OpenSpec.ofChange replayCutsWrong)

/-- 'iceboxlaw9.ReplaySpoilt': WHATEVER THE INPUT: true; the input reads as it did. -/
def replaySpoiltSpec : ChangeSpec := { name := "replaySpoilt", fn := fun _ => fun
  | [d1, d2, d3, d4] => { results := [.lit (.bool true)], args := [d1, d2, d3, d4] }
  | _ => none }
def replaySpoiltRow : OpenClaim := { program := "ytgannkfpfhdhjaa", sum := "a33561f68630405399ab89b62cc590815c7934d4b64013d79dfc5f6ce4f1427f", func := "icebox/iceboxlaw9.ReplaySpoilt", spec := "replaySpoilt", unfollowed := true, recurses := true, apart := false }
def ReplaySpoiltSaid : Prop := replaySpoiltRow.holds Try.pinned (OpenSpec.ofChange replaySpoiltSpec)

/-- ITS FALSE NEIGHBOUR: 'it returns false'. Refute it at one input. -/
def replaySpoiltWrong : ChangeSpec := { name := "replaySpoilt", fn := fun _ => fun
  | [d1, d2, d3, d4] => { results := [.lit (.bool false)], args := [d1, d2, d3, d4] }
  | _ => none }
def ReplaySpoiltWrongFalsely : Prop := replaySpoiltRow.holds Try.pinned (OpenSpec.ofChange replaySpoiltWrong)

/-- 'iceboxlaw9.ReplayAll': WHATEVER THE INPUT: true; the input reads as it did. -/
def replayAllSpec : ChangeSpec := { name := "replayAll", fn := fun _ => fun
  | [d1, d2, d3] => { results := [.lit (.bool true)], args := [d1, d2, d3] }
  | _ => none }
def replayAllRow : OpenClaim := { program := "ytgannkfpfhdhjaa", sum := "a33561f68630405399ab89b62cc590815c7934d4b64013d79dfc5f6ce4f1427f", func := "icebox/iceboxlaw9.ReplayAll", spec := "replayAll", unfollowed := true, recurses := true, apart := false }
def ReplayAllSaid : Prop := replayAllRow.holds Try.pinned (OpenSpec.ofChange replayAllSpec)

/-- ITS FALSE NEIGHBOUR: 'it returns false'. Refute it at one input. -/
def replayAllWrong : ChangeSpec := { name := "replayAll", fn := fun _ => fun
  | [d1, d2, d3] => { results := [.lit (.bool false)], args := [d1, d2, d3] }
  | _ => none }
def ReplayAllWrongFalsely : Prop := replayAllRow.holds Try.pinned (OpenSpec.ofChange replayAllWrong)

/-- 'iceboxlaw9.ReplayJoins': WHATEVER THE INPUT: true; the input reads as it did. -/
def replayJoinsSpec : ChangeSpec := { name := "replayJoins", fn := fun _ => fun
  | [d1, d2, d3, d4, d5] => { results := [.lit (.bool true)], args := [d1, d2, d3, d4, d5] }
  | _ => none }
def replayJoinsRow : OpenClaim := { program := "ytgannkfpfhdhjaa", sum := "a33561f68630405399ab89b62cc590815c7934d4b64013d79dfc5f6ce4f1427f", func := "icebox/iceboxlaw9.ReplayJoins", spec := "replayJoins", unfollowed := true, recurses := true, apart := false }
def ReplayJoinsSaid : Prop := replayJoinsRow.holds Try.pinned (OpenSpec.ofChange replayJoinsSpec)

/-- ITS FALSE NEIGHBOUR: 'it returns false'. Refute it at one input. -/
def replayJoinsWrong : ChangeSpec := { name := "replayJoins", fn := fun _ => fun
  | [d1, d2, d3, d4, d5] => { results := [.lit (.bool false)], args := [d1, d2, d3, d4, d5] }
  | _ => none }
def ReplayJoinsWrongFalsely : Prop := replayJoinsRow.holds Try.pinned (OpenSpec.ofChange replayJoinsWrong)

/-- 'iceboxlaw9.ReplayGaps': WHATEVER THE INPUT: true; the input reads as it did. -/
def replayGapsSpec : ChangeSpec := { name := "replayGaps", fn := fun _ => fun
  | [d1, d2, d3] => { results := [.lit (.bool true)], args := [d1, d2, d3] }
  | _ => none }
def replayGapsRow : OpenClaim := { program := "ytgannkfpfhdhjaa", sum := "a33561f68630405399ab89b62cc590815c7934d4b64013d79dfc5f6ce4f1427f", func := "icebox/iceboxlaw9.ReplayGaps", spec := "replayGaps", unfollowed := true, recurses := true, apart := false }
def ReplayGapsSaid : Prop := replayGapsRow.holds Try.pinned (OpenSpec.ofChange replayGapsSpec)

/-- ITS FALSE NEIGHBOUR: 'it returns false'. Refute it at one input. -/
def replayGapsWrong : ChangeSpec := { name := "replayGaps", fn := fun _ => fun
  | [d1, d2, d3] => { results := [.lit (.bool false)], args := [d1, d2, d3] }
  | _ => none }
def ReplayGapsWrongFalsely : Prop := replayGapsRow.holds Try.pinned (OpenSpec.ofChange replayGapsWrong)

/- THE SECOND FORM. 'bulk': how many values and letters a reading holds, each counted each time it is reached (what is shared counts as often as it is met; a slice's spare places count too). A statement '..UptoSaid' is the law's where the arguments, and the package variables that the reading takes, are together of bulk at most 1048576: NARROWER than '..Said'. Prove '..Said' where nothing that the law and all that it calls make is longer than what came in: it says more and counts as full. Else prove '..UptoSaid'. A law counts once. -/
mutual
def uptoBulk {H : Type} : DataW H → Nat
  | .lit (.string bytes) => bytes.length + 1
  | .lit _ => 1
  | .nil => 1
  | .ptr d => uptoBulk d + 1
  | .slice elems spare => uptoBulkAll elems + uptoBulkAll spare + 1
  | .agg parts => uptoBulkAll parts + 1
  | .iface _ d => uptoBulk d + 1
  | .map entries => uptoBulkEntries entries + 1
  | .held _ => 1
def uptoBulkAll {H : Type} : List (DataW H) → Nat
  | [] => 0
  | d :: r => uptoBulk d + uptoBulkAll r
def uptoBulkEntries {H : Type} : List (Lit × DataW H) → Nat
  | [] => 0
  | x :: r => uptoBulkEntry x + uptoBulkEntries r
def uptoBulkEntry {H : Type} : Lit × DataW H → Nat
  | (.string bytes, d) => bytes.length + uptoBulk d + 1
  | (_, d) => uptoBulk d + 1
 end
def uptoSmall : (H : Type) → List (DataW H) → Bool := fun _ ds => decide (uptoBulkAll ds ≤ 1048576)
def OpenSpec.upto (s : _root_.Go.ChangeSpec) : _root_.Go.OpenSpec := { _root_.Go.OpenSpec.ofChange s with cond := some uptoSmall }

/-- 'iceboxlaw8.BatchNorm', WHERE WHAT IT READS IS OF BULK AT MOST 1048576: true; the input reads as it did. -/
def batchNormUptoRow : OpenClaim := { program := "ytgannkfpfhdhjaa", sum := "a33561f68630405399ab89b62cc590815c7934d4b64013d79dfc5f6ce4f1427f", func := "icebox/iceboxlaw8.BatchNorm", spec := "batchNorm", unfollowed := true, recurses := true, apart := false, narrowed := true }
def BatchNormUptoSaid : Prop := batchNormUptoRow.holds Try.pinned (OpenSpec.upto batchNormSpec)

/-- 'iceboxlaw8.BatchMay', WHERE WHAT IT READS IS OF BULK AT MOST 1048576: true; the input reads as it did. -/
def batchMayUptoRow : OpenClaim := { program := "ytgannkfpfhdhjaa", sum := "a33561f68630405399ab89b62cc590815c7934d4b64013d79dfc5f6ce4f1427f", func := "icebox/iceboxlaw8.BatchMay", spec := "batchMay", unfollowed := true, recurses := true, apart := false, narrowed := true }
def BatchMayUptoSaid : Prop := batchMayUptoRow.holds Try.pinned (OpenSpec.upto batchMaySpec)

/-- 'iceboxlaw8.BatchBack', WHERE WHAT IT READS IS OF BULK AT MOST 1048576: true; the input reads as it did. -/
def batchBackUptoRow : OpenClaim := { program := "ytgannkfpfhdhjaa", sum := "a33561f68630405399ab89b62cc590815c7934d4b64013d79dfc5f6ce4f1427f", func := "icebox/iceboxlaw8.BatchBack", spec := "batchBack", unfollowed := true, recurses := true, apart := false, narrowed := true }
def BatchBackUptoSaid : Prop := batchBackUptoRow.holds Try.pinned (OpenSpec.upto batchBackSpec)

/-- 'iceboxlaw8.BatchAll', WHERE WHAT IT READS IS OF BULK AT MOST 1048576: true; the input reads as it did. -/
def batchAllUptoRow : OpenClaim := { program := "ytgannkfpfhdhjaa", sum := "a33561f68630405399ab89b62cc590815c7934d4b64013d79dfc5f6ce4f1427f", func := "icebox/iceboxlaw8.BatchAll", spec := "batchAll", unfollowed := true, recurses := true, apart := false, narrowed := true }
def BatchAllUptoSaid : Prop := batchAllUptoRow.holds Try.pinned (OpenSpec.upto batchAllSpec)

/-- 'iceboxlaw9.ReplayCuts', WHERE WHAT IT READS IS OF BULK AT MOST 1048576: true; the input reads as it did. -/
def replayCutsUptoRow : OpenClaim := { program := "ytgannkfpfhdhjaa", sum := "a33561f68630405399ab89b62cc590815c7934d4b64013d79dfc5f6ce4f1427f", func := "icebox/iceboxlaw9.ReplayCuts", spec := "replayCuts", unfollowed := true, recurses := true, apart := false, narrowed := true }
def ReplayCutsUptoSaid : Prop := replayCutsUptoRow.holds Try.pinned (OpenSpec.upto replayCutsSpec)

/-- 'iceboxlaw9.ReplaySpoilt', WHERE WHAT IT READS IS OF BULK AT MOST 1048576: true; the input reads as it did. -/
def replaySpoiltUptoRow : OpenClaim := { program := "ytgannkfpfhdhjaa", sum := "a33561f68630405399ab89b62cc590815c7934d4b64013d79dfc5f6ce4f1427f", func := "icebox/iceboxlaw9.ReplaySpoilt", spec := "replaySpoilt", unfollowed := true, recurses := true, apart := false, narrowed := true }
def ReplaySpoiltUptoSaid : Prop := replaySpoiltUptoRow.holds Try.pinned (OpenSpec.upto replaySpoiltSpec)

/-- 'iceboxlaw9.ReplayAll', WHERE WHAT IT READS IS OF BULK AT MOST 1048576: true; the input reads as it did. -/
def replayAllUptoRow : OpenClaim := { program := "ytgannkfpfhdhjaa", sum := "a33561f68630405399ab89b62cc590815c7934d4b64013d79dfc5f6ce4f1427f", func := "icebox/iceboxlaw9.ReplayAll", spec := "replayAll", unfollowed := true, recurses := true, apart := false, narrowed := true }
def ReplayAllUptoSaid : Prop := replayAllUptoRow.holds Try.pinned (OpenSpec.upto replayAllSpec)

/-- 'iceboxlaw9.ReplayJoins', WHERE WHAT IT READS IS OF BULK AT MOST 1048576: true; the input reads as it did. -/
def replayJoinsUptoRow : OpenClaim := { program := "ytgannkfpfhdhjaa", sum := "a33561f68630405399ab89b62cc590815c7934d4b64013d79dfc5f6ce4f1427f", func := "icebox/iceboxlaw9.ReplayJoins", spec := "replayJoins", unfollowed := true, recurses := true, apart := false, narrowed := true }
def ReplayJoinsUptoSaid : Prop := replayJoinsUptoRow.holds Try.pinned (OpenSpec.upto replayJoinsSpec)

/-- 'iceboxlaw9.ReplayGaps', WHERE WHAT IT READS IS OF BULK AT MOST 1048576: true; the input reads as it did. -/
def replayGapsUptoRow : OpenClaim := { program := "ytgannkfpfhdhjaa", sum := "a33561f68630405399ab89b62cc590815c7934d4b64013d79dfc5f6ce4f1427f", func := "icebox/iceboxlaw9.ReplayGaps", spec := "replayGaps", unfollowed := true, recurses := true, apart := false, narrowed := true }
def ReplayGapsUptoSaid : Prop := replayGapsUptoRow.holds Try.pinned (OpenSpec.upto replayGapsSpec)

end Rows
end Go.Proofs.Ytgannkfpfhdhjaa
