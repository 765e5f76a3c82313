/-
  No cell of these rows narrows 'for every input' (looked for: loops, veiled, ifaces, maps, wideKeys, modest, calm, conditions, laid).
  DERIVED. THE GIVEN ROWS OF THIS SEAT. 10 by the template 'for every input the law returns true; each argument reads behind the call as it read before'; 0 by the template 'total and deterministic' (their statements: YtffnimaaolmbdaaTotals.lean).
  GIVEN WITH THE SEED: the statements are not yours to turn. If you find one false, say at which input.
  Laid BY PROGRAM, IN A SANDBOX (cutbox-rows.mjs): the forced cells as the released guide's own fill.sh prints them over the translation f3c11ef261598a71… (all of the seat's roots in one cut). By AI agents, Wed Nov 11 2026. No macro, syntax, notation, axiom, sorry.
-/
import Derived.Test.YtffnimaaolmbdaaChecked
import GoSem.Claim
import GoSem.ClaimJoined
import GoSem.ClaimMapViews
import Derived.JoinedTies
import Derived.KernelRfl
namespace Go.Proofs.Ytffnimaaolmbdaa
/- THE CELL 'sum', in the pinned program and in every row, IS THE sha256 OF THE DUMP (.gsa) THAT YtffnimaaolmbdaaProg.lean LOADS. Nothing in Lean hashes anything: it is a label: what it is worth is what the hold of that sum in a sandbox is worth. -/
noncomputable def Try.pinned : Pinned := { name := "ytffnimaaolmbdaa", sum := "f3c11ef261598a710f5a2e998d693973e35d1ad6a2dcf20180724a596481ff5e", checked := Try.checked }
namespace Rows
def none {H : Type} : Left H := { results := [], args := [] }

/-- 'iceboxlaw17.EditAll': WHATEVER THE INPUT: true; the input reads as it did. -/
def editAllSpec : ChangeSpec := { name := "editAll", fn := fun _ => fun
  | [d1, d2] => { results := [.lit (.bool true)], args := [d1, d2] }
  | _ => none }
def editAllRow : OpenClaim := { program := "ytffnimaaolmbdaa", sum := "f3c11ef261598a710f5a2e998d693973e35d1ad6a2dcf20180724a596481ff5e", func := "icebox/iceboxlaw17.EditAll", spec := "editAll", unfollowed := true, recurses := true, apart := false }
def EditAllSaid : Prop := editAllRow.holds Try.pinned (OpenSpec.ofChange editAllSpec)

/-- ITS FALSE NEIGHBOUR: 'it returns false'. Refute it at one input. -/
def editAllWrong : ChangeSpec := { name := "editAll", fn := fun _ => fun
  | [d1, d2] => { results := [.lit (.bool false)], args := [d1, d2] }
  | _ => none }
def EditAllWrongFalsely : Prop := editAllRow.holds Try.pinned (OpenSpec.ofChange editAllWrong)

/-- 'iceboxlaw17.EditBack': WHATEVER THE INPUT: true; the input reads as it did. -/
def editBackSpec : ChangeSpec := { name := "editBack", fn := fun _ => fun
  | [d1, d2, d3, d4, d5, d6, d7, d8] => { results := [.lit (.bool true)], args := [d1, d2, d3, d4, d5, d6, d7, d8] }
  | _ => none }
def editBackRow : OpenClaim := { program := "ytffnimaaolmbdaa", sum := "f3c11ef261598a710f5a2e998d693973e35d1ad6a2dcf20180724a596481ff5e", func := "icebox/iceboxlaw17.EditBack", spec := "editBack", unfollowed := true, recurses := true, apart := false }
def EditBackSaid : Prop := editBackRow.holds Try.pinned (OpenSpec.ofChange editBackSpec)

/-- ITS FALSE NEIGHBOUR: 'it returns false'. Refute it at one input. -/
def editBackWrong : ChangeSpec := { name := "editBack", fn := fun _ => fun
  | [d1, d2, d3, d4, d5, d6, d7, d8] => { results := [.lit (.bool false)], args := [d1, d2, d3, d4, d5, d6, d7, d8] }
  | _ => none }
def EditBackWrongFalsely : Prop := editBackRow.holds Try.pinned (OpenSpec.ofChange editBackWrong)

/-- 'iceboxlaw17.EditTables': WHATEVER THE INPUT: true; the input reads as it did. -/
def editTablesSpec : ChangeSpec := { name := "editTables", fn := fun _ => fun
  | [d1, d2, d3] => { results := [.lit (.bool true)], args := [d1, d2, d3] }
  | _ => none }
def editTablesRow : OpenClaim := { program := "ytffnimaaolmbdaa", sum := "f3c11ef261598a710f5a2e998d693973e35d1ad6a2dcf20180724a596481ff5e", func := "icebox/iceboxlaw17.EditTables", spec := "editTables", unfollowed := true, recurses := true, apart := false }
def EditTablesSaid : Prop := editTablesRow.holds Try.pinned (OpenSpec.ofChange editTablesSpec)

/-- ITS FALSE NEIGHBOUR: 'it returns false'. Refute it at one input. -/
def editTablesWrong : ChangeSpec := { name := "editTables", fn := fun _ => fun
  | [d1, d2, d3] => { results := [.lit (.bool false)], args := [d1, d2, d3] }
  | _ => none }
def EditTablesWrongFalsely : Prop := editTablesRow.holds Try.pinned (OpenSpec.ofChange editTablesWrong)

/-- 'iceboxlaw18.VersionOld': WHATEVER THE INPUT: true; the input reads as it did. -/
def versionOldSpec : ChangeSpec := { name := "versionOld", fn := fun _ => fun
  | [d1, d2, d3] => { results := [.lit (.bool true)], args := [d1, d2, d3] }
  | _ => none }
def versionOldRow : OpenClaim := { program := "ytffnimaaolmbdaa", sum := "f3c11ef261598a710f5a2e998d693973e35d1ad6a2dcf20180724a596481ff5e", func := "icebox/iceboxlaw18.VersionOld", spec := "versionOld", unfollowed := true, recurses := true, apart := false }
def VersionOldSaid : Prop := versionOldRow.holds Try.pinned (OpenSpec.ofChange versionOldSpec)

/-- ITS FALSE NEIGHBOUR: 'it returns false'. Refute it at one input. -/
def versionOldWrong : ChangeSpec := { name := "versionOld", fn := fun _ => fun
  | [d1, d2, d3] => { results := [.lit (.bool false)], args := [d1, d2, d3] }
  | _ => none }
def VersionOldWrongFalsely : Prop := versionOldRow.holds Try.pinned (OpenSpec.ofChange versionOldWrong)

/-- 'iceboxlaw18.VersionMay': WHATEVER THE INPUT: true; the input reads as it did. -/
def versionMaySpec : ChangeSpec := { name := "versionMay", fn := fun _ => fun
  | [d1, d2, d3] => { results := [.lit (.bool true)], args := [d1, d2, d3] }
  | _ => none }
def versionMayRow : OpenClaim := { program := "ytffnimaaolmbdaa", sum := "f3c11ef261598a710f5a2e998d693973e35d1ad6a2dcf20180724a596481ff5e", func := "icebox/iceboxlaw18.VersionMay", spec := "versionMay", unfollowed := true, recurses := true, apart := false }
def VersionMaySaid : Prop := versionMayRow.holds Try.pinned (OpenSpec.ofChange versionMaySpec)

/-- ITS FALSE NEIGHBOUR: 'it returns false'. Refute it at one input. -/
def versionMayWrong : ChangeSpec := { name := "versionMay", fn := fun _ => fun
  | [d1, d2, d3] => { results := [.lit (.bool false)], args := [d1, d2, d3] }
  | _ => none }
def VersionMayWrongFalsely : Prop := versionMayRow.holds Try.pinned (OpenSpec.ofChange versionMayWrong)

/-- 'iceboxlaw18.VersionSearch': WHATEVER THE INPUT: true; the input reads as it did. -/
def versionSearchSpec : ChangeSpec := { name := "versionSearch", fn := fun _ => fun
  | [d1, d2] => { results := [.lit (.bool true)], args := [d1, d2] }
  | _ => none }
def versionSearchRow : OpenClaim := { program := "ytffnimaaolmbdaa", sum := "f3c11ef261598a710f5a2e998d693973e35d1ad6a2dcf20180724a596481ff5e", func := "icebox/iceboxlaw18.VersionSearch", spec := "versionSearch", unfollowed := true, recurses := true, apart := false }
def VersionSearchSaid : Prop := versionSearchRow.holds Try.pinned (OpenSpec.ofChange versionSearchSpec)

/-- ITS FALSE NEIGHBOUR: 'it returns false'. Refute it at one input. -/
def versionSearchWrong : ChangeSpec := { name := "versionSearch", fn := fun _ => fun
  | [d1, d2] => { results := [.lit (.bool false)], args := [d1, d2] }
  | _ => none }
def VersionSearchWrongFalsely : Prop := versionSearchRow.holds Try.pinned (OpenSpec.ofChange versionSearchWrong)

/-- 'iceboxlaw18.VersionMade': WHATEVER THE INPUT: true; the input reads as it did. -/
def versionMadeSpec : ChangeSpec := { name := "versionMade", fn := fun _ => fun
  | [d1, d2, d3, d4, d5, d6, d7] => { results := [.lit (.bool true)], args := [d1, d2, d3, d4, d5, d6, d7] }
  | _ => none }
def versionMadeRow : OpenClaim := { program := "ytffnimaaolmbdaa", sum := "f3c11ef261598a710f5a2e998d693973e35d1ad6a2dcf20180724a596481ff5e", func := "icebox/iceboxlaw18.VersionMade", spec := "versionMade", unfollowed := true, recurses := true, apart := false }
def VersionMadeSaid : Prop := versionMadeRow.holds Try.pinned (OpenSpec.ofChange versionMadeSpec)

/-- ITS FALSE NEIGHBOUR: 'it returns false'. Refute it at one input. -/
def versionMadeWrong : ChangeSpec := { name := "versionMade", fn := fun _ => fun
  | [d1, d2, d3, d4, d5, d6, d7] => { results := [.lit (.bool false)], args := [d1, d2, d3, d4, d5, d6, d7] }
  | _ => none }
def VersionMadeWrongFalsely : Prop := versionMadeRow.holds Try.pinned (OpenSpec.ofChange versionMadeWrong)

/-- 'iceboxlaw24.FoldOn': WHATEVER THE INPUT: true; the input reads as it did. -/
def foldOnSpec : ChangeSpec := { name := "foldOn", fn := fun _ => fun
  | [d1, d2] => { results := [.lit (.bool true)], args := [d1, d2] }
  | _ => none }
def foldOnRow : OpenClaim := { program := "ytffnimaaolmbdaa", sum := "f3c11ef261598a710f5a2e998d693973e35d1ad6a2dcf20180724a596481ff5e", func := "icebox/iceboxlaw24.FoldOn", spec := "foldOn", unfollowed := true, recurses := true, apart := false }
def FoldOnSaid : Prop := foldOnRow.holds Try.pinned (OpenSpec.ofChange foldOnSpec)

/-- ITS FALSE NEIGHBOUR: 'it returns false'. Refute it at one input. -/
def foldOnWrong : ChangeSpec := { name := "foldOn", fn := fun _ => fun
  | [d1, d2] => { results := [.lit (.bool false)], args := [d1, d2] }
  | _ => none }
def FoldOnWrongFalsely : Prop := foldOnRow.holds Try.pinned (OpenSpec.ofChange foldOnWrong)

/-- 'iceboxlaw24.FoldScans': WHATEVER THE INPUT: true; the input reads as it did. -/
def foldScansSpec : ChangeSpec := { name := "foldScans", fn := fun _ => fun
  | [d1, d2] => { results := [.lit (.bool true)], args := [d1, d2] }
  | _ => none }
def foldScansRow : OpenClaim := { program := "ytffnimaaolmbdaa", sum := "f3c11ef261598a710f5a2e998d693973e35d1ad6a2dcf20180724a596481ff5e", func := "icebox/iceboxlaw24.FoldScans", spec := "foldScans", unfollowed := true, recurses := true, apart := false }
def FoldScansSaid : Prop := foldScansRow.holds Try.pinned (OpenSpec.ofChange foldScansSpec)

/-- ITS FALSE NEIGHBOUR: 'it returns false'. Refute it at one input. -/
def foldScansWrong : ChangeSpec := { name := "foldScans", fn := fun _ => fun
  | [d1, d2] => { results := [.lit (.bool false)], args := [d1, d2] }
  | _ => none }
def FoldScansWrongFalsely : Prop := foldScansRow.holds Try.pinned (OpenSpec.ofChange foldScansWrong)

/-- 'iceboxlaw24.FoldAll': WHATEVER THE INPUT: true; the input reads as it did. -/
def foldAllSpec : ChangeSpec := { name := "foldAll", fn := fun _ => fun
  | [d1, d2, d3, d4, d5, d6, d7, d8] => { results := [.lit (.bool true)], args := [d1, d2, d3, d4, d5, d6, d7, d8] }
  | _ => none }
def foldAllRow : OpenClaim := { program := "ytffnimaaolmbdaa", sum := "f3c11ef261598a710f5a2e998d693973e35d1ad6a2dcf20180724a596481ff5e", func := "icebox/iceboxlaw24.FoldAll", spec := "foldAll", unfollowed := true, recurses := true, apart := false }
def FoldAllSaid : Prop := foldAllRow.holds Try.pinned (OpenSpec.ofChange foldAllSpec)

/-- ITS FALSE NEIGHBOUR: 'it returns false'. Refute it at one input. -/
def foldAllWrong : ChangeSpec := { name := "foldAll", fn := fun _ => fun
  | [d1, d2, d3, d4, d5, d6, d7, d8] => { results := [.lit (.bool false)], args := [d1, d2, d3, d4, d5, d6, d7, d8] }
  | _ => none }
def FoldAllWrongFalsely : Prop := foldAllRow.holds Try.pinned (OpenSpec.ofChange foldAllWrong)

/- THE SECOND FORM. 'bulk': how many values and letters a reading holds, each counted each time it is reached (what is shared counts as often as it is met; a slice's spare places count too). A statement '..UptoSaid' is the law's where the arguments, and the package variables that the reading takes, are together of bulk at most 1048576: NARROWER than '..Said'. Prove '..Said' where nothing that the law and all that it calls make is longer than what came in: it says more and counts as full. Else prove '..UptoSaid'. A law counts once. -/
mutual
def uptoBulk {H : Type} : DataW H → Nat
  | .lit (.string bytes) => bytes.length + 1
  | .lit _ => 1
  | .nil => 1
  | .ptr d => uptoBulk d + 1
  | .slice elems spare => uptoBulkAll elems + uptoBulkAll spare + 1
  | .agg parts => uptoBulkAll parts + 1
  | .iface _ d => uptoBulk d + 1
  | .map entries => uptoBulkEntries entries + 1
  | .held _ => 1
def uptoBulkAll {H : Type} : List (DataW H) → Nat
  | [] => 0
  | d :: r => uptoBulk d + uptoBulkAll r
def uptoBulkEntries {H : Type} : List (Lit × DataW H) → Nat
  | [] => 0
  | x :: r => uptoBulkEntry x + uptoBulkEntries r
def uptoBulkEntry {H : Type} : Lit × DataW H → Nat
  | (.string bytes, d) => bytes.length + uptoBulk d + 1
  | (_, d) => uptoBulk d + 1
 end
def uptoSmall : (H : Type) → List (DataW H) → Bool := fun _ ds => decide (uptoBulkAll ds ≤ 1048576)
def OpenSpec.upto (s : _root_.Go.ChangeSpec) : _root_.Go.OpenSpec := { _root_.Go.OpenSpec.ofChange s with cond := some uptoSmall }

/-- 'iceboxlaw17.EditAll', WHERE WHAT IT READS IS OF BULK AT MOST 1048576: true; the input reads as it did. -/
def editAllUptoRow : OpenClaim := { program := "ytffnimaaolmbdaa", sum := "f3c11ef261598a710f5a2e998d693973e35d1ad6a2dcf20180724a596481ff5e", func := "icebox/iceboxlaw17.EditAll", spec := "editAll", unfollowed := true, recurses := true, apart := false, narrowed := true }
def EditAllUptoSaid : Prop := editAllUptoRow.holds Try.pinned (OpenSpec.upto editAllSpec)

/-- 'iceboxlaw17.EditBack', WHERE WHAT IT READS IS OF BULK AT MOST 1048576: true; the input reads as it did. -/
def editBackUptoRow : OpenClaim := { program := "ytffnimaaolmbdaa", sum := "f3c11ef261598a710f5a2e998d693973e35d1ad6a2dcf20180724a596481ff5e", func := "icebox/iceboxlaw17.EditBack", spec := "editBack", unfollowed := true, recurses := true, apart := false, narrowed := true }
def EditBackUptoSaid : Prop := editBackUptoRow.holds Try.pinned (OpenSpec.upto editBackSpec)

/-- 'iceboxlaw17.EditTables', WHERE WHAT IT READS IS OF BULK AT MOST 1048576: true; the input reads as it did. -/
def editTablesUptoRow : OpenClaim := { program := "ytffnimaaolmbdaa", sum := "f3c11ef261598a710f5a2e998d693973e35d1ad6a2dcf20180724a596481ff5e", func := "icebox/iceboxlaw17.EditTables", spec := "editTables", unfollowed := true, recurses := true, apart := false, narrowed := true }
def EditTablesUptoSaid : Prop := editTablesUptoRow.holds Try.pinned (OpenSpec.upto editTablesSpec)

/-- 'iceboxlaw18.VersionOld', WHERE WHAT IT READS IS OF BULK AT MOST 1048576: true; the input reads as it did. -/
def versionOldUptoRow : OpenClaim := { program := "ytffnimaaolmbdaa", sum := "f3c11ef261598a710f5a2e998d693973e35d1ad6a2dcf20180724a596481ff5e", func := "icebox/iceboxlaw18.VersionOld", spec := "versionOld", unfollowed := true, recurses := true, apart := false, narrowed := true }
def VersionOldUptoSaid : Prop := versionOldUptoRow.holds Try.pinned (OpenSpec.upto versionOldSpec)

/-- 'iceboxlaw18.VersionMay', WHERE WHAT IT READS IS OF BULK AT MOST 1048576: true; the input reads as it did. -/
def versionMayUptoRow : OpenClaim := { program := "ytffnimaaolmbdaa", sum := "f3c11ef261598a710f5a2e998d693973e35d1ad6a2dcf20180724a596481ff5e", func := "icebox/iceboxlaw18.VersionMay", spec := "versionMay", unfollowed := true, recurses := true, apart := false, narrowed := true }
def VersionMayUptoSaid : Prop := versionMayUptoRow.holds Try.pinned (OpenSpec.upto versionMaySpec)

/-- 'iceboxlaw18.VersionSearch', WHERE WHAT IT READS IS OF BULK AT MOST 1048576: true; the input reads as it did. -/
def versionSearchUptoRow : OpenClaim := { program := "ytffnimaaolmbdaa", sum := "f3c11ef261598a710f5a2e998d693973e35d1ad6a2dcf20180724a596481ff5e", func := "icebox/iceboxlaw18.VersionSearch", spec := "versionSearch", unfollowed := true, recurses := true, apart := false, narrowed := true }
def VersionSearchUptoSaid : Prop := versionSearchUptoRow.holds Try.pinned (OpenSpec.upto versionSearchSpec)

/-- 'iceboxlaw18.VersionMade', WHERE WHAT IT READS IS OF BULK AT MOST 1048576: true; the input reads as it did. -/
def versionMadeUptoRow : OpenClaim := { program := "ytffnimaaolmbdaa", sum := "f3c11ef261598a710f5a2e998d693973e35d1ad6a2dcf20180724a596481ff5e", func := "icebox/iceboxlaw18.VersionMade", spec := "versionMade", unfollowed := true, recurses := true, apart := false, narrowed := true }
def VersionMadeUptoSaid : Prop := versionMadeUptoRow.holds Try.pinned (OpenSpec.upto versionMadeSpec)

/-- 'iceboxlaw24.FoldOn', WHERE WHAT IT READS IS OF BULK AT MOST 1048576: true; the input reads as it did. -/
def foldOnUptoRow : OpenClaim := { program := "ytffnimaaolmbdaa", sum := "f3c11ef261598a710f5a2e998d693973e35d1ad6a2dcf20180724a596481ff5e", func := "icebox/iceboxlaw24.FoldOn", spec := "foldOn", unfollowed := true, recurses := true, apart := false, narrowed := true }
def FoldOnUptoSaid : Prop := foldOnUptoRow.holds Try.pinned (OpenSpec.upto foldOnSpec)

/-- 'iceboxlaw24.FoldScans', WHERE WHAT IT READS IS OF BULK AT MOST 1048576: true; the input reads as it did. -/
def foldScansUptoRow : OpenClaim := { program := "ytffnimaaolmbdaa", sum := "f3c11ef261598a710f5a2e998d693973e35d1ad6a2dcf20180724a596481ff5e", func := "icebox/iceboxlaw24.FoldScans", spec := "foldScans", unfollowed := true, recurses := true, apart := false, narrowed := true }
def FoldScansUptoSaid : Prop := foldScansUptoRow.holds Try.pinned (OpenSpec.upto foldScansSpec)

/-- 'iceboxlaw24.FoldAll', WHERE WHAT IT READS IS OF BULK AT MOST 1048576: true; the input reads as it did. -/
def foldAllUptoRow : OpenClaim := { program := "ytffnimaaolmbdaa", sum := "f3c11ef261598a710f5a2e998d693973e35d1ad6a2dcf20180724a596481ff5e", func := "icebox/iceboxlaw24.FoldAll", spec := "foldAll", unfollowed := true, recurses := true, apart := false, narrowed := true }
def FoldAllUptoSaid : Prop := foldAllUptoRow.holds Try.pinned (OpenSpec.upto foldAllSpec)

end Rows
end Go.Proofs.Ytffnimaaolmbdaa
