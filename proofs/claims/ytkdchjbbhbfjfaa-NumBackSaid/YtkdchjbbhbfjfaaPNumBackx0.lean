/- The functions that a law reaches, as Lean functions, each with the contract that its Go code comes to just these answers. Written by a program of this claim's author (wip/mkprint.py). No conditions. -/
import Derived.Test.YtkdchjbbhbfjfaaProg
import Derived.Below
import Derived.Deep.Draws
import Derived.Deep.AppendLies
import Derived.Maps.AppendAt
import Derived.OwnWalk
import Derived.Laws.BytesArg
import Derived.Laws.MakeOwn
import Derived.Laws.OwnMore
import Derived.Deep.OwnRows
import Derived.Tactics
import Derived.Lib.ConvBytes
import Derived.Laws.Slices
import Derived.WalkKit
import Derived.KernelRfl
import Derived.RowKit3
import Derived.Deep.LoopGhost
import Derived.Deep.QuietTactic
import Derived.BigQuiet
import Derived.WideLaws
import Derived.Deep.DeepCutAuto
import Derived.Deep.CutBlock
import Derived.Deep.RegionHeld3
import Derived.Laws.Rows
import Derived.Lib.AppendStr
import Derived.ArgAppend
import Derived.Laws.IdiomCopy
import Derived.OrdersHeld
import Derived.Laws.BitsLemmas
import Derived.RowKit
import Derived.Test.YtkdchjbbhbfjfaaWWords
import Derived.Test.YtkdchjbbhbfjfaaWLast
import Derived.Test.YtkdchjbbhbfjfaaWTab
import Derived.Test.YtkdchjbbhbfjfaaWFour
import Derived.Test.YtkdchjbbhbfjfaaWQPut
import Derived.Test.YtkdchjbbhbfjfaaWApart
import Derived.Test.YtkdchjbbhbfjfaaWArr
import Derived.Test.YtkdchjbbhbfjfaaWZeros
import Derived.Test.YtkdchjbbhbfjfaaWFoot
import Derived.Test.YtkdchjbbhbfjfaaWKept
import Derived.Test.YtkdchjbbhbfjfaaWShare
import Derived.Test.YtkdchjbbhbfjfaaWN
import Derived.Test.YtkdchjbbhbfjfaaWFootNe
import Derived.Test.YtkdchjbbhbfjfaaWAt
import Derived.Test.YtkdchjbbhbfjfaaWEqStruct
import Derived.Test.YtkdchjbbhbfjfaaWRepsOne
import Derived.Test.YtkdchjbbhbfjfaaWInv
import Derived.Test.YtkdchjbbhbfjfaaWInvWords
import Derived.Test.YtkdchjbbhbfjfaaWGuard
import Derived.Test.YtkdchjbbhbfjfaaWNEv
import Derived.Test.YtkdchjbbhbfjfaaWMore
namespace Go.Proofs.Ytkdchjbbhbfjfaa.PNumBack
open Go.RowKit Go.Proofs.YtkdchjbbhbfjfaaW.PrintWords Go.Proofs.YtkdchjbbhbfjfaaW.PrintLast Go.Proofs.YtkdchjbbhbfjfaaW.PrintMore
attribute [local go_sem] max2_int min2_int max_two min_two max_three min_three max_four min_four   -- for this text's walks alone
set_option linter.unusedVariables false
set_option linter.unusedSimpArgs false



def errW : Option Int → Value
  | none => .nilIface
  | some c => .iface 0 (.int .i64 c)
theorem errW_none : errW none = .nilIface := rfl
theorem errW_some (c : Int) : errW (some c) = .iface 0 (.int .i64 c) := rfl

theorem info5 : (Try.prog.info? 5).map (fun i => (i.zero, i.size, i.bytes)) = some (some (.int .u8 0), 1, 1) := by kernel_rfl
-- the values' own types

end Go.Proofs.Ytkdchjbbhbfjfaa.PNumBack
