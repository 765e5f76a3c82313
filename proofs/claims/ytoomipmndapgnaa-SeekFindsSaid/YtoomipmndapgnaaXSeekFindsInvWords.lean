/- Lemmas on the model's memory that the law SeekFinds leans on: what a row, a state, a list of values says of the cells, and how it lives on behind each step. No further conditions. -/
import Derived.Test.YtoomipmndapgnaaXSeekFindsInv
import Derived.Test.YtoomipmndapgnaaXSeekFindsFootNe
namespace Go.Proofs.YtoomipmndapgnaaW.PrintWords
open Go.RowKit
end Go.Proofs.YtoomipmndapgnaaW.PrintWords
namespace Go.Proofs.YtoomipmndapgnaaW.PrintLast
section
variable {ops : Array Oper} {a : Act} {o og : Oper} {g : Nat} {t : Tmp} {u : Bool}
end
end Go.Proofs.YtoomipmndapgnaaW.PrintLast
