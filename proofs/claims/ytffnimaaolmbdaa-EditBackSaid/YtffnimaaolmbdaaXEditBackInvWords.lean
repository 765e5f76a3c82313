/- Lemmas on the model's memory that the law EditBack leans on: what a row, a state, a list of values says of the cells, and how it lives on behind each step. No further conditions. -/
import Derived.Test.YtffnimaaolmbdaaXEditBackInv
import Derived.Test.YtffnimaaolmbdaaXEditBackFootNe
namespace Go.Proofs.YtffnimaaolmbdaaW.PrintWords
open Go.RowKit
end Go.Proofs.YtffnimaaolmbdaaW.PrintWords
namespace Go.Proofs.YtffnimaaolmbdaaW.PrintLast
section
variable {ops : Array Oper} {a : Act} {o og : Oper} {g : Nat} {t : Tmp} {u : Bool}
end
end Go.Proofs.YtffnimaaolmbdaaW.PrintLast
