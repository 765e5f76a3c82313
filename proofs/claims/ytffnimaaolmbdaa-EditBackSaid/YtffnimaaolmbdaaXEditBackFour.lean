/- Lemmas on the model's memory that the law EditBack leans on: what a row, a state, a list of values says of the cells, and how it lives on behind each step. No further conditions. -/
import Derived.Test.YtffnimaaolmbdaaXEditBackTab
/-! ### 56. Four, five, six operations that may come up next, in any order -/
namespace Go.Proofs.YtffnimaaolmbdaaW.PrintLast
section
variable {P : Program} {ops : Array Oper} {Q : Exit → Act → World → Prop} {md : Region.Mode} {S : World → Prop} {ds : List Nat} {T : Bool × List (List Nat × List Nat)}
end
end Go.Proofs.YtffnimaaolmbdaaW.PrintLast
