/- Lemmas on the model's memory that the law EditTables leans on: what a row, a state, a list of values says of the cells, and how it lives on behind each step. No further conditions. -/
import Derived.Test.YtffnimaaolmbdaaXEditTablesWords
import Derived.Laws.StructEq
/-! ### 53. '==' of structs as_ one Bool -/
namespace Go.Proofs.YtffnimaaolmbdaaW.PrintWords
open Go.RowKit
section
variable {P : Program} {d : Nat} {xs ys : Array Value} {f : Field} {fs : List Field} {a b : Value} {r s : Bool} {w : World}
end
end Go.Proofs.YtffnimaaolmbdaaW.PrintWords
