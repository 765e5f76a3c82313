/- Lemmas on the model's memory that the law FoldAll leans on: what a row, a state, a list of values says of the cells, and how it lives on behind each step. No further conditions. -/
import Derived.SizedLaws
import Derived.ChangeSlices
namespace Go.Proofs.YtffnimaaolmbdaaW.PrintWords
open Go.ChangeShapes Go.WideShapes
end Go.Proofs.YtffnimaaolmbdaaW.PrintWords
