/- Lemmas on the model's memory that the law EditBack leans on: what a row, a state, a list of values says of the cells, and how it lives on behind each step. No further conditions. -/
import Derived.Test.YtffnimaaolmbdaaXEditBackTab
/-! ### 57. A region of open order by ONE relation over what is listed so far: each operation is shown once, whatever came up before it -/
namespace Go.Proofs.YtffnimaaolmbdaaW.PrintLast
section
variable {P : Program} {ops : Array Oper} {Q : Exit → Act → World → Prop} {md : Region.Mode} {T : Bool × List (List Nat × List Nat)} {B : List Nat} {O : List Nat} {b : Nat → Bool} {i j n : Nat}
/-! The frame: what is listed has its destination filled. -/
end
end Go.Proofs.YtffnimaaolmbdaaW.PrintLast
