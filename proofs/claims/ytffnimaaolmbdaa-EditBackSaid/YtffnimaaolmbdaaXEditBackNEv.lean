/- Lemmas on the model's memory that the law EditBack leans on: what a row, a state, a list of values says of the cells, and how it lives on behind each step. No further conditions. -/
import Derived.Test.YtffnimaaolmbdaaXEditBackN
/-! ### 48. N's events: append, a whole row appended, zeros appended, literals, make, stores, cuts, an element taken out -/
namespace Go.Proofs.YtffnimaaolmbdaaW.PrintWords
open Go.RowKit
namespace Kd
section
variable {α : Type} {d : Kd α} {e base n cap g : Nat} {ok ok' okp : Nat → Prop} {w w1 W : World} {v v1 : Value} {xs ys : List α}
end
section
variable {P : Program} {ops : Array Oper} {rest : List Oper} {o : Oper} {a : Act} {Q : Exit → Act → World → Prop} {Kc : Act → World → Prop} {α : Type}
end
end Kd
end Go.Proofs.YtffnimaaolmbdaaW.PrintWords
