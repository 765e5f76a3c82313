/- The pure statement of the law SeekNil: over the Lean functions that the Go code was shown to compute, the law answers true for every input within the statement's own bounds. No further conditions. -/
import Derived.Test.YtoomipmndapgnaaPSeekNilx1
import Derived.Test.YtoomipmndapgnaaPSeekNilx4
namespace Go.Proofs.Ytoomipmndapgnaa.Pure
open Go.RowKit Go.Proofs.Ytoomipmndapgnaa.PSeekNil Go.Proofs.YtoomipmndapgnaaW.PrintWords Go.Proofs.YtoomipmndapgnaaW.PrintLast Go.Proofs.YtoomipmndapgnaaW.PrintMore
set_option linter.unusedVariables false
set_option linter.unusedSimpArgs false

theorem awake14_yes : iceboxlaw14_awake.f 60 = some true := by decide +kernel
theorem SeekNil : iceboxlaw14_SeekNil.Pure := fun a b c => ⟨60, awake14_yes⟩

end Go.Proofs.Ytoomipmndapgnaa.Pure
