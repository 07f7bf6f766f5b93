/- The pure statement of ExtentRounds. -/
import Derived.Test.YtcckacamocaofaaP20
import Derived.Test.YtcckacamocaofaaOpens
set_option linter.unusedVariables false
namespace Go.Proofs.Ytcckacamocaofaa.P
open Go.RowKit Go.Proofs.YtcckacamocaofaaW.PrintWords Go.Proofs.YtcckacamocaofaaW.PrintLast Go.Proofs.YtcckacamocaofaaW.PrintMore
def ExtentRounds_Pure : Prop := ∀ (x0 : (List S30)) (x1 : Int) (x2 : Int) (x3 : Int), (Wf22 x0) → ((-9223372036854775808) ≤ x1 ∧ x1 ≤ 9223372036854775807) → ((-9223372036854775808) ≤ x2 ∧ x2 ≤ 9223372036854775807) → ((-9223372036854775808) ≤ x3 ∧ x3 ≤ 9223372036854775807) → ∃ k, tapearchivelaw34_ExtentRounds.f k x0 x1 x2 x3 = some true
end Go.Proofs.Ytcckacamocaofaa.P
