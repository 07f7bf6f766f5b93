/- The pure statement of ExtentAlgebra. -/
import Derived.Test.YtcckacamocaofaaP24
import Derived.Test.YtcckacamocaofaaOpens
set_option linter.unusedVariables false
namespace Go.Proofs.Ytcckacamocaofaa.P
open Go.RowKit Go.Proofs.YtcckacamocaofaaW.PrintWords Go.Proofs.YtcckacamocaofaaW.PrintLast Go.Proofs.YtcckacamocaofaaW.PrintMore
def ExtentAlgebra_Pure : Prop := ∀ (x0 : (List S30)) (x1 : (List S30)) (x2 : Int), (Wf22 x0) → (Wf22 x1) → ((-9223372036854775808) ≤ x2 ∧ x2 ≤ 9223372036854775807) → ∃ k, tapearchivelaw34_ExtentAlgebra.f k x0 x1 x2 = some true
end Go.Proofs.Ytcckacamocaofaa.P
