/- The pure statement of ExtentContains. -/
import Derived.Test.YtcckacamocaofaaP22
import Derived.Test.YtcckacamocaofaaOpens
set_option linter.unusedVariables false
namespace Go.Proofs.Ytcckacamocaofaa.P
open Go.RowKit Go.Proofs.YtcckacamocaofaaW.PrintWords Go.Proofs.YtcckacamocaofaaW.PrintLast Go.Proofs.YtcckacamocaofaaW.PrintMore
def ExtentContains_Pure : Prop := ∀ (x0 : (List S30)) (x1 : Int) (x2 : Int), (Wf22 x0) → (0 ≤ x1 ∧ x1 ≤ 65535) → ((-9223372036854775808) ≤ x2 ∧ x2 ≤ 9223372036854775807) → ∃ k, tapearchivelaw34_ExtentContains.f k x0 x1 x2 = some true
end Go.Proofs.Ytcckacamocaofaa.P
