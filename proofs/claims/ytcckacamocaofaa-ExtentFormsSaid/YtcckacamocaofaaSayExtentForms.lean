/- The pure statement of ExtentForms. -/
import Derived.Test.YtcckacamocaofaaP21
import Derived.Test.YtcckacamocaofaaOpens
set_option linter.unusedVariables false
namespace Go.Proofs.Ytcckacamocaofaa.P
open Go.RowKit Go.Proofs.YtcckacamocaofaaW.PrintWords Go.Proofs.YtcckacamocaofaaW.PrintLast Go.Proofs.YtcckacamocaofaaW.PrintMore
def ExtentForms_Pure : Prop := ∀ (x0 : (List S30)) (x1 : (List Int)), (Wf22 x0) → (Wf28 x1) → ∃ k, tapearchivelaw34_ExtentForms.f k x0 x1 = some true
end Go.Proofs.Ytcckacamocaofaa.P
