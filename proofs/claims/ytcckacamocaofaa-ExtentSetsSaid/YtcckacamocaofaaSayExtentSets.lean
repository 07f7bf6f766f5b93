/- The pure statement of ExtentSets. -/
import Derived.Test.YtcckacamocaofaaP17
import Derived.Test.YtcckacamocaofaaOpens
set_option linter.unusedVariables false
namespace Go.Proofs.Ytcckacamocaofaa.P
open Go.RowKit Go.Proofs.YtcckacamocaofaaW.PrintWords Go.Proofs.YtcckacamocaofaaW.PrintLast Go.Proofs.YtcckacamocaofaaW.PrintMore
def ExtentSets_Pure : Prop := ∀ (x0 : (List S30)) (x1 : (List S30)) (x2 : S30), (Wf22 x0) → (Wf22 x1) → (Wf30 x2) → ∃ k, tapearchivelaw34_ExtentSets.f k x0 x1 x2.f0 x2.f1 = some true
end Go.Proofs.Ytcckacamocaofaa.P
