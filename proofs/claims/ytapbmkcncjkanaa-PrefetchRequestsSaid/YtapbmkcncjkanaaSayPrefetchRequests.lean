/- The pure statement of PrefetchRequests. -/
import Derived.Test.YtapbmkcncjkanaaP23
import Derived.Test.YtapbmkcncjkanaaOpens
set_option linter.unusedVariables false
namespace Go.Proofs.Ytapbmkcncjkanaa.P
open Go.RowKit Go.Proofs.YtapbmkcncjkanaaW.PrintWords Go.Proofs.YtapbmkcncjkanaaW.PrintLast Go.Proofs.YtapbmkcncjkanaaW.PrintMore
def PrefetchRequests_Pure : Prop := ∀ (x0 : (List S25)) (x1 : S25) (x2 : S27), (Wf38 x0) → (Wf25 x1) → (Wf27 x2) → ∃ k, tapearchivelaw36_PrefetchRequests.f k x0 x1.f0 x1.f1 x2.f0.f0 x2.f0.f1 x2.f0.f2 x2.f0.f3 x2.f1.f0 x2.f1.f1 x2.f2 x2.f3 = some true
end Go.Proofs.Ytapbmkcncjkanaa.P
