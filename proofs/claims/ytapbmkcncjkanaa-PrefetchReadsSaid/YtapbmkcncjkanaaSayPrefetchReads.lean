/- The pure statement of PrefetchReads. -/
import Derived.Test.YtapbmkcncjkanaaP11
import Derived.Test.YtapbmkcncjkanaaOpens
set_option linter.unusedVariables false
namespace Go.Proofs.Ytapbmkcncjkanaa.P
open Go.RowKit Go.Proofs.YtapbmkcncjkanaaW.PrintWords Go.Proofs.YtapbmkcncjkanaaW.PrintLast Go.Proofs.YtapbmkcncjkanaaW.PrintMore
def PrefetchReads_Pure : Prop := ∀ (x0 : S27), (Wf27 x0) → ∃ k, tapearchivelaw36_PrefetchReads.f k x0.f0.f0 x0.f0.f1 x0.f0.f2 x0.f0.f3 x0.f1.f0 x0.f1.f1 x0.f2 x0.f3 = some true
end Go.Proofs.Ytapbmkcncjkanaa.P
