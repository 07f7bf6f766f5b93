/- The pure statement of PrefetchWastes. -/
import Derived.Test.YtapbmkcncjkanaaP29
import Derived.Test.YtapbmkcncjkanaaOpens
set_option linter.unusedVariables false
namespace Go.Proofs.Ytapbmkcncjkanaa.P
open Go.RowKit Go.Proofs.YtapbmkcncjkanaaW.PrintWords Go.Proofs.YtapbmkcncjkanaaW.PrintLast Go.Proofs.YtapbmkcncjkanaaW.PrintMore
def PrefetchWastes_Pure : Prop := ∀ (x0 : (List S25)) (x1 : (List S25)) (x2 : (List S25)), (Wf38 x0) → (Wf38 x1) → (Wf38 x2) → ∃ k, tapearchivelaw36_PrefetchWastes.f k x0 x1 x2 = some true
end Go.Proofs.Ytapbmkcncjkanaa.P
