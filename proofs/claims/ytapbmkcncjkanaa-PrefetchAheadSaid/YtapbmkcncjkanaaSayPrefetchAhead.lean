/- The pure statement of PrefetchAhead. -/
import Derived.Test.YtapbmkcncjkanaaP12
import Derived.Test.YtapbmkcncjkanaaOpens
set_option linter.unusedVariables false
namespace Go.Proofs.Ytapbmkcncjkanaa.P
open Go.RowKit Go.Proofs.YtapbmkcncjkanaaW.PrintWords Go.Proofs.YtapbmkcncjkanaaW.PrintLast Go.Proofs.YtapbmkcncjkanaaW.PrintMore
def PrefetchAhead_Pure : Prop := ∀ (x0 : (List Int)) (x1 : Int) (x2 : Int), (Wf36 x0) → ((-9223372036854775808) ≤ x1 ∧ x1 ≤ 9223372036854775807) → ((-9223372036854775808) ≤ x2 ∧ x2 ≤ 9223372036854775807) → ∃ k, tapearchivelaw36_PrefetchAhead.f k x0 x1 x2 = some true
end Go.Proofs.Ytapbmkcncjkanaa.P
