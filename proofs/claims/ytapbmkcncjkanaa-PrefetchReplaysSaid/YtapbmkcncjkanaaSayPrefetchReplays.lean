/- The pure statement of PrefetchReplays. -/
import Derived.Test.YtapbmkcncjkanaaP26
import Derived.Test.YtapbmkcncjkanaaOpens
set_option linter.unusedVariables false
namespace Go.Proofs.Ytapbmkcncjkanaa.P
open Go.RowKit Go.Proofs.YtapbmkcncjkanaaW.PrintWords Go.Proofs.YtapbmkcncjkanaaW.PrintLast Go.Proofs.YtapbmkcncjkanaaW.PrintMore
def PrefetchReplays_Pure : Prop := ∀ (x0 : (List S25)) (x1 : Int) (x2 : Int), (Wf38 x0) → ((-9223372036854775808) ≤ x1 ∧ x1 ≤ 9223372036854775807) → ((-9223372036854775808) ≤ x2 ∧ x2 ≤ 9223372036854775807) → ∃ k, w36_PrefetchReplays.f k x0 x1 x2 = some true
end Go.Proofs.Ytapbmkcncjkanaa.P
