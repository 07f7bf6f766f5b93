/- PrefetchReads, as a fact on numbers. -/
import Derived.Test.YtapbmkcncjkanaaPreR
import Derived.Test.YtapbmkcncjkanaaSayPrefetchReads
set_option linter.unusedVariables false
set_option linter.unusedSimpArgs false
namespace Go.Proofs.Ytapbmkcncjkanaa.P
open Go.RowKit Go.Proofs Go.Proofs.YtapbmkcncjkanaaW.PrintWords Go.Proofs.YtapbmkcncjkanaaW.PrintLast Go.Proofs.YtapbmkcncjkanaaW.PrintMore

theorem PrefetchReads : PrefetchReads_Pure := by
  intro c _
  obtain ⟨k1, h1⟩ := read_ev ⟨c.f0.f0, c.f0.f1, c.f0.f2, c.f0.f3⟩ ⟨c.f1.f0, c.f1.f1⟩ c.f2 c.f3
  obtain ⟨k2, h2⟩ := refRead_ev ⟨c.f0.f0, c.f0.f1, c.f0.f2, c.f0.f3⟩ ⟨c.f1.f0, c.f1.f1⟩ c.f2 c.f3
  refine ⟨k1 + k2, ?_⟩
  have h1 := h1 (k1 + k2) (by omega)
  have h2 := h2 (k1 + k2) (by omega)
  dsimp only at h1 h2
  unfold tapearchivelaw36_PrefetchReads.f tapearchivelaw36_stream.f tapearchivelaw36_awake_s.f
  simp only [Option.bind_some]
  rw [h1, h2]
  simp
end Go.Proofs.Ytapbmkcncjkanaa.P
