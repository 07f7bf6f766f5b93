/- ExtentRounds, as a fact on lists. -/
import Derived.Test.YtcckacamocaofaaRefD
import Derived.Test.YtcckacamocaofaaSayExtentRounds
set_option linter.unusedVariables false
set_option linter.unusedSimpArgs false
namespace Go.Proofs.Ytcckacamocaofaa.P
open Go.RowKit Go.Proofs Go.Proofs.YtcckacamocaofaaW.PrintWords Go.Proofs.YtcckacamocaofaaW.PrintLast Go.Proofs.YtcckacamocaofaaW.PrintMore

theorem ExtentRounds : ExtentRounds_Pure := by
  intro a size limit gap _ hs _ _
  by_cases hf : a.length ≤ 60 ∧ ([] : List Sp).length ≤ 60
  · have u1 := (normal_ev a (by unfold bigS; omega)).2.2
    have u2 := gapsL_length gap (nrm a)
    obtain ⟨k1, h1⟩ := align_ev a size limit (by omega) hs.2
    obtain ⟨k2, h2⟩ := refAlign_ev a size limit (by omega) hs.2
    obtain ⟨k3, h3⟩ := gaps_ev a gap (by omega)
    obtain ⟨k4, h4⟩ := refGaps_ev a gap (by omega)
    obtain ⟨k5, h5⟩ := Same_ev (alignL a size limit) (alignL_length a size limit (by omega))
    obtain ⟨k6, h6⟩ := Same_ev (gapsL gap (nrm a)) (by omega)
    refine ⟨k1 + k2 + k3 + k4 + k5 + k6, ?_⟩
    generalize hk : k1 + k2 + k3 + k4 + k5 + k6 = k
    have h1 := h1 k (by omega); have h2 := h2 k (by omega); have h3 := h3 k (by omega); have h4 := h4 k (by omega); have h5 := h5 k (by omega); have h6 := h6 k (by omega)
    dsimp only at h1 h2 h3 h4 h5 h6
    unfold tapearchivelaw34_ExtentRounds.f tapearchivelaw34_lives_s.f
    rw [few_eq, decide_eq_true hf, h1, h2, h3, h4]
    simp only [Option.bind_some, if_true]
    rw [h5]
    simp only [Option.bind_some, if_true]
    rw [h6]
    simp
  · refine ⟨0, ?_⟩
    unfold tapearchivelaw34_ExtentRounds.f tapearchivelaw34_lives_s.f
    rw [few_eq, decide_eq_false hf]
    simp
end Go.Proofs.Ytcckacamocaofaa.P
