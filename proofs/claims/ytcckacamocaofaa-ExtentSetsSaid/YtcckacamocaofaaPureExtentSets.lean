/- ExtentSets, as a fact on lists. -/
import Derived.Test.YtcckacamocaofaaRefC
import Derived.Test.YtcckacamocaofaaSayExtentSets
set_option linter.unusedVariables false
set_option linter.unusedSimpArgs false
namespace Go.Proofs.Ytcckacamocaofaa.P
open Go.RowKit Go.Proofs Go.Proofs.YtcckacamocaofaaW.PrintWords Go.Proofs.YtcckacamocaofaaW.PrintLast Go.Proofs.YtcckacamocaofaaW.PrintMore

theorem ExtentSets : ExtentSets_Pure := by
  intro a b s _ _ _
  by_cases hf : a.length ≤ 60 ∧ b.length ≤ 60
  · have u1 := (normal_ev a (by unfold bigS; omega)).2.2
    have u2 := (union_ev a b (by unfold bigS; omega) (by unfold bigS; omega)).2.2
    have u3 := (inter_ev a b (by unfold bigS; omega) (by unfold bigS; omega)).2.2
    have u4 := (sub_ev a b (by unfold bigS; omega) (by unfold bigS; omega)).2.2
    obtain ⟨k1, h1⟩ := refNormal_ev a (by omega)
    obtain ⟨k2, h2⟩ := refUnion_ev a b (by omega) (by omega)
    obtain ⟨k3, h3⟩ := refInter_ev a b (by omega) (by omega)
    obtain ⟨k4, h4⟩ := refSub_ev a b (by omega) (by omega)
    obtain ⟨k5, h5⟩ := refCovers_ev a s.f0 s.f1 (by omega)
    obtain ⟨k6, h6⟩ := total_ev a (by omega)
    obtain ⟨k7, h7⟩ := refTotal_ev a (by omega)
    obtain ⟨k8, h8⟩ := Same_ev (nrm a) (by omega)
    obtain ⟨k9, h9⟩ := Same_ev (unionL a b) (by omega)
    obtain ⟨k10, h10⟩ := Same_ev (interL a b) (by omega)
    obtain ⟨k11, h11⟩ := Same_ev (subL a b) (by omega)
    refine ⟨k1 + k2 + k3 + k4 + k5 + k6 + k7 + k8 + k9 + k10 + k11, ?_⟩
    have n1 : extent_Normal.f a = some (nrm a) := if_pos (by unfold bigS; omega)
    have n2 : extent_Union.f a b = some (unionL a b) := if_pos (by unfold bigS; omega)
    have n3 : extent_Intersect.f a b = some (interL a b) := if_pos (by unfold bigS; omega)
    have n4 : extent_Subtract.f a b = some (subL a b) := if_pos (by unfold bigS; omega)
    generalize hk : k1 + k2 + k3 + k4 + k5 + k6 + k7 + k8 + k9 + k10 + k11 = k
    have h1 := h1 k (by omega); have h2 := h2 k (by omega); have h3 := h3 k (by omega); have h4 := h4 k (by omega); have h5 := h5 k (by omega); have h6 := h6 k (by omega)
    have h7 := h7 k (by omega); have h8 := h8 k (by omega); have h9 := h9 k (by omega); have h10 := h10 k (by omega); have h11 := h11 k (by omega)
    dsimp only at h1 h2 h3 h4 h5 h6 h7 h8 h9 h10 h11
    unfold tapearchivelaw34_ExtentSets.f tapearchivelaw34_lives_s.f
    rw [few_eq, decide_eq_true hf, n1, n2, n3, n4, h1, h2, h3, h4, h5, h6, h7, covers_eq a s.f0 s.f1 (by omega)]
    simp only [Option.bind_some, if_true]
    rw [h8]
    simp only [Option.bind_some, if_true]
    rw [h9]
    simp only [Option.bind_some, if_true]
    rw [h10]
    simp only [Option.bind_some, if_true]
    rw [h11]
    simp
  · refine ⟨0, ?_⟩
    unfold tapearchivelaw34_ExtentSets.f tapearchivelaw34_lives_s.f
    rw [few_eq, decide_eq_false hf]
    simp
end Go.Proofs.Ytcckacamocaofaa.P
