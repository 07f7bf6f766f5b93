/- PrefetchRequests, as a fact on lists. -/
import Derived.Test.YtapbmkcncjkanaaPreQ
import Derived.Test.YtapbmkcncjkanaaSayPrefetchRequests
set_option linter.unusedVariables false
set_option linter.unusedSimpArgs false
namespace Go.Proofs.Ytapbmkcncjkanaa.P
open Go.RowKit Go.Proofs Go.Proofs.YtapbmkcncjkanaaW.PrintWords Go.Proofs.YtapbmkcncjkanaaW.PrintLast Go.Proofs.YtapbmkcncjkanaaW.PrintMore

theorem PrefetchRequests : PrefetchRequests_Pure := by
  intro m a c _ _ _
  have hj : ∀ b : Bool, (b = false → m.length ≤ 40) → Ev (fun k => tapearchivelaw36_PrefetchRequests.j0 k m b a.f0 a.f1 c.f0.f0 c.f0.f1 c.f0.f2 c.f0.f3 c.f1.f0 c.f1.f1 c.f2 c.f3) true := by
    intro b hb
    cases b with
    | true => exact Ev.step (f := fun _ => some true) (fun k => by simp [tapearchivelaw36_PrefetchRequests.j0, tapearchivelaw36_awake_s.f]) (Ev.now _)
    | false =>
      have hm := hb rfl
      have hl := reqL_len m a c.f2 c.f3 (by omega)
      obtain ⟨k1, h1⟩ := requests_ev m a c.f2 c.f3 (by omega)
      obtain ⟨k2, h2⟩ := refReq_ev m a c.f2 c.f3 (by omega)
      obtain ⟨k3, h3⟩ := Same_ev (reqL m a c.f2 c.f3) (by omega)
      obtain ⟨k4, h4⟩ := waste_ev (reqL m a c.f2 c.f3) m (by omega) (by omega)
      obtain ⟨k5, h5⟩ := refWaste_ev (reqL m a c.f2 c.f3) m (by omega) (by omega)
      refine ⟨k1 + k2 + k3 + k4 + k5 + 1, fun k hk => ?_⟩
      obtain ⟨k, rfl⟩ : ∃ q, k = q + 1 := ⟨k - 1, by omega⟩
      have h1 := h1 k (by omega); have h2 := h2 k (by omega); have h3 := h3 k (by omega); have h4 := h4 k (by omega); have h5 := h5 k (by omega)
      dsimp only at h1 h2 h3 h4 h5
      show tapearchivelaw36_PrefetchRequests.j0 (k + 1) m false a.f0 a.f1 c.f0.f0 c.f0.f1 c.f0.f2 c.f0.f3 c.f1.f0 c.f1.f1 c.f2 c.f3 = some true
      simp only [tapearchivelaw36_PrefetchRequests.j0]
      rw [if_neg (by simp), h1, h2]
      simp only [Option.bind_some]
      rw [h3]
      simp only [Option.bind_some, if_true]
      rw [h4, h5]
      simp [tapearchivelaw36_awake_s.f]
  have hall : Ev (fun k => tapearchivelaw36_PrefetchRequests.f k m a.f0 a.f1 c.f0.f0 c.f0.f1 c.f0.f2 c.f0.f3 c.f1.f0 c.f1.f1 c.f2 c.f3) true := by
    have hT := hj true (fun h => by simp at h)
    have h1 : Ev (fun k => if fewB m = true then ((tapearchivelaw36_few.f k [(⟨a.f0, a.f1⟩ : Sp)]).bind fun t492 => if t492 = true then (if c.f2 < 0 then tapearchivelaw36_PrefetchRequests.j0 k m true a.f0 a.f1 c.f0.f0 c.f0.f1 c.f0.f2 c.f0.f3 c.f1.f0 c.f1.f1 c.f2 c.f3 else (if c.f2 > 4096 then tapearchivelaw36_PrefetchRequests.j0 k m true a.f0 a.f1 c.f0.f0 c.f0.f1 c.f0.f2 c.f0.f3 c.f1.f0 c.f1.f1 c.f2 c.f3 else (if c.f3 < 0 then tapearchivelaw36_PrefetchRequests.j0 k m true a.f0 a.f1 c.f0.f0 c.f0.f1 c.f0.f2 c.f0.f3 c.f1.f0 c.f1.f1 c.f2 c.f3 else tapearchivelaw36_PrefetchRequests.j0 k m (decide (c.f3 > 5000)) a.f0 a.f1 c.f0.f0 c.f0.f1 c.f0.f2 c.f0.f3 c.f1.f0 c.f1.f1 c.f2 c.f3))) else tapearchivelaw36_PrefetchRequests.j0 k m true a.f0 a.f1 c.f0.f0 c.f0.f1 c.f0.f2 c.f0.f3 c.f1.f0 c.f1.f1 c.f2 c.f3) else tapearchivelaw36_PrefetchRequests.j0 k m true a.f0 a.f1 c.f0.f0 c.f0.f1 c.f0.f2 c.f0.f3 c.f1.f0 c.f1.f1 c.f2 c.f3) true := by
      by_cases hm : fewB m = true
      · refine Ev.congr (fun k => if_pos hm) ?_
        have hl := fewB_len hm
        have hin : ∀ t : Bool, Ev (fun k => if t = true then (if c.f2 < 0 then tapearchivelaw36_PrefetchRequests.j0 k m true a.f0 a.f1 c.f0.f0 c.f0.f1 c.f0.f2 c.f0.f3 c.f1.f0 c.f1.f1 c.f2 c.f3 else (if c.f2 > 4096 then tapearchivelaw36_PrefetchRequests.j0 k m true a.f0 a.f1 c.f0.f0 c.f0.f1 c.f0.f2 c.f0.f3 c.f1.f0 c.f1.f1 c.f2 c.f3 else (if c.f3 < 0 then tapearchivelaw36_PrefetchRequests.j0 k m true a.f0 a.f1 c.f0.f0 c.f0.f1 c.f0.f2 c.f0.f3 c.f1.f0 c.f1.f1 c.f2 c.f3 else tapearchivelaw36_PrefetchRequests.j0 k m (decide (c.f3 > 5000)) a.f0 a.f1 c.f0.f0 c.f0.f1 c.f0.f2 c.f0.f3 c.f1.f0 c.f1.f1 c.f2 c.f3))) else tapearchivelaw36_PrefetchRequests.j0 k m true a.f0 a.f1 c.f0.f0 c.f0.f1 c.f0.f2 c.f0.f3 c.f1.f0 c.f1.f1 c.f2 c.f3) true := by
          intro t
          by_cases g0 : t = true
          · refine Ev.congr (fun k => if_pos g0) ?_
            by_cases g1 : c.f2 < 0
            · exact Ev.congr (fun k => if_pos g1) hT
            · refine Ev.congr (fun k => if_neg g1) ?_
              by_cases g2 : c.f2 > 4096
              · exact Ev.congr (fun k => if_pos g2) hT
              · refine Ev.congr (fun k => if_neg g2) ?_
                by_cases g3 : c.f3 < 0
                · exact Ev.congr (fun k => if_pos g3) hT
                · exact Ev.congr (fun k => if_neg g3) (hj _ (fun _ => hl))
          · exact Ev.congr (fun k => if_neg g0) hT
        exact Ev.bind (few_ev [(⟨a.f0, a.f1⟩ : Sp)]) (hin _)
      · exact Ev.congr (fun k => if_neg hm) hT
    exact Ev.congr (fun k => rfl) (Ev.bind (few_ev m) h1)
  exact hall.rounds
end Go.Proofs.Ytapbmkcncjkanaa.P
