/- PrefetchWastes, as a fact on lists. -/
import Derived.Test.YtapbmkcncjkanaaPreQ
import Derived.Test.YtapbmkcncjkanaaSayPrefetchWastes
set_option linter.unusedVariables false
set_option linter.unusedSimpArgs false
namespace Go.Proofs.Ytapbmkcncjkanaa.P
open Go.RowKit Go.Proofs Go.Proofs.YtapbmkcncjkanaaW.PrintWords Go.Proofs.YtapbmkcncjkanaaW.PrintLast Go.Proofs.YtapbmkcncjkanaaW.PrintMore

theorem cnt_all {l : List Sp} (h : Norm l) (K : Nat) (hK : (K : Int) = 1125899906842624) : cnt (inL l) K = totL l :=
  cnt_norm K l h fun s hs => by
    have := (hasS_iff s).1 (h.1 s hs)
    omega
theorem waste_more (a b c : List Sp) (ha : a.length < 1048576) (hb : b.length < 1048576) (hc : c.length < 1048576) : wasteL a (b ++ c) = wasteL a b - totL (interL (subL a b) c) := by
  obtain ⟨K, hK⟩ : ∃ K : Nat, (K : Int) = 1125899906842624 := ⟨1125899906842624, rfl⟩
  have h1 := sub_ev a b (by unfold bigS; omega) (by unfold bigS; omega)
  have h2 := (sub_ev a (b ++ c) (by unfold bigS; omega) (by unfold bigS; rw [List.length_append]; omega)).2.1
  have h3 := interL_spec (subL a b) c (by omega) (by omega)
  have h := cnt_two (inL (subL a (b ++ c))) (inL (interL (subL a b) c)) (inL (subL a b)) (fun _ => false) (fun n => by
    rw [h2.2, h3.2, h1.2.1.2, inL_append]
    cases inL a n <;> cases inL b n <;> cases inL c n <;> simp [ind]) K
  rw [cnt_false, cnt_all h2.1 K hK, cnt_all h3.1 K hK, cnt_all h1.2.1.1 K hK] at h
  unfold wasteL
  omega
theorem waste_self (a : List Sp) : wasteL a a = 0 := by
  have s : subL a a = [] := canon_eq Norm.nil (fun n => by rw [inL_nil]; cases inL a n <;> rfl)
  unfold wasteL
  rw [s]
  rfl
theorem PrefetchWastes : PrefetchWastes_Pure := by
  intro a b c _ _ _
  have hj : ∀ q : Bool, (q = false → a.length ≤ 40 ∧ b.length ≤ 40 ∧ c.length ≤ 40) → Ev (fun k => tapearchivelaw36_PrefetchWastes.j0 k a b c q) true := by
    intro q hq
    cases q with
    | true => exact Ev.step (f := fun _ => some true) (fun k => by simp [tapearchivelaw36_PrefetchWastes.j0, tapearchivelaw36_awake_s.f]) (Ev.now _)
    | false =>
      obtain ⟨ha, hb, hc⟩ := hq rfl
      have h1 := sub_ev a b (by unfold bigS; omega) (by unfold bigS; omega)
      have h3 := interL_spec (subL a b) c (by omega) (by omega)
      have hil : (interL (subL a b) c).length < 34359738368 := by
        have hu := inter_len (subL a b) c (by omega) (by omega)
        omega
      have hm := waste_more a b c (by omega) (by omega) (by omega)
      have ht := refTotal_ev (interL (subL a b) c) hil
      rw [nrm_of_Norm h3.1] at ht
      have t1 := h3.1.totL_max
      have t2 := h3.1.totL_le.1
      have t3 := h1.2.1.1.totL_max
      have t4 := h1.2.1.1.totL_le.1
      have hwr : wrap64 (wasteL a b - totL (interL (subL a b) c)) = wasteL a (b ++ c) := by
        rw [hm]
        refine wrap64_of _ ?_ ?_ <;> (unfold wasteL; omega)
      obtain ⟨k1, g1⟩ := refSub_ev a b (by omega) (by omega)
      obtain ⟨k2, g2⟩ := refInter_ev (subL a b) c (by omega) (by omega)
      obtain ⟨k3, g3⟩ := waste_ev a b (by omega) (by omega)
      obtain ⟨k4, g4⟩ := refWaste_ev a b (by omega) (by omega)
      obtain ⟨k5, g5⟩ := waste_ev a (b ++ c) (by omega) (by rw [List.length_append]; omega)
      obtain ⟨k6, g6⟩ := ht
      obtain ⟨k7, g7⟩ := waste_ev a a (by omega) (by omega)
      refine ⟨k1 + k2 + k3 + k4 + k5 + k6 + k7 + 1, fun k hk => ?_⟩
      obtain ⟨k, rfl⟩ : ∃ q, k = q + 1 := ⟨k - 1, by omega⟩
      have g1 := g1 k (by omega); have g2 := g2 k (by omega); have g3 := g3 k (by omega); have g4 := g4 k (by omega); have g5 := g5 k (by omega); have g6 := g6 k (by omega); have g7 := g7 k (by omega)
      dsimp only at g1 g2 g3 g4 g5 g6 g7
      have n1 : ([] : List Sp).length + b.length < 8796093022208 := by simp; omega
      have n2 : b.length + c.length < 8796093022208 := by omega
      show tapearchivelaw36_PrefetchWastes.j0 (k + 1) a b c false = some true
      simp only [tapearchivelaw36_PrefetchWastes.j0]
      rw [if_neg (by simp)]
      simp only [Option.bind_some, List.nil_append]
      rw [if_pos n1, if_pos n2, g1]
      simp only [Option.bind_some]
      rw [g2]
      simp only [Option.bind_some]
      rw [g3, g4]
      simp only [Option.bind_some, if_true]
      rw [g5, g6]
      simp only [Option.bind_some]
      rw [hwr, if_pos rfl, g7, waste_self]
      simp [tapearchivelaw36_awake_s.f]
  have hT := hj true (fun h => by simp at h)
  have hall : Ev (fun k => tapearchivelaw36_PrefetchWastes.f k a b c) true := by
    have h1 : Ev (fun k => if fewB a = true then ((tapearchivelaw36_few.f k b).bind fun t578 => if t578 = true then ((tapearchivelaw36_few.f k c).bind fun t579 => tapearchivelaw36_PrefetchWastes.j0 k a b c (!t579)) else tapearchivelaw36_PrefetchWastes.j0 k a b c true) else tapearchivelaw36_PrefetchWastes.j0 k a b c true) true := by
      by_cases ha : fewB a = true
      · refine Ev.congr (fun k => if_pos ha) (Ev.bind (few_ev b) ?_)
        by_cases hb : fewB b = true
        · refine Ev.congr (fun k => if_pos hb) (Ev.bind (few_ev c) ?_)
          exact hj _ (fun h => ⟨fewB_len ha, fewB_len hb, fewB_len (by revert h; cases fewB c <;> simp)⟩)
        · exact Ev.congr (fun k => if_neg hb) hT
      · exact Ev.congr (fun k => if_neg ha) hT
    exact Ev.congr (fun k => rfl) (Ev.bind (few_ev a) h1)
  exact hall.rounds
end Go.Proofs.Ytapbmkcncjkanaa.P
