/- tapearchivelaw36.awake: the examples of the chapter hold. -/
import Derived.Test.YtapbmkcncjkanaaPreB
import Derived.Test.YtapbmkcncjkanaaP10
set_option linter.unusedVariables false
set_option linter.unusedSimpArgs false
namespace Go.Proofs.Ytapbmkcncjkanaa.P
open Go.RowKit Go.Proofs Go.Proofs.YtapbmkcncjkanaaW.PrintWords Go.Proofs.YtapbmkcncjkanaaW.PrintLast Go.Proofs.YtapbmkcncjkanaaW.PrintMore

theorem awk_r1 : readR st0 ⟨0, 100⟩ 1000 8 = (100, 1, 164, 1, 100, 64) := by decide
theorem awk_r2 : readR ⟨100, 1, 164, 1⟩ ⟨100, 100⟩ 1000 8 = (200, 2, 328, 2, 200, 128) := by decide
theorem awk_u1 : unionL [(⟨10, 5⟩ : Sp), ⟨100, 5⟩] [⟨0, 0⟩] = [⟨10, 5⟩, ⟨100, 5⟩] :=
  canon_eq ⟨by simp [hasS], by simp⟩ (fun n => by rw [Bool.eq_iff_iff]; simp [inL, memS, hasS])
theorem awk_al (l : List Sp) (size : Int) (h : 1 ≤ size ∧ size ≤ 4096) (hN : Norm l) (o m : List Sp) (ho : alignOut 64 size l = o) (hm : nrm o = m) : alignL l 64 size = m := by
  unfold alignL
  rw [if_neg (by omega), nrm_of_Norm hN, show min size 1125899906842624 = size by omega, ho, hm]
theorem awk_n128 : Norm [(⟨0, 128⟩ : Sp)] := ⟨by simp [hasS], by simp⟩
theorem awk_q1 : reqL [(⟨10, 5⟩ : Sp), ⟨100, 5⟩] ⟨0, 0⟩ 1000 0 = [⟨0, 128⟩] := by
  unfold reqL
  rw [awk_u1, awk_al [(⟨10, 5⟩ : Sp), ⟨100, 5⟩] 1000 (by omega) ⟨by simp [hasS], by simp⟩ [⟨0, 64⟩, ⟨64, 64⟩] [⟨0, 128⟩] (by simp [alignOut, alignOne, alignEnd]) (canon_eq awk_n128 (fun n => by rw [Bool.eq_iff_iff]; simp [inL, memS, hasS]; omega)), nrm_of_Norm awk_n128]
  rfl
theorem awk_p1 : readR st0 ⟨0, 10⟩ 300 1 = (10, 1, 74, 1, 10, 64) := by decide
theorem awk_p2 : readR ⟨10, 1, 74, 1⟩ ⟨10, 10⟩ 300 1 = (20, 1, 84, 2, 74, 10) := by decide
theorem awk_rep : replayL 300 1 [] st0 [(⟨0, 10⟩ : Sp), ⟨10, 10⟩] = [⟨0, 128⟩] := by
  have s1 : subL [(⟨0, 10⟩ : Sp)] [] = [⟨0, 10⟩] := canon_eq ⟨by simp [hasS], by simp⟩ (fun n => by rw [Bool.eq_iff_iff]; simp [inL, memS, hasS])
  have u1 : unionL [(⟨0, 10⟩ : Sp)] [⟨10, 64⟩] = [⟨0, 74⟩] := canon_eq ⟨by simp [hasS], by simp⟩ (fun n => by rw [Bool.eq_iff_iff]; simp [inL, memS, hasS]; omega)
  have q1 : reqL [(⟨0, 10⟩ : Sp)] ⟨10, 64⟩ 300 0 = [⟨0, 128⟩] := by
    unfold reqL
    rw [u1, awk_al [(⟨0, 74⟩ : Sp)] 300 (by omega) ⟨by simp [hasS], by simp⟩ [⟨0, 128⟩] [⟨0, 128⟩] (by simp [alignOut, alignOne, alignEnd]) (nrm_of_Norm awk_n128), nrm_of_Norm awk_n128]
    rfl
  have v1 : unionL [] [(⟨0, 128⟩ : Sp)] = [⟨0, 128⟩] := canon_eq awk_n128 (fun n => by rw [Bool.eq_iff_iff]; simp [inL, memS, hasS])
  have s2 : subL [(⟨10, 10⟩ : Sp)] [⟨0, 128⟩] = [] := canon_eq Norm.nil (fun n => by rw [Bool.eq_iff_iff]; simp [inL, memS, hasS]; omega)
  have u2 : unionL [] [(⟨74, 10⟩ : Sp)] = [⟨74, 10⟩] := canon_eq ⟨by simp [hasS], by simp⟩ (fun n => by rw [Bool.eq_iff_iff]; simp [inL, memS, hasS])
  have n64 : Norm [(⟨64, 64⟩ : Sp)] := ⟨by simp [hasS], by simp⟩
  have q2 : reqL [] (⟨74, 10⟩ : Sp) 300 0 = [⟨64, 64⟩] := by
    unfold reqL
    rw [u2, awk_al [(⟨74, 10⟩ : Sp)] 300 (by omega) ⟨by simp [hasS], by simp⟩ [⟨64, 64⟩] [⟨64, 64⟩] (by simp [alignOut, alignOne, alignEnd]) (nrm_of_Norm n64), nrm_of_Norm n64]
    rfl
  have v2 : unionL [(⟨0, 128⟩ : Sp)] [⟨64, 64⟩] = [⟨0, 128⟩] := canon_eq awk_n128 (fun n => by rw [Bool.eq_iff_iff]; simp [inL, memS, hasS]; omega)
  have e1 : validP st0 ⟨0, 10⟩ 300 1 = true := by decide
  have e2 : validP ⟨10, 1, 74, 1⟩ ⟨10, 10⟩ 300 1 = true := by decide
  have a1 : aheadR st0 ⟨0, 10⟩ 300 1 = ⟨10, 64⟩ := by unfold aheadR; rw [awk_p1]
  have x1 : nextR st0 ⟨0, 10⟩ 300 1 = ⟨10, 1, 74, 1⟩ := by unfold nextR; rw [awk_p1]
  have a2 : aheadR ⟨10, 1, 74, 1⟩ ⟨10, 10⟩ 300 1 = ⟨74, 10⟩ := by unfold aheadR; rw [awk_p2]
  rw [replayL, if_pos e1, a1, x1, s1, q1, v1, replayL, if_pos e2, a2, s2, q2, v2, replayL]
theorem awk_w : wasteL [(⟨0, 128⟩ : Sp)] [⟨0, 128⟩] = 0 := by
  have s : subL [(⟨0, 128⟩ : Sp)] [⟨0, 128⟩] = [] := canon_eq Norm.nil (fun n => by rw [inL_nil]; cases inL [(⟨0, 128⟩ : Sp)] n <;> rfl)
  unfold wasteL
  rw [s]
  rfl
theorem awake_true : ∃ k, w36_awake.f k = some true := by
  have h1 := read_ev st0 ⟨0, 100⟩ 1000 8
  have h2 := read_ev ⟨100, 1, 164, 1⟩ ⟨100, 100⟩ 1000 8
  have h3 := requests_ev [(⟨10, 5⟩ : Sp), ⟨100, 5⟩] ⟨0, 0⟩ 1000 0 (by simp)
  have h4 := replay_ev [(⟨0, 10⟩ : Sp), ⟨10, 10⟩] 300 1 (by omega) (by simp)
  have h5 := waste_ev [(⟨0, 128⟩ : Sp)] [⟨0, 128⟩] (by simp) (by simp)
  rw [awk_r1] at h1
  rw [awk_r2] at h2
  rw [awk_q1] at h3
  rw [awk_rep] at h4
  rw [awk_w] at h5
  obtain ⟨k1, h1⟩ := h1
  obtain ⟨k2, h2⟩ := h2
  obtain ⟨k3, h3⟩ := h3
  obtain ⟨k4, h4⟩ := h4
  obtain ⟨k5, h5⟩ := h5
  refine ⟨k1 + k2 + k3 + k4 + k5, ?_⟩
  generalize hk : k1 + k2 + k3 + k4 + k5 = k
  have h1 : prefetch_Read.f k 0 0 0 0 0 100 1000 8 = _ := h1 k (by omega)
  have h2 : prefetch_Read.f k 100 1 164 1 100 100 1000 8 = _ := h2 k (by omega)
  have h3 : prefetch_Requests.f k [(⟨10, 5⟩ : Sp), ⟨100, 5⟩] 0 0 1000 0 = _ := h3 k (by omega)
  have h4 : prefetch_Replay.f k [(⟨0, 10⟩ : Sp), ⟨10, 10⟩] 300 1 = _ := h4 k (by omega)
  have h5 : prefetch_Waste.f k [(⟨0, 128⟩ : Sp)] [⟨0, 128⟩] = _ := h5 k (by omega)
  unfold w36_awake.f
  rw [h1]
  simp only [Option.bind_some]
  rw [h2]
  simp only [Option.bind_some]
  rw [h3]
  simp only [Option.bind_some]
  rw [h4]
  simp [rd_T25, h5]
/-- The examples' function, told by its one answer. -/
def w36_awake_s.f : Option Bool := some true
theorem w36_awake_s.calls (r : Bool) (w : World) (h : w36_awake_s.f = some r) :
    Calls Try.prog 12 #[] w fun e w' => e = .returned (.bool r) ∧ Below w.heap.size w w' := by
  have hr : r = true := (Option.some.inj h).symm
  obtain ⟨k, hk⟩ := awake_true
  rw [hr]
  exact w36_awake.calls k true w ⟨rfl⟩ hk
end Go.Proofs.Ytapbmkcncjkanaa.P
