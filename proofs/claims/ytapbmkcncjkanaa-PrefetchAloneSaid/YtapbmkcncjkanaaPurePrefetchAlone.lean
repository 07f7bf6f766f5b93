/- PrefetchAlone, as a fact on lists. -/
import Derived.Test.YtapbmkcncjkanaaAwake
import Derived.Test.YtapbmkcncjkanaaSayPrefetchAlone
set_option linter.unusedVariables false
set_option linter.unusedSimpArgs false
namespace Go.Proofs.Ytapbmkcncjkanaa.P
open Go.RowKit Go.Proofs Go.Proofs.YtapbmkcncjkanaaW.PrintWords Go.Proofs.YtapbmkcncjkanaaW.PrintLast Go.Proofs.YtapbmkcncjkanaaW.PrintMore

theorem alone_rep (p : Sp) (size most : Int) (h1 : 0 ≤ size ∧ size ≤ 4096) (h2 : 0 ≤ most ∧ most ≤ 64) (h3 : 1 ≤ p.f0 ∧ p.f0 ≤ size) (h4 : 1 ≤ p.f1 ∧ p.f1 ≤ size - p.f0) :
    ∃ t : Sp, replayL size most [] st0 [p] = [t] ∧ t.f0 = p.f0 - p.f0 % 64 ∧ t.f0 + t.f1 = alignEnd 64 size p ∧ hasS t = true ∧ p.f0 + p.f1 ≤ t.f0 + t.f1 := by
  have hp : hasS p = true := (hasS_iff p).2 ⟨by omega, by omega, by omega⟩
  have hN : Norm [p] := ⟨fun s hs => by rw [List.mem_singleton.1 hs]; exact hp, List.pairwise_singleton _ _⟩
  have ho : okRd p size most ∧ okSt st0 size := by unfold okRd okSt st0; simp only; omega
  have hv : validP st0 p size most = true := decide_eq_true ho
  have hne : ¬ p.f0 = st0.next := by show ¬ p.f0 = 0; omega
  have ha : aheadR st0 p size most = ⟨0, 0⟩ := by
    unfold aheadR readR
    rw [if_pos hv, if_neg hne]
    unfold finR
    rw [if_pos (by omega), if_pos (by omega)]
  have s1 : subL [p] [] = [p] := canon_eq hN (fun n => by rw [inL_nil]; simp)
  have z0 : ∀ n, memS (⟨0, 0⟩ : Sp) n = false := fun n => by unfold memS hasS; simp
  have u1 : unionL [p] [⟨0, 0⟩] = [p] := canon_eq hN (fun n => by rw [inL_cons (⟨0, 0⟩ : Sp), z0, inL_nil]; simp)
  have her := alignEnd_range 64 size (by omega) ⟨by omega, by omega⟩ p hp
  have hend : p.f0 + p.f1 ≤ alignEnd 64 size p := by
    unfold alignEnd
    split
    · omega
    · omega
  have ht : hasS (⟨p.f0 - p.f0 % 64, alignEnd 64 size p - (p.f0 - p.f0 % 64)⟩ : Sp) = true := (hasS_iff _).2 ⟨by simp only; omega, by simp only; omega, by simp only; omega⟩
  have hone : alignOne 64 size p = [⟨p.f0 - p.f0 % 64, alignEnd 64 size p - (p.f0 - p.f0 % 64)⟩] := if_pos (by omega)
  have hout : alignOut 64 size [p] = [⟨p.f0 - p.f0 % 64, alignEnd 64 size p - (p.f0 - p.f0 % 64)⟩] := by simp [alignOut, hone]
  have hNt : Norm [(⟨p.f0 - p.f0 % 64, alignEnd 64 size p - (p.f0 - p.f0 % 64)⟩ : Sp)] := ⟨fun s hs => by rw [List.mem_singleton.1 hs]; exact ht, List.pairwise_singleton _ _⟩
  have q1 : reqL [p] ⟨0, 0⟩ size 0 = [⟨p.f0 - p.f0 % 64, alignEnd 64 size p - (p.f0 - p.f0 % 64)⟩] := by
    unfold reqL
    rw [u1, awk_al [p] size ⟨by omega, by omega⟩ hN _ _ hout (nrm_of_Norm hNt), nrm_of_Norm hNt]
    rfl
  have v1 : unionL [] [(⟨p.f0 - p.f0 % 64, alignEnd 64 size p - (p.f0 - p.f0 % 64)⟩ : Sp)] = [⟨p.f0 - p.f0 % 64, alignEnd 64 size p - (p.f0 - p.f0 % 64)⟩] := canon_eq hNt (fun n => by rw [inL_nil]; simp)
  refine ⟨_, ?_, rfl, by simp only; omega, ht, by simp only; omega⟩
  rw [replayL, if_pos hv, ha, s1, q1, v1, replayL]
theorem alone_waste (t p : Sp) (ht : hasS t = true) (hp : hasS p = true) (h1 : t.f0 ≤ p.f0) (h2 : p.f0 + p.f1 ≤ t.f0 + t.f1) : wasteL [t] [p] = t.f1 - p.f1 := by
  obtain ⟨K, hK⟩ : ∃ K : Nat, (K : Int) = 1125899906842624 := ⟨1125899906842624, rfl⟩
  have one : ∀ s : Sp, hasS s = true → Norm [s] := fun s hs => ⟨fun u hu => by rw [List.mem_singleton.1 hu]; exact hs, List.pairwise_singleton _ _⟩
  have hall : ∀ l : List Sp, Norm l → cnt (inL l) K = totL l := fun l hl => cnt_norm K l hl fun s hs => by
    have := (hasS_iff s).1 (hl.1 s hs)
    omega
  have d := (sub_ev [t] [p] (by unfold bigS; simp) (by unfold bigS; simp)).2.1
  have h := cnt_two (inL (subL [t] [p])) (inL [p]) (inL [t]) (fun _ => false) (fun n => by
    rw [d.2]
    have hi : inL [p] n = true → inL [t] n = true := fun hn => by
      rw [inL_cons, inL_nil, Bool.or_false] at hn ⊢
      have := (memS_iff p n).1 hn
      exact (memS_iff t n).2 ⟨ht, by omega, by omega⟩
    revert hi
    cases inL [t] n <;> cases inL [p] n <;> simp [ind]) K
  rw [cnt_false, hall _ d.1, hall _ (one p hp), hall _ (one t ht)] at h
  have e1 : totL [p] = p.f1 := by simp [totL]
  have e2 : totL [t] = t.f1 := by simp [totL]
  unfold wasteL
  omega
theorem min_end36 (lim e : Int) (h2 : 0 ≤ lim) (h3 : 0 ≤ e) : mn lim ((e / 64 + 1) * 64) = if e / 64 < lim / 64 then (e / 64 + 1) * 64 else lim := by
  rw [mn_eq]
  split <;> omega
theorem PrefetchAlone : PrefetchAlone_Pure := by
  intro p size most _ _ _
  have hj : ∀ q : Bool, (q = false → (0 ≤ size ∧ size ≤ 4096) ∧ (0 ≤ most ∧ most ≤ 64) ∧ (1 ≤ p.f0 ∧ p.f0 ≤ size) ∧ (1 ≤ p.f1 ∧ p.f1 ≤ size - p.f0)) → Ev (fun k => tapearchivelaw36_PrefetchAlone.j0 k size most q p.f0 p.f1) true := by
    intro q hq
    cases q with
    | true => exact Ev.step (f := fun _ => some true) (fun k => by simp [tapearchivelaw36_PrefetchAlone.j0, tapearchivelaw36_awake_s.f]) (Ev.now _)
    | false =>
      obtain ⟨b1, b2, b3, b4⟩ := hq rfl
      obtain ⟨t, r1, r2, r3, r4, r5⟩ := alone_rep p size most b1 b2 b3 b4
      have hp : hasS p = true := (hasS_iff p).2 ⟨by omega, by omega, by omega⟩
      have ht' := (hasS_iff t).1 r4
      have hw := alone_waste t p r4 hp (by omega) r5
      have h1 := replay_ev [p] size most b1 (by simp)
      rw [r1] at h1
      obtain ⟨k1, h1⟩ := h1
      obtain ⟨k2, h2⟩ := waste_ev [t] [p] (by simp) (by simp)
      refine ⟨k1 + k2 + 1, fun k hk => ?_⟩
      obtain ⟨k, rfl⟩ : ∃ q, k = q + 1 := ⟨k - 1, by omega⟩
      have h1 := h1 k (by omega)
      have h2 := h2 k (by omega)
      dsimp only at h1 h2
      have hrd : rd_T25 [t] 0 = t := by
        have := rd_at [t] [] t [] rfl
        simpa using this
      have hE := min_end36 size (p.f0 + p.f1 - 1) (by omega) (by omega)
      have m1 : wrap64 (Int.tdiv p.f0 64) = p.f0 / 64 := by rw [Int.tdiv_eq_ediv_of_nonneg (by omega)]; exact wrap64_of _ (by omega) (by omega)
      have m2 : wrap64 (p.f0 / 64 * 64) = t.f0 := (wrap64_of _ (by omega) (by omega)).trans (by omega)
      have m3 : wrap64 (p.f0 + p.f1) = p.f0 + p.f1 := wrap64_of _ (by omega) (by omega)
      have m4 : wrap64 (p.f0 + p.f1 + 63) = p.f0 + p.f1 + 63 := wrap64_of _ (by omega) (by omega)
      have m5 : wrap64 (Int.tdiv (p.f0 + p.f1 + 63) 64) = (p.f0 + p.f1 + 63) / 64 := by rw [Int.tdiv_eq_ediv_of_nonneg (by omega)]; exact wrap64_of _ (by omega) (by omega)
      have m6 : wrap64 ((p.f0 + p.f1 + 63) / 64 * 64) = (p.f0 + p.f1 + 63) / 64 * 64 := wrap64_of _ (by omega) (by omega)
      have m7 : wrap64 (t.f0 + t.f1) = mn size ((p.f0 + p.f1 + 63) / 64 * 64) := by
        refine (wrap64_of _ (by omega) (by omega)).trans ?_
        rw [r3]
        unfold alignEnd
        rw [show (p.f0 + p.f1 + 63) / 64 = (p.f0 + p.f1 - 1) / 64 + 1 by omega]
        exact hE.symm
      have m8 : wrap64 (t.f1 - p.f1) = t.f1 - p.f1 := wrap64_of _ (by omega) (by omega)
      show tapearchivelaw36_PrefetchAlone.j0 (k + 1) size most false p.f0 p.f1 = some true
      simp only [tapearchivelaw36_PrefetchAlone.j0]
      rw [if_neg (by simp), h1]
      simp only [Option.bind_some]
      rw [if_pos (by simp), if_pos (by simp), hrd, m1, m2, if_pos rfl, m3, m4, m5, m6, m7, if_pos rfl, h2, hw, m8]
      simp [tapearchivelaw36_awake_s.f]
  have hT := hj true (fun h => by simp at h)
  have hall : Ev (fun k => tapearchivelaw36_PrefetchAlone.f k p.f0 p.f1 size most) true := by
    unfold tapearchivelaw36_PrefetchAlone.f
    by_cases g1 : size < 0
    · exact Ev.congr (fun k => if_pos g1) hT
    · refine Ev.congr (fun k => if_neg g1) ?_
      by_cases g2 : size > 4096
      · exact Ev.congr (fun k => if_pos g2) hT
      · refine Ev.congr (fun k => if_neg g2) ?_
        by_cases g3 : most < 0
        · exact Ev.congr (fun k => if_pos g3) hT
        · refine Ev.congr (fun k => if_neg g3) ?_
          by_cases g4 : most > 64
          · exact Ev.congr (fun k => if_pos g4) hT
          · refine Ev.congr (fun k => if_neg g4) ?_
            by_cases g5 : p.f0 < 1
            · exact Ev.congr (fun k => if_pos g5) hT
            · refine Ev.congr (fun k => if_neg g5) ?_
              by_cases g6 : p.f0 > size
              · exact Ev.congr (fun k => if_pos g6) hT
              · refine Ev.congr (fun k => if_neg g6) ?_
                by_cases g7 : p.f1 < 1
                · exact Ev.congr (fun k => if_pos g7) hT
                · refine Ev.congr (fun k => if_neg g7) ?_
                  rw [wrap64_of (size - p.f0) (by omega) (by omega)]
                  exact hj _ (fun h => by have := of_decide_eq_false h; omega)
  exact hall.rounds
end Go.Proofs.Ytapbmkcncjkanaa.P
