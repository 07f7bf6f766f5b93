/- The law's own check of normal lists, and the examples' pieces: how places of a normal list lie. -/
import Derived.Test.YtapbmkcncjkanaaExtE
import Derived.Test.YtapbmkcncjkanaaLives
import Derived.Test.YtapbmkcncjkanaaP22
set_option linter.unusedVariables false
set_option linter.unusedSimpArgs false
namespace Go.Proofs.Ytapbmkcncjkanaa.P
open Go.RowKit Go.Proofs Go.Proofs.YtapbmkcncjkanaaW.PrintWords Go.Proofs.YtapbmkcncjkanaaW.PrintLast Go.Proofs.YtapbmkcncjkanaaW.PrintMore

theorem eq_nil_or_snoc {α : Type} (l : List α) : l = [] ∨ ∃ m s, l = m ++ [s] := by
  rcases List.eq_nil_or_concat l with h | ⟨m, s, h⟩
  · exact .inl h
  · exact .inr ⟨m, s, by rw [h]; simp⟩
/-! ### Same -/
theorem Same_l0 (l : List Sp) (hl : l.length < 1125899906842624) : ∀ (suf pre : List Sp), l = pre ++ suf → Ev (fun k => r34_Same.l0 k l l (pre.length : Int)) true
  | [], pre, hpre => by
    have hlen : (pre.length : Int) = l.length := by rw [hpre]; simp
    refine Ev.step (f := fun _ => some true) (fun k => ?_) (Ev.now _)
    simp only [r34_Same.l0]
    rw [if_neg (by omega)]
  | s :: suf, pre, hpre => by
    have hlen : l.length = pre.length + (suf.length + 1) := by rw [hpre]; simp
    have ih := Same_l0 l hl suf (pre ++ [s]) (by simp [hpre])
    have ep : ((pre ++ [s]).length : Int) = ((pre.length + 1 : Nat) : Int) := by simp
    rw [ep] at ih
    refine Ev.step (fun k => ?_) ih
    simp only [r34_Same.l0]
    rw [if_pos (by omega), if_pos (by omega), if_pos (by omega), if_neg (by simp), wrap_succ _ (by omega)]
theorem Same_ev (l : List Sp) (hl : l.length < 1125899906842624) : Ev (fun k => r34_Same.f k l l) true := by
  have h := Same_l0 l hl l [] rfl
  refine Ev.congr (fun k => ?_) h
  unfold r34_Same.f
  rw [if_pos rfl]
  rfl
theorem alignL_length (l : List Sp) (size limit : Int) (hl : l.length < 1048576) : (alignL l size limit).length < 1125899906842624 := by
  unfold alignL
  split
  · simp
  · have h1 := (normal_ev l (by unfold bigS; omega)).2.2
    have h2 := alignOut_length size (min limit 1125899906842624) (nrm l)
    have h3 := (normal_ev (alignOut size (min limit 1125899906842624) (nrm l)) (by unfold bigS; omega)).2.2
    omega
theorem joinG_length (gap : Int) : ∀ (m : List Sp) (c : Sp), (joinG gap c m).length ≤ m.length + 1
  | [], c => by simp [joinG]
  | s :: m, c => by
    have h1 := joinG_length gap m ⟨c.f0, s.f0 + s.f1 - c.f0⟩
    have h2 := joinG_length gap m s
    unfold joinG
    split
    · rw [List.length_cons]; omega
    · rw [List.length_cons, List.length_cons]; omega
theorem gapsL_length (gap : Int) (m : List Sp) : (gapsL gap m).length ≤ m.length := by
  cases m with
  | nil => simp [gapsL]
  | cons s m => exact joinG_length gap m s
/-! ### A normal list's places -/
theorem Norm.before {l : List Sp} (h : Norm l) {s : Sp} (hs : s ∈ l) : inL l (s.f0 - 1) = false := by
  obtain ⟨pre, suf, rfl⟩ := List.append_of_mem hs
  have hp := List.pairwise_append.1 h.2
  rw [Bool.eq_false_iff]
  intro hx
  obtain ⟨t, ht, _, h1, h2⟩ := (inL_iff _ _).1 hx
  rcases List.mem_append.1 ht with ht | ht
  · have := hp.2.2 t ht s (by simp); omega
  · rcases List.mem_cons.1 ht with rfl | ht
    · omega
    · have := (List.pairwise_cons.1 hp.2.1).1 t ht
      have := (hasS_iff s).1 (h.1 s (by simp))
      omega
theorem Norm.behind {l : List Sp} (h : Norm l) {s : Sp} (hs : s ∈ l) : inL l (s.f0 + s.f1) = false := by
  obtain ⟨pre, suf, rfl⟩ := List.append_of_mem hs
  have hp := List.pairwise_append.1 h.2
  rw [Bool.eq_false_iff]
  intro hx
  obtain ⟨t, ht, _, h1, h2⟩ := (inL_iff _ _).1 hx
  have := (hasS_iff s).1 (h.1 s (by simp))
  rcases List.mem_append.1 ht with ht | ht
  · have := hp.2.2 t ht s (by simp); omega
  · rcases List.mem_cons.1 ht with rfl | ht
    · omega
    · have := (List.pairwise_cons.1 hp.2.1).1 t ht
      omega
theorem start_of {N M : List Sp} (hN : Norm N) (h : ∀ n, inL N n = inL M n) {s : Sp} (hs : s ∈ N) : ∃ t ∈ M, t.f0 = s.f0 := by
  have h0 := (hasS_iff s).1 (hN.1 s hs)
  have h1 : inL N s.f0 = true := (inL_iff _ _).2 ⟨s, hs, hN.1 s hs, by omega, by omega⟩
  rw [h] at h1
  obtain ⟨t, ht, h2, h3, h4⟩ := (inL_iff _ _).1 h1
  refine ⟨t, ht, ?_⟩
  by_cases he : t.f0 = s.f0
  · exact he
  · have h5 := hN.before hs
    rw [h, Bool.eq_false_iff] at h5
    exact absurd ((inL_iff _ _).2 ⟨t, ht, h2, by omega, by omega⟩) h5
theorem end_of {N M : List Sp} (hN : Norm N) (h : ∀ n, inL N n = inL M n) {s : Sp} (hs : s ∈ N) : ∃ t ∈ M, t.f0 + t.f1 = s.f0 + s.f1 := by
  have h0 := (hasS_iff s).1 (hN.1 s hs)
  have h1 : inL N (s.f0 + s.f1 - 1) = true := (inL_iff _ _).2 ⟨s, hs, hN.1 s hs, by omega, by omega⟩
  rw [h] at h1
  obtain ⟨t, ht, h2, h3, h4⟩ := (inL_iff _ _).1 h1
  refine ⟨t, ht, ?_⟩
  by_cases he : t.f0 + t.f1 = s.f0 + s.f1
  · exact he
  · have h5 := hN.behind hs
    rw [h, Bool.eq_false_iff] at h5
    exact absurd ((inL_iff _ _).2 ⟨t, ht, h2, by omega, by omega⟩) h5
end Go.Proofs.Ytapbmkcncjkanaa.P
