/- The reference's In: membership. -/
import Derived.Test.YtapbmkcncjkanaaExtE
import Derived.Test.YtapbmkcncjkanaaP17
set_option linter.unusedVariables false
set_option linter.unusedSimpArgs false
namespace Go.Proofs.Ytapbmkcncjkanaa.P
open Go.RowKit Go.Proofs Go.Proofs.YtapbmkcncjkanaaW.PrintWords Go.Proofs.YtapbmkcncjkanaaW.PrintLast Go.Proofs.YtapbmkcncjkanaaW.PrintMore

theorem has_eq (a b : Int) : r34_has.f a b = some (hasS ⟨a, b⟩) := by
  unfold r34_has.f hasS
  by_cases h1 : a ≥ 0
  · rw [if_pos h1]
    by_cases h2 : b ≥ 1
    · rw [if_pos h2]
      by_cases h3 : a ≤ 1125899906842624
      · rw [if_pos h3, wrap64_of _ (by omega) (by omega)]
        refine congrArg some ?_
        rw [decide_eq_decide]
        simp only
        omega
      · rw [if_neg h3]
        exact congrArg some (decide_eq_false (by simp only; omega)).symm
    · rw [if_neg h2]
      exact congrArg some (decide_eq_false (by simp only; omega)).symm
  · rw [if_neg h1]
    exact congrArg some (decide_eq_false (by simp only; omega)).symm

/-! ### In -/
theorem In_l0 (l : List Sp) (n : Int) (hl : l.length < 1099511627776) : ∀ (suf pre : List Sp), l = pre ++ suf → Ev (fun k => r34_In.l0 k l n (pre.length : Int)) (inL suf n)
  | [], pre, hpre => by
    have hlen : (pre.length : Int) = l.length := by rw [hpre]; simp
    refine Ev.step (f := fun _ => some false) (fun k => ?_) (Ev.now _)
    simp only [r34_In.l0]
    rw [if_neg (by omega)]
  | s :: suf, pre, hpre => by
    have hlen : l.length = pre.length + (suf.length + 1) := by rw [hpre]; simp
    have hget := rd_at l pre s suf hpre
    have ih := In_l0 l n hl suf (pre ++ [s]) (by simp [hpre])
    have ep : ((pre ++ [s]).length : Int) = ((pre.length + 1 : Nat) : Int) := by simp
    rw [ep] at ih
    have hb : ∀ b : Bool, (b = true → memS s n = true) → (b = false → memS s n = false) → Ev (fun k => r34_In.j1 k l n (pre.length : Int) b) (inL (s :: suf) n) := by
      intro b h1 h2
      rw [inL_cons]
      cases b with
      | true =>
        rw [h1 rfl, Bool.true_or]
        exact Ev.step (f := fun _ => some true) (fun k => by simp [r34_In.j1]) (Ev.now _)
      | false =>
        rw [h2 rfl, Bool.false_or]
        refine Ev.step (fun k => ?_) ih
        simp only [r34_In.j1]
        rw [if_neg (by simp), wrap_succ _ (by omega)]
    by_cases hs : hasS s = true
    · have hs' := (hasS_iff s).1 hs
      by_cases h1 : s.f0 ≤ n
      · refine Ev.step (f := fun k => r34_In.j1 k l n (pre.length : Int) (decide (n < s.f0 + s.f1))) (fun k => ?_) (hb _ (fun h => (memS_iff s n).2 ⟨hs, h1, of_decide_eq_true h⟩) (fun h => by rw [Bool.eq_false_iff]; intro hm; exact absurd ((memS_iff s n).1 hm).2.2 (of_decide_eq_false h)))
        simp only [r34_In.l0]
        rw [if_pos (by omega), if_pos (by omega), hget, has_eq]
        simp only [Option.bind_some]
        rw [show hasS (⟨s.f0, s.f1⟩ : Sp) = true from hs, if_pos rfl, if_pos h1, wrap64_of (s.f0 + s.f1) (by omega) (by omega)]
      · refine Ev.step (f := fun k => r34_In.j1 k l n (pre.length : Int) false) (fun k => ?_) (hb _ (fun h => by simp at h) (fun _ => by rw [Bool.eq_false_iff]; intro hm; exact h1 ((memS_iff s n).1 hm).2.1))
        simp only [r34_In.l0]
        rw [if_pos (by omega), if_pos (by omega), hget, has_eq]
        simp only [Option.bind_some]
        rw [show hasS (⟨s.f0, s.f1⟩ : Sp) = true from hs, if_pos rfl, if_neg h1]
    · refine Ev.step (f := fun k => r34_In.j1 k l n (pre.length : Int) false) (fun k => ?_) (hb _ (fun h => by simp at h) (fun _ => by rw [Bool.eq_false_iff]; intro hm; exact hs ((memS_iff s n).1 hm).1))
      simp only [r34_In.l0]
      rw [if_pos (by omega), if_pos (by omega), hget, has_eq]
      simp only [Option.bind_some]
      rw [show hasS (⟨s.f0, s.f1⟩ : Sp) = hasS s from rfl, if_neg hs]
theorem In_ev (l : List Sp) (n : Int) (hl : l.length < 1099511627776) : Ev (fun k => r34_In.f k l n) (inL l n) := by
  have h := In_l0 l n hl l [] rfl
  exact Ev.congr (fun k => rfl) h
end Go.Proofs.Ytapbmkcncjkanaa.P
