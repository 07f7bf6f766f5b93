/- Chapter 36: the guard on lists, and the reference's Requests and Waste. -/
import Derived.Test.YtapbmkcncjkanaaRefD
import Derived.Test.YtapbmkcncjkanaaAwake
import Derived.Test.YtapbmkcncjkanaaP13
import Derived.Test.YtapbmkcncjkanaaP22
import Derived.Test.YtapbmkcncjkanaaP22
set_option linter.unusedVariables false
set_option linter.unusedSimpArgs false
namespace Go.Proofs.Ytapbmkcncjkanaa.P
open Go.RowKit Go.Proofs Go.Proofs.YtapbmkcncjkanaaW.PrintWords Go.Proofs.YtapbmkcncjkanaaW.PrintLast Go.Proofs.YtapbmkcncjkanaaW.PrintMore

def bigN (s : Sp) : Bool := decide (s.f0 < -5000 ∨ s.f0 > 5000 ∨ s.f1 < -5000 ∨ s.f1 > 5000)
theorem few_l0 (l : List Sp) (hl : l.length ≤ 40) : ∀ (suf pre : List Sp), l = pre ++ suf → Ev (fun k => w36_few.l0 k l (pre.length : Int)) (suf.all fun s => !bigN s)
  | [], pre, hpre => by
    have hlen : (pre.length : Int) = l.length := by rw [hpre]; simp
    refine Ev.step (f := fun _ => some true) (fun k => ?_) (Ev.now _)
    simp only [w36_few.l0]
    rw [if_neg (by omega)]
  | s :: suf, pre, hpre => by
    have hlen : l.length = pre.length + (suf.length + 1) := by rw [hpre]; simp
    have hget := rd_at l pre s suf hpre
    have ih := few_l0 l hl suf (pre ++ [s]) (by simp [hpre])
    have ep : ((pre ++ [s]).length : Int) = ((pre.length + 1 : Nat) : Int) := by simp
    rw [ep] at ih
    have n1 : (pre.length : Int) < (l.length : Int) := by omega
    have n2 : 0 ≤ (pre.length : Int) := by omega
    have hw := wrap_succ pre.length (by omega)
    have hj : Ev (fun k => w36_few.j1 k l (pre.length : Int) (bigN s)) ((s :: suf).all fun s => !bigN s) := by
      rw [List.all_cons]
      cases hb : bigN s with
      | true => exact Ev.step (f := fun _ => some false) (fun k => by simp [w36_few.j1]) (Ev.now _)
      | false =>
        rw [Bool.not_false, Bool.true_and]
        refine Ev.step (fun k => ?_) ih
        simp only [w36_few.j1]
        rw [if_neg (by simp), hw]
    refine Ev.step (fun k => ?_) hj
    simp only [w36_few.l0]
    rw [if_pos n1, if_pos n2, hget]
    by_cases h1 : s.f0 < -5000
    · rw [if_pos h1, show bigN s = true from decide_eq_true (.inl h1)]
    · rw [if_neg h1]
      by_cases h2 : s.f0 > 5000
      · rw [if_pos h2, show bigN s = true from decide_eq_true (.inr (.inl h2))]
      · rw [if_neg h2]
        by_cases h3 : s.f1 < -5000
        · rw [if_pos h3, show bigN s = true from decide_eq_true (.inr (.inr (.inl h3)))]
        · rw [if_neg h3, show bigN s = decide (s.f1 > 5000) from decide_eq_decide.2 ⟨fun h => by omega, fun h => by omega⟩]
def fewB (l : List Sp) : Bool := decide (l.length ≤ 40) && l.all fun s => !bigN s
theorem few_ev (l : List Sp) : Ev (fun k => w36_few.f k l) (fewB l) := by
  unfold fewB
  by_cases h : l.length ≤ 40
  · rw [decide_eq_true h, Bool.true_and]
    refine Ev.congr (fun k => ?_) (few_l0 l h l [] rfl)
    unfold w36_few.f
    rw [if_neg (by omega)]
    rfl
  · rw [decide_eq_false h, Bool.false_and]
    refine Ev.congr (fun k => ?_) (Ev.now false)
    unfold w36_few.f
    rw [if_pos (by omega)]
theorem fewB_len {l : List Sp} (h : fewB l = true) : l.length ≤ 40 := by
  unfold fewB at h
  rw [Bool.and_eq_true] at h
  exact of_decide_eq_true h.1
theorem refReq_ev (m : List Sp) (a : Sp) (size gap : Int) (hm : m.length < 1048576) : Ev (fun k => r36_Requests.f k m a.f0 a.f1 size gap) (reqL m a size gap) := by
  have h1 := (union_ev m [a] (by unfold bigS; omega) (by unfold bigS; simp)).2.2
  rw [List.length_singleton] at h1
  have h2 := alignL_len (unionL m [a]) 64 size (by omega)
  have hb := Ev.bind (f := fun k t464 => (r34_Align.f k t464 64 size).bind fun t467 => (r34_Gaps.f k t467 gap).bind fun t470 => some t470) (refUnion_ev m [a] (by omega) (by simp))
    (Ev.bind (f := fun k t467 => (r34_Gaps.f k t467 gap).bind fun t470 => some t470) (refAlign_ev (unionL m [a]) 64 size (by omega) (by omega)) (Ev.bind (f := fun k t => some t) (refGaps_ev (alignL (unionL m [a]) 64 size) gap (by omega)) (Ev.now _)))
  exact Ev.congr (fun k => rfl) hb
theorem refWaste_ev (a b : List Sp) (ha : a.length < 1048576) (hb : b.length < 1048576) : Ev (fun k => r36_Waste.f k a b) (wasteL a b) := by
  have h1 := sub_ev a b (by unfold bigS; omega) (by unfold bigS; omega)
  have ht := refTotal_ev (subL a b) (by omega)
  rw [nrm_of_Norm h1.2.1.1] at ht
  have hb := Ev.bind (f := fun k t => (r34_Total.f k t).bind fun t485 => some t485) (refSub_ev a b (by omega) (by omega)) (Ev.bind (f := fun k t => some t) ht (Ev.now (totL (subL a b))))
  exact Ev.congr (fun k => rfl) hb
end Go.Proofs.Ytapbmkcncjkanaa.P
