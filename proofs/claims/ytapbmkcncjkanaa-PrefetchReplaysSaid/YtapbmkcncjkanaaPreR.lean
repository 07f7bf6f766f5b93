/- Chapter 36: the reference's Read. -/
import Derived.Test.YtapbmkcncjkanaaAwake
import Derived.Test.YtapbmkcncjkanaaP3
import Derived.Test.YtapbmkcncjkanaaP4
set_option linter.unusedVariables false
set_option linter.unusedSimpArgs false
namespace Go.Proofs.Ytapbmkcncjkanaa.P
open Go.RowKit Go.Proofs Go.Proofs.YtapbmkcncjkanaaW.PrintWords Go.Proofs.YtapbmkcncjkanaaW.PrintLast Go.Proofs.YtapbmkcncjkanaaW.PrintMore

theorem rin_eq (a c : Int) : r36_in.f a c = some (decide (0 ≤ a ∧ a ≤ c)) := by
  unfold r36_in.f
  by_cases h : a ≥ 0
  · rw [if_pos h]
    exact congrArg some (decide_eq_decide.2 ⟨fun q => ⟨h, q⟩, fun q => q.2⟩)
  · rw [if_neg h]
    exact congrArg some (decide_eq_false (fun q => h q.1)).symm
theorem refValid_j0 (s : St) (size : Int) : Ev (fun k => r36_Valid.j0 k size false s.next s.window s.ahead s.run) (decide (okSt s size)) := by
  refine Ev.step (f := fun _ => some (decide (okSt s size))) (fun k => ?_) (Ev.now _)
  simp only [r36_Valid.j0]
  rw [if_neg (by simp), rin_eq, rin_eq, rin_eq, rin_eq]
  simp only [Option.bind_some]
  by_cases h1 : 0 ≤ s.next ∧ s.next ≤ size
  · rw [if_pos (decide_eq_true h1)]
    by_cases h2 : 0 ≤ s.ahead ∧ s.ahead ≤ size
    · rw [if_pos (decide_eq_true h2)]
      by_cases h3 : 0 ≤ s.window ∧ s.window ≤ 64
      · rw [if_pos (decide_eq_true h3)]
        exact congrArg some (decide_eq_decide.2 ⟨fun h4 => ⟨h1, h2, h3, h4⟩, fun h => h.2.2.2⟩)
      · rw [if_neg (by simpa using h3)]
        exact congrArg some (decide_eq_false (fun h => h3 h.2.2.1)).symm
    · rw [if_neg (by simpa using h2)]
      exact congrArg some (decide_eq_false (fun h => h2 h.2.1)).symm
  · rw [if_neg (by simpa using h1)]
    exact congrArg some (decide_eq_false (fun h => h1 h.1)).symm
theorem refValid_ev (s : St) (p : Sp) (size most : Int) : Ev (fun k => r36_Valid.f k s.next s.window s.ahead s.run p.f0 p.f1 size most) (validP s p size most) := by
  have hF : Ev (fun k => r36_Valid.j0 k size true s.next s.window s.ahead s.run) false := Ev.step (f := fun _ => some false) (fun k => by simp [r36_Valid.j0]) (Ev.now _)
  have hJ := refValid_j0 s size
  unfold validP
  by_cases h1 : 0 ≤ size ∧ size ≤ 4096
  · by_cases h2 : 0 ≤ most ∧ most ≤ 64
    · by_cases h3 : 0 ≤ p.f0 ∧ p.f0 ≤ size
      · by_cases h4 : 0 ≤ p.f1 ∧ p.f1 ≤ size
        · have hw : wrap64 (p.f0 + p.f1) = p.f0 + p.f1 := wrap64_of _ (by omega) (by omega)
          by_cases h5 : p.f0 + p.f1 > size
          · have h6 : ¬ okRd p size most := fun h => by have := h.2.2.2; omega
            rw [decide_eq_false (fun h => h6 h.1)]
            refine Ev.congr (fun k => ?_) hF
            unfold r36_Valid.f
            rw [rin_eq, rin_eq, rin_eq, rin_eq, hw, decide_eq_true h1, decide_eq_true h2, decide_eq_true h3, decide_eq_true h4, decide_eq_true h5]
            rfl
          · have h6 : okRd p size most := ⟨h1, h2, h3, h4.1, by omega⟩
            rw [show decide (okRd p size most ∧ okSt s size) = decide (okSt s size) from decide_eq_decide.2 ⟨fun h => h.2, fun h => ⟨h6, h⟩⟩]
            refine Ev.congr (fun k => ?_) hJ
            unfold r36_Valid.f
            rw [rin_eq, rin_eq, rin_eq, rin_eq, hw, decide_eq_true h1, decide_eq_true h2, decide_eq_true h3, decide_eq_true h4, decide_eq_false h5]
            rfl
        · have h6 : ¬ okRd p size most := fun h => by have := h.2.2.2; omega
          rw [decide_eq_false (fun h => h6 h.1)]
          refine Ev.congr (fun k => ?_) hF
          unfold r36_Valid.f
          rw [rin_eq, rin_eq, rin_eq, rin_eq, decide_eq_true h1, decide_eq_true h2, decide_eq_true h3, decide_eq_false h4]
          rfl
      · rw [decide_eq_false (fun h => h3 h.1.2.2.1)]
        refine Ev.congr (fun k => ?_) hF
        unfold r36_Valid.f
        rw [rin_eq, rin_eq, rin_eq, decide_eq_true h1, decide_eq_true h2, decide_eq_false h3]
        rfl
    · rw [decide_eq_false (fun h => h2 h.1.2.1)]
      refine Ev.congr (fun k => ?_) hF
      unfold r36_Valid.f
      rw [rin_eq, rin_eq, decide_eq_true h1, decide_eq_false h2]
      rfl
  · rw [decide_eq_false (fun h => h1 h.1.1)]
    refine Ev.congr (fun k => ?_) hF
    unfold r36_Valid.f
    rw [rin_eq, decide_eq_false h1]
    rfl
theorem refRead_j0 (size e start w run : Int) (h1 : 0 ≤ size ∧ size ≤ 4096) (h2 : 0 ≤ e ∧ e ≤ size) (h3 : 0 ≤ start ∧ start ≤ size) (h4 : 0 ≤ w ∧ w ≤ 64) : Ev (fun k => r36_Read.j0 k size e start e w 0 run) (finR size e start w run) := by
  have w1 : wrap64 (64 * w) = 64 * w := wrap64_of _ (by omega) (by omega)
  have w2 : wrap64 (e + 64 * w) = e + 64 * w := wrap64_of _ (by omega) (by omega)
  have w3 : wrap64 (min size (e + 64 * w) - start) = min size (e + 64 * w) - start := wrap64_of _ (by omega) (by omega)
  refine Ev.step (f := fun _ => some (finR size e start w run)) (fun k => ?_) (Ev.now _)
  simp only [r36_Read.j0]
  rw [w1, w2, mn_eq, w3]
  unfold finR
  by_cases h : min size (e + 64 * w) ≤ start
  · rw [if_neg (by omega), if_pos h, if_pos h, show max start (min size (e + 64 * w)) = start by omega]
  · rw [if_pos (by omega), if_neg h, if_neg h, show max start (min size (e + 64 * w)) = min size (e + 64 * w) by omega]
theorem refRead_ev (s : St) (p : Sp) (size most : Int) : Ev (fun k => r36_Read.f k s.next s.window s.ahead s.run p.f0 p.f1 size most) (readR s p size most) := by
  unfold readR
  cases hv : validP s p size most with
  | false =>
    rw [if_neg (by simp)]
    have h := Ev.bind (f := fun k t => if t = true then (if p.f0 = s.next then r36_Read.j0 k size (wrap64 (p.f0 + p.f1)) (mx (wrap64 (p.f0 + p.f1)) s.ahead) (wrap64 (p.f0 + p.f1)) (mn most (mx 1 (wrap64 (2 * s.window)))) 0 (wrap64 (s.run + 1)) else r36_Read.j0 k size (wrap64 (p.f0 + p.f1)) (wrap64 (p.f0 + p.f1)) (wrap64 (p.f0 + p.f1)) 0 0 1) else some (0, 0, 0, 0, 0, 0)) (refValid_ev s p size most) (r := (0, 0, 0, 0, 0, 0)) (by rw [hv]; exact Ev.congr (fun k => if_neg (by simp)) (Ev.now _))
    exact Ev.congr (fun k => rfl) h
  | true =>
    rw [if_pos rfl]
    have ho := of_decide_eq_true hv
    unfold okRd okSt at ho
    have w1 : wrap64 (p.f0 + p.f1) = p.f0 + p.f1 := wrap64_of _ (by omega) (by omega)
    have w2 : wrap64 (2 * s.window) = 2 * s.window := wrap64_of _ (by omega) (by omega)
    have w3 : wrap64 (s.run + 1) = s.run + 1 := wrap64_of _ (by omega) (by omega)
    have w4 : min most (max 1 (2 * s.window)) = min (max (2 * s.window) 1) most := by omega
    have hin : Ev (fun k => if p.f0 = s.next then r36_Read.j0 k size (wrap64 (p.f0 + p.f1)) (mx (wrap64 (p.f0 + p.f1)) s.ahead) (wrap64 (p.f0 + p.f1)) (mn most (mx 1 (wrap64 (2 * s.window)))) 0 (wrap64 (s.run + 1)) else r36_Read.j0 k size (wrap64 (p.f0 + p.f1)) (wrap64 (p.f0 + p.f1)) (wrap64 (p.f0 + p.f1)) 0 0 1)
        (if p.f0 = s.next then finR size (p.f0 + p.f1) (max (p.f0 + p.f1) s.ahead) (min (max (2 * s.window) 1) most) (s.run + 1) else finR size (p.f0 + p.f1) (p.f0 + p.f1) 0 1) := by
      rw [w1, w2, w3, mx_eq, mx_eq, mn_eq, w4]
      by_cases h : p.f0 = s.next
      · rw [if_pos h]
        exact Ev.congr (fun k => if_pos h) (refRead_j0 size (p.f0 + p.f1) (max (p.f0 + p.f1) s.ahead) (min (max (2 * s.window) 1) most) (s.run + 1) ho.1.1 (by omega) (by omega) (by omega))
      · rw [if_neg h]
        exact Ev.congr (fun k => if_neg h) (refRead_j0 size (p.f0 + p.f1) (p.f0 + p.f1) 0 1 ho.1.1 (by omega) (by omega) (by omega))
    have h := Ev.bind (f := fun k t => if t = true then (if p.f0 = s.next then r36_Read.j0 k size (wrap64 (p.f0 + p.f1)) (mx (wrap64 (p.f0 + p.f1)) s.ahead) (wrap64 (p.f0 + p.f1)) (mn most (mx 1 (wrap64 (2 * s.window)))) 0 (wrap64 (s.run + 1)) else r36_Read.j0 k size (wrap64 (p.f0 + p.f1)) (wrap64 (p.f0 + p.f1)) (wrap64 (p.f0 + p.f1)) 0 0 1) else some (0, 0, 0, 0, 0, 0)) (refValid_ev s p size most) (by rw [hv]; exact Ev.congr (fun k => if_pos rfl) hin)
    exact Ev.congr (fun k => rfl) h
end Go.Proofs.Ytapbmkcncjkanaa.P
