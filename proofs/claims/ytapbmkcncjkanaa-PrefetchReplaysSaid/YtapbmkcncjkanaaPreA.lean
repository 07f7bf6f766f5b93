/- Chapter 36: what Read, Requests, Waste and Replay compute. -/
import Derived.Test.YtapbmkcncjkanaaLives
import Derived.Test.YtapbmkcncjkanaaCnt
import Derived.Test.YtapbmkcncjkanaaP3
import Derived.Test.YtapbmkcncjkanaaP9
import Derived.Test.YtapbmkcncjkanaaP10
import Derived.Test.YtapbmkcncjkanaaP10
import Derived.Test.YtapbmkcncjkanaaP10
set_option linter.unusedVariables false
set_option linter.unusedSimpArgs false
namespace Go.Proofs.Ytapbmkcncjkanaa.P
open Go.RowKit Go.Proofs Go.Proofs.YtapbmkcncjkanaaW.PrintWords Go.Proofs.YtapbmkcncjkanaaW.PrintLast Go.Proofs.YtapbmkcncjkanaaW.PrintMore

/-! ### Read -/
/-- A stream: Next, Window, Ahead, Run. -/
structure St where
  next : Int
  window : Int
  ahead : Int
  run : Int
def okSt (s : St) (size : Int) : Prop := (0 ≤ s.next ∧ s.next ≤ size) ∧ (0 ≤ s.ahead ∧ s.ahead ≤ size) ∧ (0 ≤ s.window ∧ s.window ≤ 64) ∧ (0 ≤ s.run ∧ s.run ≤ 1125899906842623)
def okRd (p : Sp) (size most : Int) : Prop := (0 ≤ size ∧ size ≤ 4096) ∧ (0 ≤ most ∧ most ≤ 64) ∧ (0 ≤ p.f0 ∧ p.f0 ≤ size) ∧ (0 ≤ p.f1 ∧ p.f1 ≤ size - p.f0)
instance (s : St) (size : Int) : Decidable (okSt s size) := by unfold okSt; exact inferInstance
instance (p : Sp) (size most : Int) : Decidable (okRd p size most) := by unfold okRd; exact inferInstance
def validP (s : St) (p : Sp) (size most : Int) : Bool := decide (okRd p size most ∧ okSt s size)
theorem pin_eq (a b c : Int) : prefetch_in.f a b c = some (decide (b ≤ a ∧ a ≤ c)) := by
  unfold prefetch_in.f
  by_cases h : a ≥ b
  · rw [if_pos h]
    exact congrArg some (decide_eq_decide.2 ⟨fun q => ⟨h, q⟩, fun q => q.2⟩)
  · rw [if_neg h]
    exact congrArg some (decide_eq_false (fun q => h q.1)).symm
theorem valid_j0 (s : St) (size : Int) : Ev (fun k => prefetch_valid.j0 k size false s.next s.window s.ahead s.run) (decide (okSt s size)) := by
  refine Ev.step (f := fun _ => some (decide (okSt s size))) (fun k => ?_) (Ev.now _)
  simp only [prefetch_valid.j0]
  rw [if_neg (by simp), pin_eq, pin_eq, pin_eq, pin_eq]
  simp only [Option.bind_some]
  by_cases h1 : 0 ≤ s.next ∧ s.next ≤ size
  · rw [if_pos (decide_eq_true h1)]
    by_cases h2 : 0 ≤ s.ahead ∧ s.ahead ≤ size
    · rw [if_pos (decide_eq_true h2)]
      by_cases h3 : 0 ≤ s.window ∧ s.window ≤ 64
      · rw [if_pos (decide_eq_true h3)]
        exact congrArg some (decide_eq_decide.2 ⟨fun h4 => ⟨h1, h2, h3, h4⟩, fun h => h.2.2.2⟩)
      · rw [if_neg (by simpa using h3)]
        exact congrArg some (decide_eq_false (fun h => h3 h.2.2.1)).symm
    · rw [if_neg (by simpa using h2)]
      exact congrArg some (decide_eq_false (fun h => h2 h.2.1)).symm
  · rw [if_neg (by simpa using h1)]
    exact congrArg some (decide_eq_false (fun h => h1 h.1)).symm
theorem valid_ev (s : St) (p : Sp) (size most : Int) : Ev (fun k => prefetch_valid.f k s.next s.window s.ahead s.run p.f0 p.f1 size most) (validP s p size most) := by
  have hF : Ev (fun k => prefetch_valid.j0 k size true s.next s.window s.ahead s.run) false := Ev.step (f := fun _ => some false) (fun k => by simp [prefetch_valid.j0]) (Ev.now _)
  have hJ := valid_j0 s size
  unfold validP
  by_cases h1 : 0 ≤ size ∧ size ≤ 4096
  · by_cases h2 : 0 ≤ most ∧ most ≤ 64
    · by_cases h3 : 0 ≤ p.f0 ∧ p.f0 ≤ size
      · have hw : wrap64 (size - p.f0) = size - p.f0 := wrap64_of _ (by omega) (by omega)
        by_cases h4 : 0 ≤ p.f1 ∧ p.f1 ≤ size - p.f0
        · rw [show decide (okRd p size most ∧ okSt s size) = decide (okSt s size) from decide_eq_decide.2 ⟨fun h => h.2, fun h => ⟨⟨h1, h2, h3, h4⟩, h⟩⟩]
          refine Ev.congr (fun k => ?_) hJ
          unfold prefetch_valid.f
          rw [pin_eq, pin_eq, pin_eq, pin_eq, hw, decide_eq_true h1, decide_eq_true h2, decide_eq_true h3, decide_eq_true h4]
          rfl
        · rw [decide_eq_false (fun h => h4 h.1.2.2.2)]
          refine Ev.congr (fun k => ?_) hF
          unfold prefetch_valid.f
          rw [pin_eq, pin_eq, pin_eq, pin_eq, hw, decide_eq_true h1, decide_eq_true h2, decide_eq_true h3, decide_eq_false h4]
          rfl
      · rw [decide_eq_false (fun h => h3 h.1.2.2.1)]
        refine Ev.congr (fun k => ?_) hF
        unfold prefetch_valid.f
        rw [pin_eq, pin_eq, pin_eq, decide_eq_true h1, decide_eq_true h2, decide_eq_false h3]
        rfl
    · rw [decide_eq_false (fun h => h2 h.1.2.1)]
      refine Ev.congr (fun k => ?_) hF
      unfold prefetch_valid.f
      rw [pin_eq, pin_eq, decide_eq_true h1, decide_eq_false h2]
      rfl
  · rw [decide_eq_false (fun h => h1 h.1.1)]
    refine Ev.congr (fun k => ?_) hF
    unfold prefetch_valid.f
    rw [pin_eq, decide_eq_false h1]
    rfl
/-- What a read makes of the place behind it, the start of what is requested, the window and the count of reads. -/
def finR (size e start w run : Int) : Int × Int × Int × Int × Int × Int :=
  (e, w, max start (min size (e + 64 * w)), run, if min size (e + 64 * w) ≤ start then 0 else start, if min size (e + 64 * w) ≤ start then 0 else min size (e + 64 * w) - start)
def readR (s : St) (p : Sp) (size most : Int) : Int × Int × Int × Int × Int × Int :=
  if validP s p size most = true then (if p.f0 = s.next then finR size (p.f0 + p.f1) (max (p.f0 + p.f1) s.ahead) (min (max (2 * s.window) 1) most) (s.run + 1) else finR size (p.f0 + p.f1) (p.f0 + p.f1) 0 1) else (0, 0, 0, 0, 0, 0)
theorem mn_eq (a b : Int) : mn a b = min a b := by unfold mn; omega
theorem mx_eq (a b : Int) : mx a b = max a b := by unfold mx; omega
theorem read_j0 (size e start w run : Int) (h1 : 0 ≤ size ∧ size ≤ 4096) (h2 : 0 ≤ e ∧ e ≤ size) (h3 : 0 ≤ start ∧ start ≤ size) (h4 : 0 ≤ w ∧ w ≤ 64) : Ev (fun k => prefetch_Read.j0 k size e start e w 0 run) (finR size e start w run) := by
  have w1 : wrap64 (64 * w) = 64 * w := wrap64_of _ (by omega) (by omega)
  have w2 : wrap64 (e + 64 * w) = e + 64 * w := wrap64_of _ (by omega) (by omega)
  have w3 : wrap64 (min size (e + 64 * w) - start) = min size (e + 64 * w) - start := wrap64_of _ (by omega) (by omega)
  refine Ev.step (f := fun _ => some (finR size e start w run)) (fun k => ?_) (Ev.now _)
  simp only [prefetch_Read.j0]
  rw [w1, w2, mn_eq, mx_eq, w3]
  unfold finR
  by_cases h : min size (e + 64 * w) ≤ start
  · rw [if_pos h, if_pos h, if_pos h]
  · rw [if_neg h, if_neg h, if_neg h]
theorem read_ev (s : St) (p : Sp) (size most : Int) : Ev (fun k => prefetch_Read.f k s.next s.window s.ahead s.run p.f0 p.f1 size most) (readR s p size most) := by
  unfold readR
  cases hv : validP s p size most with
  | false =>
    rw [if_neg (by simp)]
    have h := Ev.bind (f := fun k t => if t = true then (if p.f0 = s.next then prefetch_Read.j0 k size (wrap64 (p.f0 + p.f1)) (mx (wrap64 (p.f0 + p.f1)) s.ahead) (wrap64 (p.f0 + p.f1)) (mn (mx (wrap64 (2 * s.window)) 1) most) 0 (wrap64 (s.run + 1)) else prefetch_Read.j0 k size (wrap64 (p.f0 + p.f1)) (wrap64 (p.f0 + p.f1)) (wrap64 (p.f0 + p.f1)) 0 0 1) else some (0, 0, 0, 0, 0, 0)) (valid_ev s p size most) (r := (0, 0, 0, 0, 0, 0)) (by rw [hv]; exact Ev.congr (fun k => if_neg (by simp)) (Ev.now _))
    exact Ev.congr (fun k => rfl) h
  | true =>
    rw [if_pos rfl]
    have ho := of_decide_eq_true hv
    unfold okRd okSt at ho
    have w1 : wrap64 (p.f0 + p.f1) = p.f0 + p.f1 := wrap64_of _ (by omega) (by omega)
    have w2 : wrap64 (2 * s.window) = 2 * s.window := wrap64_of _ (by omega) (by omega)
    have w3 : wrap64 (s.run + 1) = s.run + 1 := wrap64_of _ (by omega) (by omega)
    have hin : Ev (fun k => if p.f0 = s.next then prefetch_Read.j0 k size (wrap64 (p.f0 + p.f1)) (mx (wrap64 (p.f0 + p.f1)) s.ahead) (wrap64 (p.f0 + p.f1)) (mn (mx (wrap64 (2 * s.window)) 1) most) 0 (wrap64 (s.run + 1)) else prefetch_Read.j0 k size (wrap64 (p.f0 + p.f1)) (wrap64 (p.f0 + p.f1)) (wrap64 (p.f0 + p.f1)) 0 0 1)
        (if p.f0 = s.next then finR size (p.f0 + p.f1) (max (p.f0 + p.f1) s.ahead) (min (max (2 * s.window) 1) most) (s.run + 1) else finR size (p.f0 + p.f1) (p.f0 + p.f1) 0 1) := by
      rw [w1, w2, w3, mx_eq, mx_eq, mn_eq]
      by_cases h : p.f0 = s.next
      · rw [if_pos h]
        exact Ev.congr (fun k => if_pos h) (read_j0 size (p.f0 + p.f1) (max (p.f0 + p.f1) s.ahead) (min (max (2 * s.window) 1) most) (s.run + 1) ho.1.1 (by omega) (by omega) (by omega))
      · rw [if_neg h]
        exact Ev.congr (fun k => if_neg h) (read_j0 size (p.f0 + p.f1) (p.f0 + p.f1) 0 1 ho.1.1 (by omega) (by omega) (by omega))
    have h := Ev.bind (f := fun k t => if t = true then (if p.f0 = s.next then prefetch_Read.j0 k size (wrap64 (p.f0 + p.f1)) (mx (wrap64 (p.f0 + p.f1)) s.ahead) (wrap64 (p.f0 + p.f1)) (mn (mx (wrap64 (2 * s.window)) 1) most) 0 (wrap64 (s.run + 1)) else prefetch_Read.j0 k size (wrap64 (p.f0 + p.f1)) (wrap64 (p.f0 + p.f1)) (wrap64 (p.f0 + p.f1)) 0 0 1) else some (0, 0, 0, 0, 0, 0)) (valid_ev s p size most) (by rw [hv]; exact Ev.congr (fun k => if_pos rfl) hin)
    exact Ev.congr (fun k => rfl) h

/-! ### Requests and Waste -/
noncomputable def reqL (m : List Sp) (a : Sp) (size gap : Int) : List Sp := gapsL gap (nrm (alignL (unionL m [a]) 64 size))
theorem alignL_len (l : List Sp) (size limit : Int) (hl : l.length < 1073741824) : (alignL l size limit).length ≤ 4 * l.length := by
  unfold alignL
  split
  · simp
  · have h1 := (normal_ev l (by unfold bigS; omega)).2.2
    have h2 := alignOut_length size (min limit 1125899906842624) (nrm l)
    have h3 := (normal_ev (alignOut size (min limit 1125899906842624) (nrm l)) (by unfold bigS; omega)).2.2
    omega
theorem joinG_len (gap : Int) : ∀ (m : List Sp) (c : Sp), (joinG gap c m).length ≤ m.length + 1
  | [], c => by simp [joinG]
  | s :: m, c => by
    have h1 := joinG_len gap m ⟨c.f0, s.f0 + s.f1 - c.f0⟩
    have h2 := joinG_len gap m s
    unfold joinG
    split
    · rw [List.length_cons]; omega
    · rw [List.length_cons, List.length_cons]; omega
theorem gapsL_len (gap : Int) (m : List Sp) : (gapsL gap m).length ≤ m.length := by
  cases m with
  | nil => simp [gapsL]
  | cons s m => exact joinG_len gap m s
theorem reqL_len (m : List Sp) (a : Sp) (size gap : Int) (hm : m.length < 1048576) : (reqL m a size gap).length ≤ 16 * m.length + 16 := by
  have h1 := (union_ev m [a] (by unfold bigS; omega) (by unfold bigS; simp)).2.2
  rw [List.length_singleton] at h1
  have h2 := alignL_len (unionL m [a]) 64 size (by omega)
  have h3 := (normal_ev (alignL (unionL m [a]) 64 size) (by unfold bigS; omega)).2.2
  have h4 := gapsL_len gap (nrm (alignL (unionL m [a]) 64 size))
  unfold reqL
  omega
theorem requests_ev (m : List Sp) (a : Sp) (size gap : Int) (hm : m.length < 1048576) : Ev (fun k => prefetch_Requests.f k m a.f0 a.f1 size gap) (reqL m a size gap) := by
  have h1 := (union_ev m [a] (by unfold bigS; omega) (by unfold bigS; simp)).2.2
  rw [List.length_singleton] at h1
  have h2 := alignL_len (unionL m [a]) 64 size (by omega)
  have n1 : extent_Union.f m [(⟨a.f0, a.f1⟩ : Sp)] = some (unionL m [a]) := if_pos ⟨by unfold bigS; omega, by unfold bigS; simp⟩
  have hb := Ev.bind (f := fun k t => (extent_Gaps.f k t gap).bind fun t217 => some t217) (align_ev (unionL m [a]) 64 size (by omega) (by omega)) (Ev.bind (f := fun k t => some t) (gaps_ev (alignL (unionL m [a]) 64 size) gap (by omega)) (Ev.now _))
  refine Ev.congr (fun k => ?_) hb
  unfold prefetch_Requests.f
  rw [n1]
  rfl
noncomputable def wasteL (a b : List Sp) : Int := totL (subL a b)
theorem waste_ev (a b : List Sp) (ha : a.length < 1048576) (hb : b.length < 1048576) : Ev (fun k => prefetch_Waste.f k a b) (wasteL a b) := by
  have h1 := sub_ev a b (by unfold bigS; omega) (by unfold bigS; omega)
  have n1 : extent_Subtract.f a b = some (subL a b) := if_pos ⟨by unfold bigS; omega, by unfold bigS; omega⟩
  have ht := total_ev (subL a b) (by omega)
  rw [nrm_of_Norm h1.2.1.1] at ht
  have hb := Ev.bind (f := fun k t => some t) ht (Ev.now (totL (subL a b)))
  refine Ev.congr (fun k => ?_) hb
  unfold prefetch_Waste.f
  rw [n1]
  rfl

/-! ### Replay -/
def nextR (s : St) (p : Sp) (size most : Int) : St := ⟨(readR s p size most).1, (readR s p size most).2.1, (readR s p size most).2.2.1, (readR s p size most).2.2.2.1⟩
def aheadR (s : St) (p : Sp) (size most : Int) : Sp := ⟨(readR s p size most).2.2.2.2.1, (readR s p size most).2.2.2.2.2⟩
noncomputable def replayL (size most : Int) : List Sp → St → List Sp → List Sp
  | out, _, [] => out
  | out, s, p :: l => if validP s p size most = true then replayL size most (unionL out (reqL (subL [p] out) (aheadR s p size most) size 0)) (nextR s p size most) l else replayL size most out s l
end Go.Proofs.Ytapbmkcncjkanaa.P
