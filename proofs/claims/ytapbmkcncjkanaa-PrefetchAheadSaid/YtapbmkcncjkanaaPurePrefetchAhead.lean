/- PrefetchAhead, as a fact on numbers. -/
import Derived.Test.YtapbmkcncjkanaaAwake
import Derived.Test.YtapbmkcncjkanaaSayPrefetchAhead
set_option linter.unusedVariables false
set_option linter.unusedSimpArgs false
namespace Go.Proofs.Ytapbmkcncjkanaa.P
open Go.RowKit Go.Proofs Go.Proofs.YtapbmkcncjkanaaW.PrintWords Go.Proofs.YtapbmkcncjkanaaW.PrintLast Go.Proofs.YtapbmkcncjkanaaW.PrintMore

theorem ahead_l0 (size most : Int) (h1 : 0 ≤ size ∧ size ≤ 4096) (h2 : 0 ≤ most ∧ most ≤ 64) (l : List Int) (hl : l.length ≤ 60) : ∀ (suf pre : List Int) (at_ ahead window : Int), l = pre ++ suf → (0 ≤ at_ ∧ at_ ≤ size) → (at_ ≤ ahead ∧ ahead ≤ size) → (0 ≤ window ∧ window ≤ most) →
    Ev (fun k => tapearchivelaw36_PrefetchAhead.l0 k l size most at_ ahead window (pre.length : Int) at_ window ahead (pre.length : Int)) true
  | [], pre, a, b, w, hpre, _, _, _ => by
    have hlen : (pre.length : Int) = l.length := by rw [hpre]; simp
    refine Ev.step (f := fun _ => some true) (fun k => ?_) (Ev.now _)
    simp only [tapearchivelaw36_PrefetchAhead.l0]
    rw [if_neg (by omega)]
    rfl
  | c :: suf, pre, a, b, w, hpre, ha, hb, hw => by
    have hlen : l.length = pre.length + (suf.length + 1) := by rw [hpre]; simp
    have hget : rd l (pre.length : Int) = c := by
      unfold rd
      rw [Int.toNat_natCast, hpre]
      simp [List.getD_eq_getElem?_getD]
    have ep : ((pre ++ [c]).length : Int) = ((pre.length + 1 : Nat) : Int) := by simp
    have n1 : (pre.length : Int) < (l.length : Int) := by omega
    have n2 : 0 ≤ (pre.length : Int) := by omega
    have n3 : pre.length ≤ 60 := by omega
    have hwn : Nat → wrap64 ((pre.length : Int) + 1) = ((pre.length + 1 : Nat) : Int) := fun _ => wrap_succ pre.length (by omega)
    have hT : Ev (fun k => tapearchivelaw36_PrefetchAhead.j2 k l size most a b w (pre.length : Int) true a w b (pre.length : Int)) true :=
      Ev.step (f := fun _ => some true) (fun k => by simp [tapearchivelaw36_PrefetchAhead.j2, tapearchivelaw36_awake_s.f]) (Ev.now _)
    by_cases hc0 : c < 0
    · refine Ev.step (fun k => ?_) hT
      simp only [tapearchivelaw36_PrefetchAhead.l0]
      rw [if_pos n1, if_pos n2, hget, if_pos hc0]
    · by_cases hc1 : c > size - a
      · refine Ev.step (fun k => ?_) hT
        simp only [tapearchivelaw36_PrefetchAhead.l0]
        rw [if_pos n1, if_pos n2, hget, if_neg hc0, wrap64_of (size - a) (by omega) (by omega), decide_eq_true hc1]
      · have hok : okRd ⟨a, c⟩ size most ∧ okSt ⟨a, w, b, (pre.length : Int)⟩ size := by unfold okRd okSt; simp only; omega
        have hv : validP ⟨a, w, b, (pre.length : Int)⟩ ⟨a, c⟩ size most = true := decide_eq_true hok
        have hr := read_ev ⟨a, w, b, (pre.length : Int)⟩ ⟨a, c⟩ size most
        have er : readR ⟨a, w, b, (pre.length : Int)⟩ ⟨a, c⟩ size most = finR size (a + c) (max (a + c) b) (min (max (2 * w) 1) most) ((pre.length : Int) + 1) := by
          unfold readR
          rw [if_pos hv, if_pos rfl]
        rw [er] at hr
        have w1 : Nat → wrap64 (a + c) = a + c := fun _ => wrap64_of _ (by omega) (by omega)
        have w2 : Nat → wrap64 (2 * w) = 2 * w := fun _ => wrap64_of _ (by omega) (by omega)
        have ew : mn most (mx 1 (2 * w)) = min (max (2 * w) 1) most := by rw [mn_eq, mx_eq]; omega
        have hnw : 0 ≤ min (max (2 * w) 1) most ∧ min (max (2 * w) 1) most ≤ most := by omega
        have ih := fun bb h => ahead_l0 size most h1 h2 l hl suf (pre ++ [c]) (a + c) bb (min (max (2 * w) 1) most) (by simp [hpre]) ⟨by omega, by omega⟩ h hnw
        rw [ep] at ih
        generalize hW : min (max (2 * w) 1) most = W at *
        have w3 : Nat → wrap64 (64 * W) = 64 * W := fun _ => wrap64_of _ (by omega) (by omega)
        have hst : a + c ≤ max (a + c) b ∧ max (a + c) b ≤ size ∧ b ≤ max (a + c) b := by omega
        have hsd : max (a + c) b = a + c ∨ max (a + c) b = b := by omega
        have hmx : mx b (a + c) = max (a + c) b := by rw [mx_eq]; omega
        generalize hS : max (a + c) b = S at *
        have hcore : ∀ (A f g : Int), (A = max S (min size (a + c + 64 * W))) → (f = if min size (a + c + 64 * W) ≤ S then 0 else S) → (g = if min size (a + c + 64 * W) ≤ S then 0 else min size (a + c + 64 * W) - S) →
            Ev (fun k => tapearchivelaw36_PrefetchAhead.j3 k l size most (a + c) b W (pre.length : Int) false (a + c) W A ((pre.length : Int) + 1) f g) true := by
          intro A f g hA hf hg
          have hAb : a + c ≤ A ∧ A ≤ size := by omega
          have ih' := ih A hAb
          have e6 : Ev (fun k => tapearchivelaw36_PrefetchAhead.j6 k l size most (a + c) W (pre.length : Int) false (a + c) W A ((pre.length : Int) + 1)) true := by
            refine Ev.step (fun k => ?_) ih'
            simp only [tapearchivelaw36_PrefetchAhead.j6]
            rw [if_neg (by simp), hwn 0]
            rfl
          by_cases hq : min size (a + c + 64 * W) ≤ S
          · rw [if_pos hq] at hf hg
            subst hf hg
            have hAS : A = S := by omega
            refine Ev.step (f := fun k => tapearchivelaw36_PrefetchAhead.j4 k l size most (a + c) b W (pre.length : Int) false (a + c) W A ((pre.length : Int) + 1) 0 0) (fun k => ?_) (Ev.step (f := fun k => tapearchivelaw36_PrefetchAhead.j5 k l size most (a + c) b W (pre.length : Int) (a + c) W A ((pre.length : Int) + 1) 0 0) (fun k => ?_) (Ev.step (fun k => ?_) e6))
            · simp only [tapearchivelaw36_PrefetchAhead.j3]
              rw [if_neg (by simp), if_neg (by omega)]
            · simp only [tapearchivelaw36_PrefetchAhead.j4]
              rw [if_neg (by simp), if_neg (by omega)]
            · simp only [tapearchivelaw36_PrefetchAhead.j5]
              rw [if_neg (by omega), if_pos trivial, if_pos trivial, hmx, hAS]
              simp
          · rw [if_neg hq] at hf hg
            have q1 : f + g = A := by omega
            have q2 : 0 < g := by omega
            have q3 : f ≥ a + c := by omega
            have q4 : f ≥ b := by omega
            have q5 : g ≤ size - f := by omega
            have q6 : g ≤ 64 * W := by omega
            have q7 : Nat → wrap64 (size - f) = size - f := fun _ => wrap64_of _ (by omega) (by omega)
            have q8 : Nat → wrap64 (f + g) = A := fun _ => (wrap64_of _ (by omega) (by omega)).trans q1
            have q9 : mx A (a + c) = A := by rw [mx_eq]; omega
            refine Ev.step (f := fun k => tapearchivelaw36_PrefetchAhead.j4 k l size most (a + c) b W (pre.length : Int) false (a + c) W A ((pre.length : Int) + 1) f g) (fun k => ?_) (Ev.step (f := fun k => tapearchivelaw36_PrefetchAhead.j5 k l size most (a + c) A W (pre.length : Int) (a + c) W A ((pre.length : Int) + 1) f g) (fun k => ?_) (Ev.step (fun k => ?_) e6))
            · simp only [tapearchivelaw36_PrefetchAhead.j3]
              rw [if_neg (by simp), if_pos q2, if_neg (by omega), if_neg (by omega), q7 0, if_neg (by omega), w3 0, decide_eq_false (by omega)]
            · simp only [tapearchivelaw36_PrefetchAhead.j4]
              rw [if_neg (by simp), if_pos q2, q8 0]
            · simp only [tapearchivelaw36_PrefetchAhead.j5]
              rw [if_neg (by omega), if_neg (by omega), q9]
              simp
        have hj3 := hcore _ _ _ rfl rfl rfl
        have hwr : wrap64 ((pre.length : Int) + 1) = (pre.length : Int) + 1 := by rw [hwn 0]; rfl
        have hb2 : Ev (fun k => if (finR size (a + c) S W ((pre.length : Int) + 1)).1 = a + c then (if (finR size (a + c) S W ((pre.length : Int) + 1)).2.1 = W then (tapearchivelaw36_PrefetchAhead.j3 k l size most (a + c) b W (pre.length : Int) ((finR size (a + c) S W ((pre.length : Int) + 1)).2.2.2.1 != (pre.length : Int) + 1) (finR size (a + c) S W ((pre.length : Int) + 1)).1 (finR size (a + c) S W ((pre.length : Int) + 1)).2.1 (finR size (a + c) S W ((pre.length : Int) + 1)).2.2.1 (finR size (a + c) S W ((pre.length : Int) + 1)).2.2.2.1 (finR size (a + c) S W ((pre.length : Int) + 1)).2.2.2.2.1 (finR size (a + c) S W ((pre.length : Int) + 1)).2.2.2.2.2) else (tapearchivelaw36_PrefetchAhead.j3 k l size most (a + c) b W (pre.length : Int) true (finR size (a + c) S W ((pre.length : Int) + 1)).1 (finR size (a + c) S W ((pre.length : Int) + 1)).2.1 (finR size (a + c) S W ((pre.length : Int) + 1)).2.2.1 (finR size (a + c) S W ((pre.length : Int) + 1)).2.2.2.1 (finR size (a + c) S W ((pre.length : Int) + 1)).2.2.2.2.1 (finR size (a + c) S W ((pre.length : Int) + 1)).2.2.2.2.2)) else (tapearchivelaw36_PrefetchAhead.j3 k l size most (a + c) b W (pre.length : Int) true (finR size (a + c) S W ((pre.length : Int) + 1)).1 (finR size (a + c) S W ((pre.length : Int) + 1)).2.1 (finR size (a + c) S W ((pre.length : Int) + 1)).2.2.1 (finR size (a + c) S W ((pre.length : Int) + 1)).2.2.2.1 (finR size (a + c) S W ((pre.length : Int) + 1)).2.2.2.2.1 (finR size (a + c) S W ((pre.length : Int) + 1)).2.2.2.2.2)) true := by
          refine Ev.congr (fun k => ?_) hj3
          unfold finR
          simp only
          rw [if_pos trivial, if_pos trivial, bne_self_eq_false]
        have hB := Ev.bind (f := fun k bt => if bt.1 = a + c then (if bt.2.1 = W then (tapearchivelaw36_PrefetchAhead.j3 k l size most (a + c) b W (pre.length : Int) (bt.2.2.2.1 != (pre.length : Int) + 1) bt.1 bt.2.1 bt.2.2.1 bt.2.2.2.1 bt.2.2.2.2.1 bt.2.2.2.2.2) else (tapearchivelaw36_PrefetchAhead.j3 k l size most (a + c) b W (pre.length : Int) true bt.1 bt.2.1 bt.2.2.1 bt.2.2.2.1 bt.2.2.2.2.1 bt.2.2.2.2.2)) else (tapearchivelaw36_PrefetchAhead.j3 k l size most (a + c) b W (pre.length : Int) true bt.1 bt.2.1 bt.2.2.1 bt.2.2.2.1 bt.2.2.2.2.1 bt.2.2.2.2.2)) hr hb2
        refine Ev.step (f := fun k => tapearchivelaw36_PrefetchAhead.j2 k l size most a b w (pre.length : Int) false a w b (pre.length : Int)) (fun k => ?_) (Ev.step (fun k => ?_) hB)
        · simp only [tapearchivelaw36_PrefetchAhead.l0]
          rw [if_pos n1, if_pos n2, hget, if_neg hc0, wrap64_of (size - a) (by omega) (by omega), decide_eq_false hc1]
        · simp only [tapearchivelaw36_PrefetchAhead.j2]
          rw [if_neg (by simp), if_pos n2, if_pos n1, hget, w1 0, w2 0, ew, hwr]
theorem PrefetchAhead : PrefetchAhead_Pure := by
  intro l size most _ _ _
  have hj : ∀ q : Bool, (q = false → l.length ≤ 60 ∧ (0 ≤ size ∧ size ≤ 4096) ∧ (0 ≤ most ∧ most ≤ 64)) → Ev (fun k => tapearchivelaw36_PrefetchAhead.j0 k l size most q) true := by
    intro q hq
    cases q with
    | true => exact Ev.step (f := fun _ => some true) (fun k => by simp [tapearchivelaw36_PrefetchAhead.j0, tapearchivelaw36_awake_s.f]) (Ev.now _)
    | false =>
      obtain ⟨hl, hsz, hm⟩ := hq rfl
      have h := ahead_l0 size most hsz hm l hl l [] 0 0 0 rfl (by omega) (by omega) (by omega)
      refine Ev.step (fun k => ?_) h
      simp only [tapearchivelaw36_PrefetchAhead.j0]
      rw [if_neg (by simp)]
      rfl
  have hT := hj true (fun h => by simp at h)
  have hall : Ev (fun k => tapearchivelaw36_PrefetchAhead.f k l size most) true := by
    unfold tapearchivelaw36_PrefetchAhead.f
    by_cases g0 : (l.length : Int) > 60
    · exact Ev.congr (fun k => if_pos g0) hT
    · refine Ev.congr (fun k => if_neg g0) ?_
      by_cases g1 : size < 0
      · exact Ev.congr (fun k => if_pos g1) hT
      · refine Ev.congr (fun k => if_neg g1) ?_
        by_cases g2 : size > 4096
        · exact Ev.congr (fun k => if_pos g2) hT
        · refine Ev.congr (fun k => if_neg g2) ?_
          by_cases g3 : most < 0
          · exact Ev.congr (fun k => if_pos g3) hT
          · refine Ev.congr (fun k => if_neg g3) (hj _ (fun h => ?_))
            have := of_decide_eq_false h
            exact ⟨by omega, by omega, by omega⟩
  exact hall.rounds
end Go.Proofs.Ytapbmkcncjkanaa.P
