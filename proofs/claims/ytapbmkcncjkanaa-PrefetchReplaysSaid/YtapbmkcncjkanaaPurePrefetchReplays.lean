/- PrefetchReplays, as a fact on lists. -/
import Derived.Test.YtapbmkcncjkanaaPreQ
import Derived.Test.YtapbmkcncjkanaaPreR
import Derived.Test.YtapbmkcncjkanaaP24
import Derived.Test.YtapbmkcncjkanaaSayPrefetchReplays
set_option linter.unusedVariables false
set_option linter.unusedSimpArgs false
namespace Go.Proofs.Ytapbmkcncjkanaa.P
open Go.RowKit Go.Proofs Go.Proofs.YtapbmkcncjkanaaW.PrintWords Go.Proofs.YtapbmkcncjkanaaW.PrintLast Go.Proofs.YtapbmkcncjkanaaW.PrintMore

theorem refReplay_l0 (size most : Int) (hsz : 0 ≤ size ∧ size ≤ 4096) (l : List Sp) (hl : l.length < 1048576) : ∀ (suf pre : List Sp) (s : St) (out : List Sp), l = pre ++ suf → Norm out → OnBlk size out →
    Ev (fun k => r36_Replay.l0 k l size most out (pre.length : Int) s.next s.window s.ahead s.run) (replayL size most out s suf)
  | [], pre, s, out, hpre, _, _ => by
    have hlen : (pre.length : Int) = l.length := by rw [hpre]; simp
    refine Ev.step (f := fun _ => some out) (fun k => ?_) (Ev.now _)
    simp only [r36_Replay.l0]
    rw [if_neg (by omega)]
  | p :: suf, pre, s, out, hpre, hN, hB => by
    have hlen : l.length = pre.length + (suf.length + 1) := by rw [hpre]; simp
    have hget := rd_at l pre p suf hpre
    have ep : ((pre ++ [p]).length : Int) = ((pre.length + 1 : Nat) : Int) := by simp
    have hol := blk_len hN hB hsz
    have h1 := (sub_ev [p] out (by unfold bigS; simp) (by unfold bigS; omega)).2.2
    rw [List.length_singleton] at h1
    have hq := reqL_spec (subL [p] out) (aheadR s p size most) size 0 hsz (by omega) (by omega)
    have hql := reqL_len (subL [p] out) (aheadR s p size most) size 0 (by omega)
    have hu := (union_ev out (reqL (subL [p] out) (aheadR s p size most) size 0) (by unfold bigS; omega) (by unfold bigS; omega)).2.1
    have hub := union_blk (size := size) (a := out) (b := reqL (subL [p] out) (aheadR s p size most) size 0) (by unfold bigS; omega) (by unfold bigS; omega) hB hq.2.1
    have n1 : (pre.length : Int) < (l.length : Int) := by omega
    have n2 : 0 ≤ (pre.length : Int) := by omega
    have hw := wrap_succ pre.length (by omega)
    have g1 := refSub_ev [(⟨p.f0, p.f1⟩ : Sp)] out (by simp) (by omega)
    have g2 := refReq_ev (subL [p] out) (aheadR s p size most) size 0 (by omega)
    have g3 := refUnion_ev out (reqL (subL [p] out) (aheadR s p size most) size 0) (by omega) (by omega)
    have hv : Ev (fun k => if validP s p size most = true then ((r36_Read.f k s.next s.window s.ahead s.run p.f0 p.f1 size most).bind fun bt508 => ((r34_Subtract.f k [(⟨p.f0, p.f1⟩ : Sp)] out).bind fun t520 => ((r36_Requests.f k t520 bt508.2.2.2.2.1 bt508.2.2.2.2.2 size 0).bind fun t523 => ((r34_Union.f k out t523).bind fun t526 => (r36_Replay.l0 k l size most t526 (wrap64 ((pre.length : Int) + 1)) bt508.1 bt508.2.1 bt508.2.2.1 bt508.2.2.2.1))))) else (r36_Replay.l0 k l size most out (wrap64 ((pre.length : Int) + 1)) s.next s.window s.ahead s.run)) (replayL size most out s (p :: suf)) := by
      by_cases h : validP s p size most = true
      · have ih := refReplay_l0 size most hsz l hl suf (pre ++ [p]) (nextR s p size most) (unionL out (reqL (subL [p] out) (aheadR s p size most) size 0)) (by simp [hpre]) hu.1 hub
        rw [ep, ← hw] at ih
        have e : replayL size most out s (p :: suf) = replayL size most (unionL out (reqL (subL [p] out) (aheadR s p size most) size 0)) (nextR s p size most) suf := by rw [replayL, if_pos h]
        rw [e]
        refine Ev.congr (fun k => if_pos h) (Ev.bind (refRead_ev s p size most) ?_)
        exact Ev.bind g1 (Ev.bind g2 (Ev.bind g3 ih))
      · have ih := refReplay_l0 size most hsz l hl suf (pre ++ [p]) s out (by simp [hpre]) hN hB
        rw [ep, ← hw] at ih
        have e : replayL size most out s (p :: suf) = replayL size most out s suf := by rw [replayL, if_neg h]
        rw [e]
        exact Ev.congr (fun k => if_neg h) ih
    have hr := Ev.bind (f := fun k t506 => if t506 = true then ((r36_Read.f k s.next s.window s.ahead s.run p.f0 p.f1 size most).bind fun bt508 => ((r34_Subtract.f k [(⟨p.f0, p.f1⟩ : Sp)] out).bind fun t520 => ((r36_Requests.f k t520 bt508.2.2.2.2.1 bt508.2.2.2.2.2 size 0).bind fun t523 => ((r34_Union.f k out t523).bind fun t526 => (r36_Replay.l0 k l size most t526 (wrap64 ((pre.length : Int) + 1)) bt508.1 bt508.2.1 bt508.2.2.1 bt508.2.2.2.1))))) else (r36_Replay.l0 k l size most out (wrap64 ((pre.length : Int) + 1)) s.next s.window s.ahead s.run)) (refValid_ev s p size most) hv
    refine Ev.step (fun k => ?_) hr
    simp only [r36_Replay.l0]
    rw [if_pos n1, if_pos n2, hget]
theorem refReplay_ev (l : List Sp) (size most : Int) (hsz : 0 ≤ size ∧ size ≤ 4096) (hl : l.length < 1048576) : Ev (fun k => r36_Replay.f k l size most) (replayL size most [] st0 l) := by
  have h := refReplay_l0 size most hsz l hl l [] st0 [] rfl Norm.nil (fun s hs => by simp at hs)
  exact Ev.congr (fun k => rfl) h

/-! ### Every valid read's bytes are requested -/
theorem readR_next {s : St} {p : Sp} {size most : Int} (h : validP s p size most = true) (hr : s.run ≤ 1000000) : okSt (nextR s p size most) size ∧ (nextR s p size most).run ≤ s.run + 1 := by
  have ho := of_decide_eq_true h
  unfold okRd okSt at ho
  unfold nextR readR
  rw [if_pos h]
  unfold okSt finR
  split
  · simp only
    omega
  · simp only
    omega
theorem replay_covers (size most : Int) (hsz : 0 ≤ size ∧ size ≤ 4096) : ∀ (l : List Sp) (s : St) (out : List Sp), Norm out → OnBlk size out → okSt s size → s.run + l.length ≤ 1000 → ∀ p ∈ l, okRd p size most → ∀ n, inL [p] n = true → inL (replayL size most out s l) n = true
  | [], _, _, _, _, _, _, p, hp, _, _, _ => by simp at hp
  | q :: l, s, out, hN, hB, hs, hrun, p, hp, hok, n, hn => by
    rw [List.length_cons] at hrun
    have hol := blk_len hN hB hsz
    have h1 := sub_ev [q] out (by unfold bigS; simp) (by unfold bigS; omega)
    rw [List.length_singleton] at h1
    have hq := reqL_spec (subL [q] out) (aheadR s q size most) size 0 hsz (by omega) (by omega)
    have hql := reqL_len (subL [q] out) (aheadR s q size most) size 0 (by omega)
    have hu := (union_ev out (reqL (subL [q] out) (aheadR s q size most) size 0) (by unfold bigS; omega) (by unfold bigS; omega)).2.1
    have hub := union_blk (size := size) (a := out) (b := reqL (subL [q] out) (aheadR s q size most) size 0) (by unfold bigS; omega) (by unfold bigS; omega) hB hq.2.1
    have hrn : s.run ≤ 1000000 := by omega
    unfold replayL
    by_cases hv : validP s q size most = true
    · rw [if_pos hv]
      have hnx := readR_next hv hrn
      rcases List.mem_cons.1 hp with rfl | hp
      · refine (replayL_blk size most hsz l _ _ hu.1 hub).2.2 n ?_
        rw [hu.2]
        cases hc : inL out n with
        | true => rfl
        | false =>
          rw [Bool.false_or]
          refine hq.2.2 n (by rw [h1.2.1.2, hn, hc]; rfl) ?_
          rw [inL_cons, inL_nil, Bool.or_false] at hn
          have h2 := (memS_iff p n).1 hn
          unfold okRd at hok
          omega
      · exact replay_covers size most hsz l _ _ hu.1 hub hnx.1 (by have := hnx.2; omega) p hp hok n hn
    · rw [if_neg hv]
      rcases List.mem_cons.1 hp with rfl | hp
      · exact absurd (decide_eq_true ⟨hok, hs⟩) hv
      · exact replay_covers size most hsz l s out hN hB hs (by omega) p hp hok n hn

theorem replays_l1 (size : Int) (hsz : 0 ≤ size ∧ size ≤ 4096) (L : List Sp) (hL : L.length ≤ 4096) (hN : Norm L) (hB : OnBlk size L) : ∀ (suf pre : List Sp), L = pre ++ suf → Ev (fun k => w36_PrefetchReplays.l1 k size L (pre.length : Int)) true
  | [], pre, hpre => by
    have hlen : (pre.length : Int) = L.length := by rw [hpre]; simp
    refine Ev.step (f := fun _ => some true) (fun k => ?_) (Ev.now _)
    simp only [w36_PrefetchReplays.l1]
    rw [if_neg (by omega)]
    rfl
  | s :: suf, pre, hpre => by
    have hlen : L.length = pre.length + (suf.length + 1) := by rw [hpre]; simp
    have hget := rd_at L pre s suf hpre
    have ih := replays_l1 size hsz L hL hN hB suf (pre ++ [s]) (by simp [hpre])
    have ep : ((pre ++ [s]).length : Int) = ((pre.length + 1 : Nat) : Int) := by simp
    rw [ep] at ih
    have hs := (hasS_iff s).1 (hN.1 s (by rw [hpre]; simp))
    have hb := hB s (by rw [hpre]; simp)
    unfold blkSt blkEn at hb
    have n1 : (pre.length : Int) < (L.length : Int) := by omega
    have n2 : 0 ≤ (pre.length : Int) := by omega
    have t1 : Int.tmod s.f0 64 = s.f0 % 64 := Int.tmod_eq_emod_of_nonneg (by omega)
    have t2 : Int.tmod s.f1 64 = s.f1 % 64 := Int.tmod_eq_emod_of_nonneg (by omega)
    have w1 : wrap64 (s.f0 + s.f1) = s.f0 + s.f1 := wrap64_of _ (by omega) (by omega)
    have c1 : ¬ s.f1 < 1 := by omega
    have c2 : ¬ s.f0 + s.f1 > size := by omega
    have c3 : ¬ s.f1 % 64 = 0 → s.f0 + s.f1 = size := fun h => by omega
    have hw := wrap_succ pre.length (by omega)
    refine Ev.step (f := fun k => w36_PrefetchReplays.j4 k size L (pre.length : Int) false) (fun k => ?_) (Ev.step (fun k => ?_) ih)
    · simp only [w36_PrefetchReplays.l1]
      rw [if_pos n1, if_pos n2, hget, t1, if_pos hb.1, if_neg c1, w1, if_neg c2, t2]
      split
      · rfl
      · rename_i h
        rw [c3 h]
        simp
    · simp only [w36_PrefetchReplays.j4]
      rw [if_neg (by simp), hw]
theorem replays_l0 (size most : Int) (l L : List Sp) (hl : l.length ≤ 40) (hL : L.length ≤ 4096) (hc : ∀ p ∈ l, okRd p size most → ∀ n, inL [p] n = true → inL L n = true) (hend : Ev (fun k => w36_PrefetchReplays.l1 k size L 0) true) : ∀ (suf pre : List Sp), l = pre ++ suf → Ev (fun k => w36_PrefetchReplays.l0 k l size most L (pre.length : Int)) true
  | [], pre, hpre => by
    have hlen : (pre.length : Int) = l.length := by rw [hpre]; simp
    refine Ev.step (fun k => ?_) hend
    simp only [w36_PrefetchReplays.l0]
    rw [if_neg (by omega)]
  | p :: suf, pre, hpre => by
    have hlen : l.length = pre.length + (suf.length + 1) := by rw [hpre]; simp
    have hget := rd_at l pre p suf hpre
    have ih := replays_l0 size most l L hl hL hc hend suf (pre ++ [p]) (by simp [hpre])
    have ep : ((pre ++ [p]).length : Int) = ((pre.length + 1 : Nat) : Int) := by simp
    have n1 : (pre.length : Int) < (l.length : Int) := by omega
    have n2 : 0 ≤ (pre.length : Int) := by omega
    have hw := wrap_succ pre.length (by omega)
    rw [ep] at ih
    have hj : Ev (fun k => w36_PrefetchReplays.j2 k l size most L (pre.length : Int) false) true := by
      refine Ev.step (fun k => ?_) ih
      simp only [w36_PrefetchReplays.j2]
      rw [if_neg (by simp), hw]
    have hv : Ev (fun k => if validP st0 p size most = true then ((r34_Covers.f k L p.f0 p.f1).bind fun t548 => (w36_PrefetchReplays.j2 k l size most L (pre.length : Int) (!t548))) else (w36_PrefetchReplays.j2 k l size most L (pre.length : Int) false)) true := by
      by_cases h : validP st0 p size most = true
      · have hok := (of_decide_eq_true h).1
        have hs : subL [(⟨p.f0, p.f1⟩ : Sp)] L = [] := canon_eq Norm.nil (fun n => by
          rw [inL_nil]
          have := hc p (by rw [hpre]; simp) hok n
          revert this
          show (inL [p] n = true → inL L n = true) → false = (inL [p] n && !inL L n)
          cases inL [p] n <;> cases inL L n <;> simp)
        have hcv := refCovers_ev L p.f0 p.f1 (by omega)
        rw [hs] at hcv
        exact Ev.congr (fun k => if_pos h) (Ev.bind hcv hj)
      · exact Ev.congr (fun k => if_neg h) hj
    have hr := Ev.bind (f := fun k t546 => if t546 = true then ((r34_Covers.f k L p.f0 p.f1).bind fun t548 => (w36_PrefetchReplays.j2 k l size most L (pre.length : Int) (!t548))) else (w36_PrefetchReplays.j2 k l size most L (pre.length : Int) false)) (refValid_ev st0 p size most) hv
    refine Ev.step (fun k => ?_) hr
    simp only [w36_PrefetchReplays.l0]
    rw [if_pos n1, if_pos n2, hget]
    rfl
theorem PrefetchReplays : PrefetchReplays_Pure := by
  intro l size most _ _ _
  have hj : ∀ q : Bool, (q = false → l.length ≤ 40 ∧ (0 ≤ size ∧ size ≤ 4096) ∧ (0 ≤ most ∧ most ≤ 64)) → Ev (fun k => w36_PrefetchReplays.j0 k l size most q) true := by
    intro q hq
    cases q with
    | true => exact Ev.step (f := fun _ => some true) (fun k => by simp [w36_PrefetchReplays.j0, w36_awake_s.f]) (Ev.now _)
    | false =>
      obtain ⟨hl, hsz, hm⟩ := hq rfl
      have hb := replayL_blk size most hsz l st0 [] Norm.nil (fun s hs => by simp at hs)
      have hlen := blk_len hb.1 hb.2.1 hsz
      have hc := replay_covers size most hsz l st0 [] Norm.nil (fun s hs => by simp at hs) (by unfold okSt st0; simp only; omega) (by show (0 : Int) + l.length ≤ 1000; omega)
      have g1 := replay_ev l size most hsz (by omega)
      have g2 := refReplay_ev l size most hsz (by omega)
      generalize replayL size most [] st0 l = L at *
      have e1 := replays_l1 size hsz L hlen hb.1 hb.2.1 L [] rfl
      have e0 := replays_l0 size most l L hl hlen hc e1 l [] rfl
      have hs := Ev.bind (f := fun k t544 => if t544 = true then (w36_PrefetchReplays.l0 k l size most L 0) else (some false)) (Same_ev L (by omega)) (Ev.congr (fun k => if_pos rfl) e0)
      have h2 := Ev.bind (f := fun k t541 => (r34_Same.f k L t541).bind fun t544 => (if t544 = true then (w36_PrefetchReplays.l0 k l size most L 0) else (some false))) g2 hs
      have h1 := Ev.bind (f := fun k t538 => (r36_Replay.f k l size most).bind fun t541 => (r34_Same.f k t538 t541).bind fun t544 => (if t544 = true then (w36_PrefetchReplays.l0 k l size most t538 0) else (some false))) g1 h2
      refine Ev.step (fun k => ?_) h1
      simp only [w36_PrefetchReplays.j0]
      rw [if_neg (by simp)]
  have hT := hj true (fun h => by simp at h)
  have hall : Ev (fun k => w36_PrefetchReplays.f k l size most) true := by
    have h0 : Ev (fun k => if fewB l = true then (if size < 0 then (w36_PrefetchReplays.j0 k l size most true) else (if size > 4096 then (w36_PrefetchReplays.j0 k l size most true) else (if most < 0 then (w36_PrefetchReplays.j0 k l size most true) else (w36_PrefetchReplays.j0 k l size most (decide (most > 64)))))) else (w36_PrefetchReplays.j0 k l size most true)) true := by
      by_cases g0 : fewB l = true
      · refine Ev.congr (fun k => if_pos g0) ?_
        have hl := fewB_len g0
        by_cases g1 : size < 0
        · exact Ev.congr (fun k => if_pos g1) hT
        · refine Ev.congr (fun k => if_neg g1) ?_
          by_cases g2 : size > 4096
          · exact Ev.congr (fun k => if_pos g2) hT
          · refine Ev.congr (fun k => if_neg g2) ?_
            by_cases g3 : most < 0
            · exact Ev.congr (fun k => if_pos g3) hT
            · refine Ev.congr (fun k => if_neg g3) (hj _ (fun h => ?_))
              have := of_decide_eq_false h
              exact ⟨hl, by omega, by omega⟩
      · exact Ev.congr (fun k => if_neg g0) hT
    exact Ev.congr (fun k => rfl) (Ev.bind (few_ev l) h0)
  exact hall.rounds
end Go.Proofs.Ytapbmkcncjkanaa.P
