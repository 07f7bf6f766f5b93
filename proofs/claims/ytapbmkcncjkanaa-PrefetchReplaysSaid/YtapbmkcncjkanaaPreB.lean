/- Chapter 36: how the requested spans lie, and Replay. -/
import Derived.Test.YtapbmkcncjkanaaPreA
set_option linter.unusedVariables false
set_option linter.unusedSimpArgs false
namespace Go.Proofs.Ytapbmkcncjkanaa.P
open Go.RowKit Go.Proofs Go.Proofs.YtapbmkcncjkanaaW.PrintWords Go.Proofs.YtapbmkcncjkanaaW.PrintLast Go.Proofs.YtapbmkcncjkanaaW.PrintMore

/-! ### Starts and ends -/
def blkSt (x : Int) : Prop := x % 64 = 0
def blkEn (size x : Int) : Prop := (x % 64 = 0 ∨ x = size) ∧ x ≤ size
/-- All starts and ends of a list's spans lie on blocks, or at the end. -/
def OnBlk (size : Int) (l : List Sp) : Prop := ∀ s ∈ l, blkSt s.f0 ∧ blkEn size (s.f0 + s.f1)
theorem before' {l : List Sp} (h : Norm l) {s : Sp} (hs : s ∈ l) : inL l (s.f0 - 1) = false := by
  obtain ⟨pre, suf, rfl⟩ := List.append_of_mem hs
  have hp := List.pairwise_append.1 h.2
  rw [Bool.eq_false_iff]
  intro hx
  obtain ⟨t, ht, _, h1, h2⟩ := (inL_iff _ _).1 hx
  rcases List.mem_append.1 ht with ht | ht
  · have := hp.2.2 t ht s (by simp); omega
  · rcases List.mem_cons.1 ht with rfl | ht
    · omega
    · have := (List.pairwise_cons.1 hp.2.1).1 t ht
      have := (hasS_iff s).1 (h.1 s (by simp))
      omega
theorem behind' {l : List Sp} (h : Norm l) {s : Sp} (hs : s ∈ l) : inL l (s.f0 + s.f1) = false := by
  obtain ⟨pre, suf, rfl⟩ := List.append_of_mem hs
  have hp := List.pairwise_append.1 h.2
  rw [Bool.eq_false_iff]
  intro hx
  obtain ⟨t, ht, _, h1, h2⟩ := (inL_iff _ _).1 hx
  have := (hasS_iff s).1 (h.1 s (by simp))
  rcases List.mem_append.1 ht with ht | ht
  · have := hp.2.2 t ht s (by simp); omega
  · rcases List.mem_cons.1 ht with rfl | ht
    · omega
    · have := (List.pairwise_cons.1 hp.2.1).1 t ht
      omega
theorem start_of' {N M : List Sp} (hN : Norm N) (h : ∀ n, inL N n = inL M n) {s : Sp} (hs : s ∈ N) : ∃ t ∈ M, t.f0 = s.f0 := by
  have h0 := (hasS_iff s).1 (hN.1 s hs)
  have h1 : inL N s.f0 = true := (inL_iff _ _).2 ⟨s, hs, hN.1 s hs, by omega, by omega⟩
  rw [h] at h1
  obtain ⟨t, ht, h2, h3, h4⟩ := (inL_iff _ _).1 h1
  refine ⟨t, ht, ?_⟩
  by_cases he : t.f0 = s.f0
  · exact he
  · have h5 := before' hN hs
    rw [h, Bool.eq_false_iff] at h5
    exact absurd ((inL_iff _ _).2 ⟨t, ht, h2, by omega, by omega⟩) h5
theorem end_of' {N M : List Sp} (hN : Norm N) (h : ∀ n, inL N n = inL M n) {s : Sp} (hs : s ∈ N) : ∃ t ∈ M, t.f0 + t.f1 = s.f0 + s.f1 := by
  have h0 := (hasS_iff s).1 (hN.1 s hs)
  have h1 : inL N (s.f0 + s.f1 - 1) = true := (inL_iff _ _).2 ⟨s, hs, hN.1 s hs, by omega, by omega⟩
  rw [h] at h1
  obtain ⟨t, ht, h2, h3, h4⟩ := (inL_iff _ _).1 h1
  refine ⟨t, ht, ?_⟩
  by_cases he : t.f0 + t.f1 = s.f0 + s.f1
  · exact he
  · have h5 := behind' hN hs
    rw [h, Bool.eq_false_iff] at h5
    exact absurd ((inL_iff _ _).2 ⟨t, ht, h2, by omega, by omega⟩) h5
theorem OnBlk.of_eq {size : Int} {N M : List Sp} (hN : Norm N) (h : ∀ n, inL N n = inL M n) (hM : OnBlk size M) : OnBlk size N := by
  intro s hs
  obtain ⟨t, ht, h1⟩ := start_of' hN h hs
  obtain ⟨u, hu, h2⟩ := end_of' hN h hs
  have a1 := (hM t ht).1
  have a2 := (hM u hu).2
  rw [h1] at a1
  rw [h2] at a2
  exact ⟨a1, a2⟩
theorem alignOne_blk (size : Int) (hsz : 1 ≤ size ∧ size ≤ 1125899906842624) (s : Sp) (hs : hasS s = true) : OnBlk size (alignOne 64 size s) ∧ (∀ t ∈ alignOne 64 size s, hasS t = true) ∧ ∀ n, memS s n = true → n < size → inL (alignOne 64 size s) n = true := by
  have h0 := (hasS_iff s).1 hs
  have her := alignEnd_range 64 size (by omega) hsz s hs
  have hend : (s.f0 + s.f1 ≤ alignEnd 64 size s ∨ size = alignEnd 64 size s) ∧ (alignEnd 64 size s % 64 = 0 ∨ alignEnd 64 size s = size) := by
    unfold alignEnd
    split
    · exact ⟨.inl (by omega), .inl (by omega)⟩
    · exact ⟨.inr rfl, .inr rfl⟩
  unfold alignOne
  generalize alignEnd 64 size s = e at her hend
  by_cases hq : s.f0 - s.f0 % 64 < e
  · rw [if_pos hq]
    have hh : hasS (⟨s.f0 - s.f0 % 64, e - (s.f0 - s.f0 % 64)⟩ : Sp) = true := (hasS_iff _).2 ⟨by simp only; omega, by simp only; omega, by simp only; omega⟩
    refine ⟨fun t ht => ?_, fun t ht => ?_, fun n hn hns => ?_⟩
    · rw [List.mem_singleton.1 ht]
      unfold blkSt blkEn
      simp only
      omega
    · rw [List.mem_singleton.1 ht]; exact hh
    · have h9 := (memS_iff s n).1 hn
      rw [inL_cons, inL_nil, Bool.or_false]
      exact (memS_iff _ n).2 ⟨hh, by simp only; omega, by simp only; omega⟩
  · rw [if_neg hq]
    refine ⟨fun t ht => by simp at ht, fun t ht => by simp at ht, fun n hn hns => ?_⟩
    have h9 := (memS_iff s n).1 hn
    omega
theorem alignOut_blk (size : Int) (hsz : 1 ≤ size ∧ size ≤ 1125899906842624) : ∀ (m : List Sp), (∀ s ∈ m, hasS s = true) → OnBlk size (alignOut 64 size m) ∧ ∀ n, inL m n = true → n < size → inL (alignOut 64 size m) n = true
  | [], _ => ⟨fun t ht => by simp [alignOut] at ht, fun n hn => by simp [inL] at hn⟩
  | s :: m, h => by
    have ih := alignOut_blk size hsz m fun t ht => h t (List.mem_cons_of_mem _ ht)
    have h1 := alignOne_blk size hsz s (h s List.mem_cons_self)
    have e : alignOut 64 size (s :: m) = alignOne 64 size s ++ alignOut 64 size m := by simp [alignOut]
    rw [e]
    refine ⟨fun u hu => ?_, fun n hn hns => ?_⟩
    · rcases List.mem_append.1 hu with hu | hu
      · exact h1.1 u hu
      · exact ih.1 u hu
    · rw [inL_cons, Bool.or_eq_true] at hn
      rw [inL_append, Bool.or_eq_true]
      exact hn.imp (fun q => h1.2.2 n q hns) (fun q => ih.2 n q hns)
theorem joinG_all (gap : Int) (p q : Int → Prop) : ∀ (m : List Sp) (c : Sp), (∀ s ∈ c :: m, p s.f0 ∧ q (s.f0 + s.f1)) → ∀ t ∈ joinG gap c m, p t.f0 ∧ q (t.f0 + t.f1)
  | [], c, h, t, ht => h t (by simpa [joinG] using ht)
  | s :: m, c, h, t, ht => by
    unfold joinG at ht
    split at ht
    · refine joinG_all gap p q m ⟨c.f0, s.f0 + s.f1 - c.f0⟩ (fun u hu => ?_) t ht
      rcases List.mem_cons.1 hu with rfl | hu
      · have e : c.f0 + (s.f0 + s.f1 - c.f0) = s.f0 + s.f1 := by omega
        simp only [e]
        exact ⟨(h c (by simp)).1, (h s (by simp)).2⟩
      · exact h u (by simp [hu])
    · rcases List.mem_cons.1 ht with rfl | ht
      · exact h _ (by simp)
      · exact joinG_all gap p q m s (fun u hu => h u (List.mem_cons_of_mem _ hu)) t ht
theorem joinG_nrm (gap : Int) (hg : 0 ≤ gap) : ∀ (m : List Sp) (c : Sp), Norm (c :: m) → Norm (joinG gap c m) ∧ (∀ s ∈ joinG gap c m, c.f0 ≤ s.f0) ∧ ∀ n, inL (c :: m) n = true → inL (joinG gap c m) n = true
  | [], c, h => ⟨h, fun s hs => by rw [List.mem_singleton.1 hs]; omega, fun n hn => hn⟩
  | s :: m, c, h => by
    have hc := (hasS_iff c).1 h.head
    have hs := (hasS_iff s).1 h.tail.head
    have hcs := (List.pairwise_cons.1 h.2).1 s List.mem_cons_self
    unfold joinG
    by_cases hq : s.f0 - (c.f0 + c.f1) ≤ gap
    · rw [if_pos hq]
      have hd : hasS (⟨c.f0, s.f0 + s.f1 - c.f0⟩ : Sp) = true := (hasS_iff _).2 ⟨hc.1, by simp only; omega, by simp only; omega⟩
      have hN : Norm ((⟨c.f0, s.f0 + s.f1 - c.f0⟩ : Sp) :: m) := by
        refine ⟨fun t ht => ?_, List.pairwise_cons.2 ⟨fun t ht => ?_, (List.pairwise_cons.1 h.tail.2).2⟩⟩
        · rcases List.mem_cons.1 ht with rfl | ht
          · exact hd
          · exact h.1 t (by simp [ht])
        · have := (List.pairwise_cons.1 h.tail.2).1 t ht
          simp only
          omega
      have ih := joinG_nrm gap hg m ⟨c.f0, s.f0 + s.f1 - c.f0⟩ hN
      refine ⟨ih.1, ih.2.1, fun n hn => ih.2.2 n ?_⟩
      rw [inL_cons, Bool.or_eq_true]
      rw [inL_cons, inL_cons, Bool.or_eq_true, Bool.or_eq_true] at hn
      rcases hn with hn | hn | hn
      · have h1 := (memS_iff c n).1 hn
        exact .inl ((memS_iff _ n).2 ⟨hd, h1.2.1, by simp only; omega⟩)
      · have h1 := (memS_iff s n).1 hn
        exact .inl ((memS_iff _ n).2 ⟨hd, by simp only; omega, by simp only; omega⟩)
      · exact .inr hn
    · rw [if_neg hq]
      have ih := joinG_nrm gap hg m s h.tail
      refine ⟨⟨fun t ht => ?_, List.pairwise_cons.2 ⟨fun t ht => ?_, ih.1.2⟩⟩, fun t ht => ?_, fun n hn => ?_⟩
      · rcases List.mem_cons.1 ht with rfl | ht
        · exact h.head
        · exact ih.1.1 t ht
      · have := ih.2.1 t ht
        omega
      · rcases List.mem_cons.1 ht with rfl | ht
        · omega
        · have := ih.2.1 t ht
          omega
      · rw [inL_cons, Bool.or_eq_true] at hn ⊢
        exact hn.imp id (ih.2.2 n)
theorem reqL_spec (m : List Sp) (a : Sp) (size gap : Int) (hsz : 0 ≤ size ∧ size ≤ 4096) (hg : 0 ≤ gap) (hm : m.length < 1048576) :
    Norm (reqL m a size gap) ∧ OnBlk size (reqL m a size gap) ∧ ∀ n, inL m n = true → n < size → inL (reqL m a size gap) n = true := by
  have h1 := union_ev m [a] (by unfold bigS; omega) (by unfold bigS; simp)
  rw [List.length_singleton] at h1
  have h2 := alignL_len (unionL m [a]) 64 size (by omega)
  by_cases hz : size < 1
  · have e : alignL (unionL m [a]) 64 size = [] := if_pos (.inr hz)
    have e2 : reqL m a size gap = [] := by unfold reqL; rw [e, nrm_of_Norm Norm.nil]; rfl
    rw [e2]
    refine ⟨Norm.nil, fun s hs => by simp at hs, fun n hn hns => ?_⟩
    have := inL_range m n hn
    omega
  · have e : alignL (unionL m [a]) 64 size = nrm (alignOut 64 size (nrm (unionL m [a]))) := by
      unfold alignL
      rw [if_neg (by omega), show min size 1125899906842624 = size by omega]
    rw [nrm_of_Norm h1.2.1.1] at e
    have hb := alignOut_blk size ⟨by omega, by omega⟩ (unionL m [a]) h1.2.1.1.1
    have hl := alignOut_length 64 size (unionL m [a])
    have u := nrm_spec (alignOut 64 size (unionL m [a])) (by unfold bigS; omega)
    unfold reqL
    rw [e, nrm_of_Norm u.1]
    have ho := OnBlk.of_eq u.1 u.2 hb.1
    have hi : ∀ n, inL m n = true → n < size → inL (nrm (alignOut 64 size (unionL m [a]))) n = true := fun n hn hns => by
      rw [u.2]
      exact hb.2 n (by rw [h1.2.1.2, hn]; rfl) hns
    generalize nrm (alignOut 64 size (unionL m [a])) = N at *
    cases N with
    | nil => exact ⟨Norm.nil, ho, hi⟩
    | cons c N =>
      have hj := joinG_nrm gap hg N c u.1
      exact ⟨hj.1, joinG_all gap blkSt (blkEn size) N c ho, fun n hn hns => hj.2.2 n (hi n hn hns)⟩
theorem union_blk {size : Int} {a b : List Sp} (ha : a.length < bigS) (hb : b.length < bigS) (h1 : OnBlk size a) (h2 : OnBlk size b) : OnBlk size (unionL a b) := by
  have u := (union_ev a b ha hb).2.1
  refine OnBlk.of_eq (M := a ++ b) u.1 (fun n => by rw [u.2, inL_append]) fun s hs => ?_
  rcases List.mem_append.1 hs with hs | hs
  · exact h1 s hs
  · exact h2 s hs
theorem blk_len {size : Int} {l : List Sp} (hN : Norm l) (h : OnBlk size l) (hsz : 0 ≤ size ∧ size ≤ 4096) : l.length ≤ 4096 :=
  norm_len 4096 l hN fun s hs => by
    have := (h s hs).2.2
    omega

/-! ### Replay -/
theorem replay_j1 (size most : Int) (l : List Sp) (i : Int) (s : St) (out : List Sp) (p : Sp) (hsz : 0 ≤ size ∧ size ≤ 4096) (hN : Norm out) (hB : OnBlk size out) (nx : St) (a : Sp) (v : Bool) (r : List Sp)
    (hA : v = false → Ev (fun k => prefetch_Replay.l0 k size most out l (l.length : Int) (wrap64 (i + 1)) s.next s.window s.ahead s.run) r)
    (hC : v = true → Ev (fun k => prefetch_Replay.l0 k size most (unionL out (reqL (subL [p] out) a size 0)) l (l.length : Int) (wrap64 (i + 1)) nx.next nx.window nx.ahead nx.run) r) :
    Ev (fun k => prefetch_Replay.j1 k size most out l (l.length : Int) i (!v) s.next s.window s.ahead s.run p.f0 p.f1 nx.next nx.window nx.ahead nx.run a.f0 a.f1) r := by
  cases v with
  | false =>
    refine Ev.step (fun k => ?_) (hA rfl)
    simp only [prefetch_Replay.j1]
    rw [if_pos (by simp)]
  | true =>
    have hl := blk_len hN hB hsz
    have h1 := (sub_ev [p] out (by unfold bigS; simp) (by unfold bigS; omega)).2.2
    rw [List.length_singleton] at h1
    have h2 := reqL_len (subL [p] out) a size 0 (by omega)
    have n1 : extent_Subtract.f [(⟨p.f0, p.f1⟩ : Sp)] out = some (subL [p] out) := if_pos ⟨by unfold bigS; simp, by unfold bigS; omega⟩
    have n2 : extent_Union.f out (reqL (subL [p] out) a size 0) = some (unionL out (reqL (subL [p] out) a size 0)) := if_pos ⟨by unfold bigS; omega, by unfold bigS; omega⟩
    have hb := Ev.bind (f := fun k t247 => (extent_Union.f out t247).bind fun t250 => prefetch_Replay.l0 k size most t250 l (l.length : Int) (wrap64 (i + 1)) nx.next nx.window nx.ahead nx.run) (requests_ev (subL [p] out) a size 0 (by omega)) (r := r) (by
      refine Ev.congr (fun k => ?_) (hC rfl)
      rw [n2]
      rfl)
    refine Ev.step (fun k => ?_) hb
    simp only [prefetch_Replay.j1]
    rw [if_neg (by simp), n1]
    rfl
theorem readR_zero {s : St} {p : Sp} {size most : Int} (h : validP s p size most = false) : readR s p size most = (0, 0, 0, 0, 0, 0) := by
  unfold readR
  rw [h]
  rfl
theorem replay_l0 (size most : Int) (hsz : 0 ≤ size ∧ size ≤ 4096) (l : List Sp) (hl : l.length < 1048576) : ∀ (suf pre : List Sp) (s : St) (out : List Sp), l = pre ++ suf → Norm out → OnBlk size out →
    Ev (fun k => prefetch_Replay.l0 k size most out l (l.length : Int) (pre.length : Int) s.next s.window s.ahead s.run) (replayL size most out s suf)
  | [], pre, s, out, hpre, _, _ => by
    have hlen : (pre.length : Int) = l.length := by rw [hpre]; simp
    refine Ev.step (f := fun _ => some out) (fun k => ?_) (Ev.now _)
    simp only [prefetch_Replay.l0]
    rw [if_neg (by omega)]
  | p :: suf, pre, s, out, hpre, hN, hB => by
    have hlen : l.length = pre.length + (suf.length + 1) := by rw [hpre]; simp
    have hget := rd_at l pre p suf hpre
    have ep : ((pre ++ [p]).length : Int) = ((pre.length + 1 : Nat) : Int) := by simp
    have hol := blk_len hN hB hsz
    have h1 := (sub_ev [p] out (by unfold bigS; simp) (by unfold bigS; omega)).2.2
    rw [List.length_singleton] at h1
    have hq := reqL_spec (subL [p] out) (aheadR s p size most) size 0 hsz (by omega) (by omega)
    have hql := reqL_len (subL [p] out) (aheadR s p size most) size 0 (by omega)
    have hu := (union_ev out (reqL (subL [p] out) (aheadR s p size most) size 0) (by unfold bigS; omega) (by unfold bigS; omega)).2.1
    have hub := union_blk (size := size) (a := out) (b := reqL (subL [p] out) (aheadR s p size most) size 0) (by unfold bigS; omega) (by unfold bigS; omega) hB hq.2.1
    have ih1 := replay_l0 size most hsz l hl suf (pre ++ [p]) s out (by simp [hpre]) hN hB
    have ih2 := replay_l0 size most hsz l hl suf (pre ++ [p]) (nextR s p size most) (unionL out (reqL (subL [p] out) (aheadR s p size most) size 0)) (by simp [hpre]) hu.1 hub
    have n1 : (pre.length : Int) < (l.length : Int) := by omega
    have n2 : 0 ≤ (pre.length : Int) := by omega
    have hw := wrap_succ pre.length (by omega)
    rw [ep, ← hw] at ih1 ih2
    have hj := replay_j1 size most l (pre.length : Int) s out p hsz hN hB (nextR s p size most) (aheadR s p size most) (validP s p size most) (replayL size most out s (p :: suf))
      (fun h => by
        have e : replayL size most out s (p :: suf) = replayL size most out s suf := by rw [replayL, if_neg (by rw [h]; simp)]
        rw [e]
        exact ih1)
      (fun h => by
        have e : replayL size most out s (p :: suf) = replayL size most (unionL out (reqL (subL [p] out) (aheadR s p size most) size 0)) (nextR s p size most) suf := by rw [replayL, if_pos h]
        rw [e]
        exact ih2)
    have hv := Ev.bind (f := fun k t240 => prefetch_Replay.j1 k size most out l (l.length : Int) (pre.length : Int) (!t240) s.next s.window s.ahead s.run p.f0 p.f1 (nextR s p size most).next (nextR s p size most).window (nextR s p size most).ahead (nextR s p size most).run (aheadR s p size most).f0 (aheadR s p size most).f1) (valid_ev s p size most) hj
    have hc : Ev (fun k => if ((readR s p size most).1 == 0 && ((readR s p size most).2.1 == 0 && ((readR s p size most).2.2.1 == 0 && ((readR s p size most).2.2.2.1 == 0)))) = true then ((prefetch_valid.f k s.next s.window s.ahead s.run p.f0 p.f1 size most).bind fun t240 => prefetch_Replay.j1 k size most out l (l.length : Int) (pre.length : Int) (!t240) s.next s.window s.ahead s.run p.f0 p.f1 (readR s p size most).1 (readR s p size most).2.1 (readR s p size most).2.2.1 (readR s p size most).2.2.2.1 (readR s p size most).2.2.2.2.1 (readR s p size most).2.2.2.2.2) else prefetch_Replay.j1 k size most out l (l.length : Int) (pre.length : Int) false s.next s.window s.ahead s.run p.f0 p.f1 (readR s p size most).1 (readR s p size most).2.1 (readR s p size most).2.2.1 (readR s p size most).2.2.2.1 (readR s p size most).2.2.2.2.1 (readR s p size most).2.2.2.2.2) (replayL size most out s (p :: suf)) := by
      by_cases hz : ((readR s p size most).1 == 0 && ((readR s p size most).2.1 == 0 && ((readR s p size most).2.2.1 == 0 && ((readR s p size most).2.2.2.1 == 0)))) = true
      · exact Ev.congr (fun k => if_pos hz) hv
      · have hv1 : validP s p size most = true := by
          cases hx : validP s p size most with
          | true => rfl
          | false => exact absurd (by rw [readR_zero hx]; rfl) hz
        rw [hv1] at hj
        exact Ev.congr (fun k => if_neg hz) hj
    have hr := Ev.bind (f := fun k bt => if (bt.1 == 0 && (bt.2.1 == 0 && (bt.2.2.1 == 0 && (bt.2.2.2.1 == 0)))) = true then ((prefetch_valid.f k s.next s.window s.ahead s.run p.f0 p.f1 size most).bind fun t240 => prefetch_Replay.j1 k size most out l (l.length : Int) (pre.length : Int) (!t240) s.next s.window s.ahead s.run p.f0 p.f1 bt.1 bt.2.1 bt.2.2.1 bt.2.2.2.1 bt.2.2.2.2.1 bt.2.2.2.2.2) else prefetch_Replay.j1 k size most out l (l.length : Int) (pre.length : Int) false s.next s.window s.ahead s.run p.f0 p.f1 bt.1 bt.2.1 bt.2.2.1 bt.2.2.2.1 bt.2.2.2.2.1 bt.2.2.2.2.2) (read_ev s p size most) hc
    refine Ev.step (fun k => ?_) hr
    simp only [prefetch_Replay.l0]
    rw [if_pos n1, if_pos n2, if_pos n1, hget]
def st0 : St := ⟨0, 0, 0, 0⟩
theorem replay_ev (l : List Sp) (size most : Int) (hsz : 0 ≤ size ∧ size ≤ 4096) (hl : l.length < 1048576) : Ev (fun k => prefetch_Replay.f k l size most) (replayL size most [] st0 l) := by
  have h := replay_l0 size most hsz l hl l [] st0 [] rfl Norm.nil (fun s hs => by simp at hs)
  exact Ev.congr (fun k => rfl) h
theorem replayL_blk (size most : Int) (hsz : 0 ≤ size ∧ size ≤ 4096) : ∀ (l : List Sp) (s : St) (out : List Sp), Norm out → OnBlk size out → Norm (replayL size most out s l) ∧ OnBlk size (replayL size most out s l) ∧ ∀ n, inL out n = true → inL (replayL size most out s l) n = true
  | [], s, out, hN, hB => ⟨hN, hB, fun n hn => hn⟩
  | p :: l, s, out, hN, hB => by
    have hol := blk_len hN hB hsz
    have h1 := (sub_ev [p] out (by unfold bigS; simp) (by unfold bigS; omega)).2.2
    rw [List.length_singleton] at h1
    have hq := reqL_spec (subL [p] out) (aheadR s p size most) size 0 hsz (by omega) (by omega)
    have hql := reqL_len (subL [p] out) (aheadR s p size most) size 0 (by omega)
    have hu := (union_ev out (reqL (subL [p] out) (aheadR s p size most) size 0) (by unfold bigS; omega) (by unfold bigS; omega)).2.1
    have hub := union_blk (size := size) (a := out) (b := reqL (subL [p] out) (aheadR s p size most) size 0) (by unfold bigS; omega) (by unfold bigS; omega) hB hq.2.1
    unfold replayL
    split
    · have ih := replayL_blk size most hsz l (nextR s p size most) _ hu.1 hub
      exact ⟨ih.1, ih.2.1, fun n hn => ih.2.2 n (by rw [hu.2, hn]; rfl)⟩
    · exact replayL_blk size most hsz l s out hN hB
end Go.Proofs.Ytapbmkcncjkanaa.P
