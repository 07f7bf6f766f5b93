/- extent.Align, as a function on lists. extent.Gaps, as a function on lists. extent.Total, as a function on lists. tapearchivelaw34.lives: the document's examples hold. -/
import Derived.Test.YtapbmkcncjkanaaExtE
import Derived.Test.YtapbmkcncjkanaaP9
import Derived.Test.YtapbmkcncjkanaaP8
import Derived.Test.YtapbmkcncjkanaaP9
set_option linter.unusedVariables false
set_option linter.unusedSimpArgs false
namespace Go.Proofs.Ytapbmkcncjkanaa.P
open Go.RowKit Go.Proofs Go.Proofs.YtapbmkcncjkanaaW.PrintWords Go.Proofs.YtapbmkcncjkanaaW.PrintLast Go.Proofs.YtapbmkcncjkanaaW.PrintMore

/-! ### Align -/
def alignEnd (size lim : Int) (s : Sp) : Int := if (s.f0 + s.f1 - 1) / size < lim / size then ((s.f0 + s.f1 - 1) / size + 1) * size else lim
def alignOne (size lim : Int) (s : Sp) : List Sp := if s.f0 - s.f0 % size < alignEnd size lim s then [⟨s.f0 - s.f0 % size, alignEnd size lim s - (s.f0 - s.f0 % size)⟩] else []
def alignOut (size lim : Int) (m : List Sp) : List Sp := m.flatMap (alignOne size lim)
theorem emod_le (a b : Int) (ha : 0 ≤ a) (hb : 1 ≤ b) : a % b ≤ a := by
  have h1 := Int.emod_add_mul_ediv a b
  have h2 : 0 ≤ b * (a / b) := Int.mul_nonneg (by omega) (Int.ediv_nonneg ha (by omega))
  omega
theorem alignOne_length (size lim : Int) (s : Sp) : (alignOne size lim s).length ≤ 1 := by unfold alignOne; split <;> simp
theorem alignOut_length (size lim : Int) (m : List Sp) : (alignOut size lim m).length ≤ m.length := by
  induction m with
  | nil => simp [alignOut]
  | cons s m ih =>
    have e : alignOut size lim (s :: m) = alignOne size lim s ++ alignOut size lim m := by simp [alignOut]
    rw [e, List.length_append, List.length_cons]
    unfold alignOne
    split <;> simp <;> omega
theorem alignEnd_range (size lim : Int) (h1 : 1 ≤ size) (h2 : 1 ≤ lim ∧ lim ≤ 1125899906842624) (s : Sp) (hs : hasS s = true) : 0 ≤ alignEnd size lim s ∧ alignEnd size lim s ≤ lim := by
  have hs := (hasS_iff s).1 hs
  unfold alignEnd
  split
  · rename_i h
    have h3 : 0 ≤ (s.f0 + s.f1 - 1) / size := Int.ediv_nonneg (by omega) (by omega)
    have h4 : ((s.f0 + s.f1 - 1) / size + 1) * size ≤ lim / size * size := Int.mul_le_mul_of_nonneg_right (by omega) (by omega)
    have h5 : lim / size * size ≤ lim := Int.ediv_mul_le lim (by omega)
    exact ⟨Int.mul_nonneg (by omega) (by omega), by omega⟩
  · omega

theorem align_l0 (size lim : Int) (h1 : 1 ≤ size) (hs2 : size ≤ 9223372036854775807) (h2 : 1 ≤ lim ∧ lim ≤ 1125899906842624) (m : List Sp) (hm : ∀ s ∈ m, hasS s = true) (hl : m.length < bigS) : ∀ (suf pre out : List Sp), m = pre ++ suf → out.length ≤ pre.length →
    Ev (fun k => extent_Align.l0 k size lim out m (m.length : Int) (pre.length : Int)) (nrm (out ++ alignOut size lim suf)) := by
  unfold bigS at hl
  intro suf
  induction suf with
  | nil =>
    intro pre out hpre ho
    have : (pre.length : Int) = m.length := by rw [hpre]; simp
    refine Ev.step (f := fun _ => some (nrm out)) (fun k => ?_) (by simpa [alignOut] using Ev.now (nrm out))
    simp only [extent_Align.l0]
    rw [if_neg (by omega)]
    unfold extent_Normal.f bigS
    rw [if_pos (by omega)]
    rfl
  | cons s suf ih =>
    intro pre out hpre ho
    have hlen : m.length = pre.length + (suf.length + 1) := by rw [hpre]; simp
    have hone := alignOne_length size lim s
    have ih' := ih (pre ++ [s]) (out ++ alignOne size lim s) (by simp [hpre]) (by rw [List.length_append, List.length_append, List.length_singleton]; omega)
    clear hone
    have hs := hm s (by rw [hpre]; simp)
    have hs' := (hasS_iff s).1 hs
    have her := alignEnd_range size lim h1 h2 s hs
    have hget := rd_at m pre s suf hpre
    have q1 : 0 ≤ (s.f0 + s.f1 - 1) / size := Int.ediv_nonneg (by omega) (by omega)
    have q2 : (s.f0 + s.f1 - 1) / size ≤ s.f0 + s.f1 - 1 := Int.ediv_le_self size (by omega)
    have q3 : 0 ≤ lim / size := Int.ediv_nonneg (by omega) (by omega)
    have q4 : lim / size ≤ lim := Int.ediv_le_self size (by omega)
    have q5 : 0 ≤ s.f0 % size := Int.emod_nonneg _ (by omega)
    have q6 : s.f0 % size ≤ s.f0 := emod_le s.f0 size (by omega) (by omega)
    have c1 : (pre.length : Int) < (m.length : Int) := by omega
    have c2 : 0 ≤ (pre.length : Int) := by omega
    have c3 : ¬ size = 0 := by omega
    have c4 : lim ≤ 9223372036854775807 := by omega
    have c5 : out.length < 8796093022208 := by omega
    have c6 : wrap64 (alignEnd size lim s - (s.f0 - s.f0 % size)) = alignEnd size lim s - (s.f0 - s.f0 % size) := wrap64_of _ (by omega) (by omega)
    have hw := wrap_succ pre.length (by omega)
    have e1 : wrap64 (s.f0 + s.f1) = s.f0 + s.f1 := wrap64_of _ (by omega) (by omega)
    have e2 : wrap64 (s.f0 + s.f1 - 1) = s.f0 + s.f1 - 1 := wrap64_of _ (by omega) (by omega)
    have e3 : wrap64 (Int.tdiv (s.f0 + s.f1 - 1) size) = (s.f0 + s.f1 - 1) / size := by rw [Int.tdiv_eq_ediv_of_nonneg (by omega)]; exact wrap64_of _ (by omega) (by omega)
    have e4 : wrap64 (Int.tdiv lim size) = lim / size := by rw [Int.tdiv_eq_ediv_of_nonneg (by omega)]; exact wrap64_of _ (by omega) (by omega)
    have e5 : wrap64 (s.f0 - Int.tmod s.f0 size) = s.f0 - s.f0 % size := by rw [Int.tmod_eq_emod_of_nonneg (by omega)]; exact wrap64_of _ (by omega) (by omega)
    have e6 : wrap64 ((s.f0 + s.f1 - 1) / size + 1) = (s.f0 + s.f1 - 1) / size + 1 := wrap64_of _ (by omega) (by omega)
    have eA : alignOut size lim (s :: suf) = alignOne size lim s ++ alignOut size lim suf := by simp [alignOut]
    have ep : ((pre ++ [s]).length : Int) = ((pre.length + 1 : Nat) : Int) := by simp
    have er : out ++ alignOne size lim s ++ alignOut size lim suf = out ++ alignOut size lim (s :: suf) := by rw [eA, List.append_assoc]
    rw [ep, er] at ih'
    clear ih
    have hA : ∀ k, extent_Align.l0 (k + 1) size lim out m (m.length : Int) (pre.length : Int) = extent_Align.j2 k size lim out (s.f0 - s.f0 % size) (alignEnd size lim s) m (m.length : Int) (pre.length : Int) := fun k => by
      simp only [extent_Align.l0]
      rw [if_pos c1, if_pos c2, if_pos c1, if_neg c3, hget, e1, e2, e3, e4, e5, e6]
      unfold alignEnd at her ⊢
      split
      · rename_i hq
        rw [if_pos hq] at her
        rw [show wrap64 (((s.f0 + s.f1 - 1) / size + 1) * size) = ((s.f0 + s.f1 - 1) / size + 1) * size from wrap64_of _ (Int.le_trans (by decide) her.1) (Int.le_trans her.2 c4)]
      · rfl
    have hB : ∀ k, extent_Align.j2 (k + 1) size lim out (s.f0 - s.f0 % size) (alignEnd size lim s) m (m.length : Int) (pre.length : Int) = extent_Align.l0 k size lim (out ++ alignOne size lim s) m (m.length : Int) ((pre.length + 1 : Nat) : Int) := fun k => by
      simp only [extent_Align.j2]
      rw [hw]
      unfold alignOne
      split
      · first | rw [c6] | rw [if_pos c5, c6]
      · rw [List.append_nil]
    exact Ev.step (f := fun k => extent_Align.j2 k size lim out (s.f0 - s.f0 % size) (alignEnd size lim s) m (m.length : Int) (pre.length : Int)) hA (Ev.step (f := fun k => extent_Align.l0 k size lim (out ++ alignOne size lim s) m (m.length : Int) ((pre.length + 1 : Nat) : Int)) hB ih')

noncomputable def alignL (l : List Sp) (size limit : Int) : List Sp := if size < 1 ∨ limit < 1 then [] else nrm (alignOut size (min limit 1125899906842624) (nrm l))
theorem align_ev (l : List Sp) (size limit : Int) (hl : l.length < 34359738368) (h2 : size ≤ 9223372036854775807) : Ev (fun k => extent_Align.f k l size limit) (alignL l size limit) := by
  have hb := normal_ev l (by unfold bigS; omega)
  unfold alignL
  by_cases h1 : size < 1
  · rw [if_pos (.inl h1)]
    have h : Ev (fun k => extent_Align.j0 k l size limit true) ([] : List Sp) := Ev.step (f := fun _ => some []) (fun k => by simp [extent_Align.j0]) (Ev.now _)
    exact Ev.congr (fun k => by unfold extent_Align.f; rw [if_pos h1]) h
  · by_cases h3 : limit < 1
    · rw [if_pos (.inr h3)]
      have h : Ev (fun k => extent_Align.j0 k l size limit true) ([] : List Sp) := Ev.step (f := fun _ => some []) (fun k => by simp [extent_Align.j0]) (Ev.now _)
      exact Ev.congr (fun k => by unfold extent_Align.f; rw [if_neg h1, decide_eq_true h3]) h
    · rw [if_neg (by omega)]
      have hmn : mn limit 1125899906842624 = min limit 1125899906842624 := by unfold mn; omega
      have h := align_l0 size (min limit 1125899906842624) (by omega) h2 (by omega) (nrm l) hb.2.1.1.1 (by unfold bigS; omega) (nrm l) [] [] rfl (by simp)
      have h' : Ev (fun k => extent_Align.j0 k l size limit false) (nrm (alignOut size (min limit 1125899906842624) (nrm l))) := by
        refine Ev.step (fun k => ?_) h
        simp only [extent_Align.j0]
        unfold extent_Normal.f bigS
        rw [if_neg (by simp), if_pos (by omega), hmn]
        rfl
      exact Ev.congr (fun k => by unfold extent_Align.f; rw [if_neg h1, decide_eq_false h3]) h'

end Go.Proofs.Ytapbmkcncjkanaa.P
namespace Go.Proofs.Ytapbmkcncjkanaa.P
open Go.RowKit Go.Proofs Go.Proofs.YtapbmkcncjkanaaW.PrintWords Go.Proofs.YtapbmkcncjkanaaW.PrintLast Go.Proofs.YtapbmkcncjkanaaW.PrintMore

/-! ### Gaps -/
def joinG (gap : Int) : Sp → List Sp → List Sp
  | c, [] => [c]
  | c, s :: m => if s.f0 - (c.f0 + c.f1) ≤ gap then joinG gap ⟨c.f0, s.f0 + s.f1 - c.f0⟩ m else c :: joinG gap s m
def gapsL (gap : Int) : List Sp → List Sp
  | [] => []
  | s :: m => joinG gap s m

theorem gaps_l0 (gap : Int) (m : List Sp) (hm : ∀ s ∈ m, hasS s = true) (hl : m.length < 137438953472) : ∀ (suf pre out : List Sp) (c : Sp), m = pre ++ suf → out.length < pre.length → (0 ≤ c.f0 ∧ c.f0 ≤ 1125899906842624 ∧ 0 ≤ c.f0 + c.f1 ∧ c.f0 + c.f1 ≤ 1125899906842624) →
    Ev (fun k => extent_Gaps.l0 k gap (out ++ [c]) m (m.length : Int) (pre.length : Int)) (out ++ joinG gap c suf) := by
  intro suf
  induction suf with
  | nil =>
    intro pre out c hpre ho hc
    have : (pre.length : Int) = m.length := by rw [hpre]; simp
    refine Ev.step (f := fun _ => some (out ++ [c])) (fun k => ?_) (by simpa [joinG] using Ev.now (out ++ [c]))
    simp only [extent_Gaps.l0]
    rw [if_neg (by omega)]
  | cons s suf ih =>
    intro pre out c hpre ho hc
    have hlen : m.length = pre.length + (suf.length + 1) := by rw [hpre]; simp
    have hs' := (hasS_iff s).1 (hm s (by rw [hpre]; simp))
    have hget := rd_at m pre s suf hpre
    have hw := wrap_succ pre.length (by omega)
    have hi : wrap64 (((out ++ [c]).length : Int) - 1) = (out.length : Int) := by
      rw [List.length_append, List.length_singleton]; unfold wrap64; omega
    have hlast := rd_at (out ++ [c]) out c [] rfl
    have e1 : wrap64 (c.f0 + c.f1) = c.f0 + c.f1 := by unfold wrap64; omega
    have e2 : wrap64 (s.f0 - (c.f0 + c.f1)) = s.f0 - (c.f0 + c.f1) := by unfold wrap64; omega
    have ep : ((pre ++ [s]).length : Int) = ((pre.length + 1 : Nat) : Int) := by simp
    have hol : (out ++ [c]).length = out.length + 1 := by simp
    have h0 : ∀ k, extent_Gaps.l0 (k + 1) gap (out ++ [c]) m (m.length : Int) (pre.length : Int) = extent_Gaps.j1 k gap (out ++ [c]) (out.length : Int) m (m.length : Int) (pre.length : Int) (decide (s.f0 - (c.f0 + c.f1) ≤ gap)) s.f0 s.f1 := fun k => by
      simp only [extent_Gaps.l0]
      rw [hi, if_pos (by omega), if_pos (by omega), if_pos (by omega), if_pos (by omega), if_pos (by omega), if_pos (by omega), hget, hlast, e1, e2]
    unfold joinG
    by_cases hg : s.f0 - (c.f0 + c.f1) ≤ gap
    · rw [if_pos hg]
      have ih' := ih (pre ++ [s]) out ⟨c.f0, s.f0 + s.f1 - c.f0⟩ (by simp [hpre]) (by rw [List.length_append]; omega) ⟨hc.1, hc.2.1, by simp only; omega, by simp only; omega⟩
      rw [ep] at ih'
      refine Ev.step h0 (Ev.step (fun k => ?_) ih')
      simp only [extent_Gaps.j1]
      rw [decide_eq_true hg, if_pos rfl, if_pos (by omega), if_pos (by omega), hlast, hw, Int.toNat_natCast]
      rw [show wrap64 (s.f0 + s.f1) = s.f0 + s.f1 by unfold wrap64; omega, show wrap64 (s.f0 + s.f1 - c.f0) = s.f0 + s.f1 - c.f0 by unfold wrap64; omega]
      simp
    · rw [if_neg hg]
      have ih' := ih (pre ++ [s]) (out ++ [c]) s (by simp [hpre]) (by rw [List.length_append, List.length_append]; simp; omega) (by omega)
      rw [ep, List.append_assoc, List.singleton_append] at ih'
      refine Ev.step h0 (Ev.step (fun k => ?_) (by simpa using ih'))
      simp only [extent_Gaps.j1]
      rw [decide_eq_false hg, if_neg (by simp), if_pos (by omega), hw]
      simp

theorem gaps_ev (l : List Sp) (gap : Int) (hl : l.length < 34359738368) : Ev (fun k => extent_Gaps.f k l gap) (gapsL gap (nrm l)) := by
  have hb := normal_ev l (by unfold bigS; omega)
  have hm := hb.2.1.1.1
  have hml := hb.2.2
  generalize hn : nrm l = m at *
  have h : Ev (fun k => extent_Gaps.l0 k gap [] m (m.length : Int) 0) (gapsL gap m) := by
    match m, hm, hml with
    | [], _, _ =>
      refine Ev.step (f := fun _ => some []) (fun k => ?_) (Ev.now _)
      simp only [extent_Gaps.l0]
      rw [if_neg (by simp)]
    | s :: m, hm, hml =>
      have hs' := (hasS_iff s).1 (hm s List.mem_cons_self)
      have h1 := gaps_l0 gap (s :: m) hm (by omega) m [s] [] s rfl (by simp) (by omega)
      have hget := rd_at (s :: m) [] s m rfl
      simp only [List.length_nil, Int.natCast_zero] at hget
      refine Ev.step (f := fun k => extent_Gaps.j1 k gap [] (-1) (s :: m) ((s :: m).length : Int) 0 false s.f0 s.f1) (fun k => ?_) (Ev.step (fun k => ?_) (by simpa [gapsL] using h1))
      · simp only [extent_Gaps.l0]
        have hi : wrap64 ((([] : List Sp).length : Int) - 1) = -1 := by rw [List.length_nil]; unfold wrap64; omega
        rw [if_pos (by simp), if_pos (by omega), if_pos (by simp), hi, if_neg (by omega), hget]
      · simp only [extent_Gaps.j1]
        rw [if_neg (by simp), if_pos (by simp), show wrap64 (0 + 1) = 1 by unfold wrap64; omega]
        simp
  have h2 := Ev.bind (f := fun k t => extent_Gaps.l0 k gap [] t (t.length : Int) 0) (Ev.now m) h
  refine Ev.congr (fun k => ?_) h2
  unfold extent_Gaps.f extent_Normal.f bigS
  rw [if_pos (by omega), hn]
end Go.Proofs.Ytapbmkcncjkanaa.P
namespace Go.Proofs.Ytapbmkcncjkanaa.P
open Go.RowKit Go.Proofs Go.Proofs.YtapbmkcncjkanaaW.PrintWords Go.Proofs.YtapbmkcncjkanaaW.PrintLast Go.Proofs.YtapbmkcncjkanaaW.PrintMore

/-! ### Total -/
def totL (m : List Sp) : Int := (m.map (·.f1)).sum
theorem totL_cons (s : Sp) (m : List Sp) : totL (s :: m) = s.f1 + totL m := by simp [totL]
theorem Norm.totL_le : ∀ {m : List Sp}, Norm m → 0 ≤ totL m ∧ ∀ s q, m = s :: q → s.f0 + totL m ≤ 1125899906842624
  | [], _ => ⟨by simp [totL], fun s q h => by simp at h⟩
  | a :: m, h => by
    have ha := (hasS_iff a).1 h.head
    have ih := Norm.totL_le h.tail
    rw [totL_cons]
    refine ⟨by omega, fun s q hq => ?_⟩
    injection hq with h1 h2
    subst h1
    match m, h, ih with
    | [], _, _ => simp [totL]; omega
    | b :: m, h, ih =>
      have h3 := ih.2 b m rfl
      have h4 := (List.pairwise_cons.1 h.2).1 b List.mem_cons_self
      omega
theorem Norm.totL_max {m : List Sp} (h : Norm m) : totL m ≤ 1125899906842624 := by
  match m, h with
  | [], _ => simp [totL]
  | s :: m, h =>
    have h1 := h.totL_le.2 s m rfl
    have h2 := (hasS_iff s).1 h.head
    omega
theorem total_l0 (m : List Sp) (hl : m.length < 137438953472) : ∀ (suf pre : List Sp) (x : Int), m = pre ++ suf → Norm suf → 0 ≤ x → x + totL suf ≤ 1125899906842624 →
    Ev (fun k => extent_Total.l0 k x m (m.length : Int) (pre.length : Int)) (x + totL suf) := by
  intro suf
  induction suf with
  | nil =>
    intro pre x hpre _ _ _
    have : (pre.length : Int) = m.length := by rw [hpre]; simp
    refine Ev.step (f := fun _ => some x) (fun k => ?_) (by simpa [totL] using Ev.now x)
    simp only [extent_Total.l0]
    rw [if_neg (by omega)]
  | cons s suf ih =>
    intro pre x hpre hN hx hb
    have hlen : m.length = pre.length + (suf.length + 1) := by rw [hpre]; simp
    have hget := rd_at m pre s suf hpre
    have hw := wrap_succ pre.length (by omega)
    have hs' := (hasS_iff s).1 hN.head
    have ht := hN.tail.totL_le.1
    rw [totL_cons] at hb
    have ih' := ih (pre ++ [s]) (x + s.f1) (by simp [hpre]) hN.tail (by omega) (by omega)
    have ep : ((pre ++ [s]).length : Int) = ((pre.length + 1 : Nat) : Int) := by simp
    rw [ep, show x + s.f1 + totL suf = x + totL (s :: suf) by rw [totL_cons]; omega] at ih'
    refine Ev.step (fun k => ?_) ih'
    simp only [extent_Total.l0]
    rw [if_pos (by omega), if_pos (by omega), if_pos (by omega), hget, hw, show wrap64 (x + s.f1) = x + s.f1 by unfold wrap64; omega]
theorem total_ev (l : List Sp) (hl : l.length < 34359738368) : Ev (fun k => extent_Total.f k l) (totL (nrm l)) := by
  have hb := normal_ev l (by unfold bigS; omega)
  have h := total_l0 (nrm l) (by omega) (nrm l) [] 0 rfl hb.2.1.1 (by omega) (by have := hb.2.1.1.totL_max; omega)
  rw [Int.zero_add] at h
  have h2 := Ev.bind (f := fun k t => extent_Total.l0 k 0 t (t.length : Int) 0) (Ev.now (nrm l)) h
  refine Ev.congr (fun k => ?_) h2
  unfold extent_Total.f extent_Normal.f
  rw [if_pos (by unfold bigS; omega)]
end Go.Proofs.Ytapbmkcncjkanaa.P
namespace Go.Proofs.Ytapbmkcncjkanaa.P
open Go.RowKit Go.Proofs Go.Proofs.YtapbmkcncjkanaaW.PrintWords Go.Proofs.YtapbmkcncjkanaaW.PrintLast Go.Proofs.YtapbmkcncjkanaaW.PrintMore

end Go.Proofs.Ytapbmkcncjkanaa.P
