/- The reference's Align and Gaps: the same lists as extent's. -/
import Derived.Test.YtapbmkcncjkanaaRefC
import Derived.Test.YtapbmkcncjkanaaP22
import Derived.Test.YtapbmkcncjkanaaP21
set_option linter.unusedVariables false
set_option linter.unusedSimpArgs false
namespace Go.Proofs.Ytapbmkcncjkanaa.P
open Go.RowKit Go.Proofs Go.Proofs.YtapbmkcncjkanaaW.PrintWords Go.Proofs.YtapbmkcncjkanaaW.PrintLast Go.Proofs.YtapbmkcncjkanaaW.PrintMore

theorem min_end (size lim e : Int) (h1 : 1 ≤ size) (h2 : 0 ≤ lim) (h3 : 0 ≤ e) : mn lim ((e / size + 1) * size) = if e / size < lim / size then (e / size + 1) * size else lim := by
  have h5 : lim / size * size ≤ lim := Int.ediv_mul_le lim (by omega)
  have h6 : lim < (lim / size + 1) * size := Int.lt_ediv_add_one_mul_self lim (by omega)
  have h7 : e / size < lim / size → (e / size + 1) * size ≤ lim / size * size := fun h => Int.mul_le_mul_of_nonneg_right (by omega) (by omega)
  have h8 : ¬ e / size < lim / size → (lim / size + 1) * size ≤ (e / size + 1) * size := fun h => Int.mul_le_mul_of_nonneg_right (by omega) (by omega)
  unfold mn
  by_cases h : e / size < lim / size
  · have h7 := h7 h
    rw [if_pos h]
    split <;> omega
  · have h8 := h8 h
    rw [if_neg h]
    split <;> omega

theorem refAlign_l0 (size lim : Int) (h1 : 1 ≤ size) (hs2 : size ≤ 9223372036854775807) (h2 : 1 ≤ lim ∧ lim ≤ 1125899906842624) (m : List Sp) (hm : ∀ s ∈ m, hasS s = true) (hl : m.length < bigS) : ∀ (suf pre out : List Sp), m = pre ++ suf → out.length ≤ pre.length →
    Ev (fun k => r34_Align.l0 k size lim m out (pre.length : Int)) (nrm (out ++ alignOut size lim suf)) := by
  unfold bigS at hl
  intro suf
  induction suf with
  | nil =>
    intro pre out hpre ho
    have : (pre.length : Int) = m.length := by rw [hpre]; simp
    have hlo : out.length < 68719476736 := by omega
    have hR := Ev.bind (f := fun k t => some t) (refNormal_ev out hlo) (Ev.now (nrm out))
    refine Ev.step (fun k => ?_) (by simpa [alignOut] using hR)
    simp only [r34_Align.l0]
    rw [if_neg (by omega)]
    simp
  | cons s suf ih =>
    intro pre out hpre ho
    have hlen : m.length = pre.length + (suf.length + 1) := by rw [hpre]; simp
    have hone := alignOne_length size lim s
    have ih' := ih (pre ++ [s]) (out ++ alignOne size lim s) (by simp [hpre]) (by rw [List.length_append, List.length_append, List.length_singleton]; omega)
    clear hone
    have hs := hm s (by rw [hpre]; simp)
    have hs' := (hasS_iff s).1 hs
    have her := alignEnd_range size lim h1 h2 s hs
    have hget := rd_at m pre s suf hpre
    have q1 : 0 ≤ (s.f0 + s.f1 - 1) / size := Int.ediv_nonneg (by omega) (by omega)
    have q2 : (s.f0 + s.f1 - 1) / size ≤ s.f0 + s.f1 - 1 := Int.ediv_le_self size (by omega)
    have q3 : 0 ≤ s.f0 / size := Int.ediv_nonneg (by omega) (by omega)
    have q4 : s.f0 / size ≤ s.f0 := Int.ediv_le_self size (by omega)
    have q5 : 0 ≤ s.f0 % size := Int.emod_nonneg _ (by omega)
    have q6 : s.f0 % size ≤ s.f0 := emod_le s.f0 size (by omega) (by omega)
    have q7 : (s.f0 + s.f1 - 1) / size * size ≤ s.f0 + s.f1 - 1 := Int.ediv_mul_le _ (by omega)
    have q7' : 0 ≤ (s.f0 + s.f1 - 1) / size * size := Int.mul_nonneg q1 (by omega)
    have q8 : s.f0 / size * size = s.f0 - s.f0 % size := by have h3 := Int.emod_add_mul_ediv s.f0 size; rw [Int.mul_comm]; omega
    have q9 : ((s.f0 + s.f1 - 1) / size + 1) * size = (s.f0 + s.f1 - 1) / size * size + size := by rw [Int.add_mul, Int.one_mul]
    have q10 : 1125899906842624 < size → lim / size = 0 := fun h => Int.ediv_eq_zero_of_lt (by omega) (by omega)
    have q11 := min_end size lim (s.f0 + s.f1 - 1) h1 (by omega) (by omega)
    have c1 : (pre.length : Int) < (m.length : Int) := by omega
    have c2 : 0 ≤ (pre.length : Int) := by omega
    have c3 : ¬ size = 0 := by omega
    have c5 : out.length < 8796093022208 := by omega
    have c6 : wrap64 (alignEnd size lim s - (s.f0 - s.f0 % size)) = alignEnd size lim s - (s.f0 - s.f0 % size) := wrap64_of _ (by omega) (by omega)
    have c7 : size ≤ 1125899906842624 → ((s.f0 + s.f1 - 1) / size + 1) * size ≤ 9223372036854775807 := fun h => by omega
    have c8 : -9223372036854775808 ≤ ((s.f0 + s.f1 - 1) / size + 1) * size := by omega
    have c9 : wrap64 (s.f0 / size * size) = s.f0 - s.f0 % size := by rw [q8]; exact wrap64_of _ (by omega) (by omega)
    have hw := wrap_succ pre.length (by omega)
    have e1 : wrap64 (s.f0 + s.f1) = s.f0 + s.f1 := wrap64_of _ (by omega) (by omega)
    have e2 : wrap64 (s.f0 + s.f1 - 1) = s.f0 + s.f1 - 1 := wrap64_of _ (by omega) (by omega)
    have e3 : wrap64 (Int.tdiv (s.f0 + s.f1 - 1) size) = (s.f0 + s.f1 - 1) / size := by rw [Int.tdiv_eq_ediv_of_nonneg (by omega)]; exact wrap64_of _ (by omega) (by omega)
    have e4 : wrap64 (Int.tdiv s.f0 size) = s.f0 / size := by rw [Int.tdiv_eq_ediv_of_nonneg (by omega)]; exact wrap64_of _ (by omega) (by omega)
    have e6 : wrap64 ((s.f0 + s.f1 - 1) / size + 1) = (s.f0 + s.f1 - 1) / size + 1 := wrap64_of _ (by omega) (by omega)
    have eA : alignOut size lim (s :: suf) = alignOne size lim s ++ alignOut size lim suf := by simp [alignOut]
    have ep : ((pre ++ [s]).length : Int) = ((pre.length + 1 : Nat) : Int) := by simp
    have er : out ++ alignOne size lim s ++ alignOut size lim suf = out ++ alignOut size lim (s :: suf) := by rw [eA, List.append_assoc]
    rw [ep, er] at ih'
    clear ih
    have hA : ∀ k, r34_Align.l0 (k + 1) size lim m out (pre.length : Int) = r34_Align.j2 k size lim m out (pre.length : Int) (s.f0 - s.f0 % size) (alignEnd size lim s) := fun k => by
      simp only [r34_Align.l0]
      rw [if_pos c1, if_pos c2, if_neg c3, hget, e1, e2, e3, e4, e6, c9]
      split
      · rename_i hq
        rw [wrap64_of _ c8 (c7 hq), q11]
        rfl
      · rename_i hq
        have hz := q10 (Int.not_le.1 hq)
        have hen : alignEnd size lim s = lim := by unfold alignEnd; rw [hz]; exact if_neg (Int.not_lt.2 q1)
        rw [hen]
    have hB : ∀ k, r34_Align.j2 (k + 1) size lim m out (pre.length : Int) (s.f0 - s.f0 % size) (alignEnd size lim s) = r34_Align.l0 k size lim m (out ++ alignOne size lim s) ((pre.length + 1 : Nat) : Int) := fun k => by
      simp only [r34_Align.j2]
      rw [hw]
      unfold alignOne
      split
      · first | rw [c6] | rw [if_pos c5, c6]
      · rw [List.append_nil]
    exact Ev.step (f := fun k => r34_Align.j2 k size lim m out (pre.length : Int) (s.f0 - s.f0 % size) (alignEnd size lim s)) hA (Ev.step (f := fun k => r34_Align.l0 k size lim m (out ++ alignOne size lim s) ((pre.length + 1 : Nat) : Int)) hB ih')

theorem refAlign_ev (l : List Sp) (size limit : Int) (hl : l.length < 34359738368) (h2 : size ≤ 9223372036854775807) : Ev (fun k => r34_Align.f k l size limit) (alignL l size limit) := by
  have hb := normal_ev l (by unfold bigS; omega)
  unfold alignL
  by_cases h1 : size < 1
  · rw [if_pos (.inl h1)]
    have h : Ev (fun k => r34_Align.j0 k l size limit true) ([] : List Sp) := Ev.step (f := fun _ => some []) (fun k => by simp [r34_Align.j0]) (Ev.now _)
    exact Ev.congr (fun k => by unfold r34_Align.f; rw [if_pos h1]) h
  · by_cases h3 : limit < 1
    · rw [if_pos (.inr h3)]
      have h : Ev (fun k => r34_Align.j0 k l size limit true) ([] : List Sp) := Ev.step (f := fun _ => some []) (fun k => by simp [r34_Align.j0]) (Ev.now _)
      exact Ev.congr (fun k => by unfold r34_Align.f; rw [if_neg h1, decide_eq_true h3]) h
    · rw [if_neg (by omega)]
      have hmn : mn limit 1125899906842624 = min limit 1125899906842624 := by unfold mn; omega
      have h := refAlign_l0 size (min limit 1125899906842624) (by omega) h2 (by omega) (nrm l) hb.2.1.1.1 (by unfold bigS; omega) (nrm l) [] [] rfl (by simp)
      have h' : Ev (fun k => r34_Align.j0 k l size limit false) (nrm (alignOut size (min limit 1125899906842624) (nrm l))) := by
        have hr := Ev.bind (f := fun k t => r34_Align.l0 k size (min limit 1125899906842624) t [] 0) (refNormal_ev l (by omega)) h
        refine Ev.step (fun k => ?_) hr
        simp only [r34_Align.j0]
        rw [if_neg (by simp), hmn]
      exact Ev.congr (fun k => by unfold r34_Align.f; rw [if_neg h1, decide_eq_false h3]) h'

theorem refGaps_l0 (gap : Int) (m : List Sp) (hm : ∀ s ∈ m, hasS s = true) (hl : m.length < 137438953472) : ∀ (suf pre out : List Sp) (c : Sp), m = pre ++ suf → out.length < pre.length → (0 ≤ c.f0 ∧ c.f0 ≤ 1125899906842624 ∧ 0 ≤ c.f0 + c.f1 ∧ c.f0 + c.f1 ≤ 1125899906842624) →
    Ev (fun k => r34_Gaps.l0 k gap m (out ++ [c]) (pre.length : Int)) (out ++ joinG gap c suf) := by
  intro suf
  induction suf with
  | nil =>
    intro pre out c hpre ho hc
    have : (pre.length : Int) = m.length := by rw [hpre]; simp
    refine Ev.step (f := fun _ => some (out ++ [c])) (fun k => ?_) (by simpa [joinG] using Ev.now (out ++ [c]))
    simp only [r34_Gaps.l0]
    rw [if_neg (by omega)]
  | cons s suf ih =>
    intro pre out c hpre ho hc
    have hlen : m.length = pre.length + (suf.length + 1) := by rw [hpre]; simp
    have hs' := (hasS_iff s).1 (hm s (by rw [hpre]; simp))
    have hget := rd_at m pre s suf hpre
    have hlast := rd_at (out ++ [c]) out c [] rfl
    have hol : (out ++ [c]).length = out.length + 1 := by simp
    have ep : ((pre ++ [s]).length : Int) = ((pre.length + 1 : Nat) : Int) := by simp
    have ihA := fun h => ih (pre ++ [s]) out ⟨c.f0, s.f0 + s.f1 - c.f0⟩ (by simp [hpre]) h ⟨hc.1, hc.2.1, by simp only; omega, by simp only; omega⟩
    have ihB := fun h => ih (pre ++ [s]) (out ++ [c]) s (by simp [hpre]) h (by omega)
    have ihA := ihA (by rw [List.length_append]; omega)
    have ihB := ihB (by rw [List.length_append, List.length_append]; simp; omega)
    clear ih
    rw [ep] at ihA
    rw [ep, List.append_assoc, List.singleton_append] at ihB
    have n1 : (pre.length : Int) < (m.length : Int) := by omega
    have n2 : ((out ++ [c]).length : Int) > 0 := by omega
    have n3 : 0 ≤ (pre.length : Int) := by omega
    have n4 : 0 ≤ (out.length : Int) := by omega
    have n5 : (out.length : Int) < ((out ++ [c]).length : Int) := by omega
    have n6 : (out ++ [c]).length < 8796093022208 := by omega
    have hw := wrap_succ pre.length (by omega)
    have hi : wrap64 (((out ++ [c]).length : Int) - 1) = (out.length : Int) := by
      rw [List.length_append, List.length_singleton]; exact (wrap64_of _ (by omega) (by omega)).trans (by omega)
    have e1 : wrap64 (s.f0 - c.f0) = s.f0 - c.f0 := wrap64_of _ (by omega) (by omega)
    have e2 : wrap64 (s.f0 - c.f0 - c.f1) = s.f0 - (c.f0 + c.f1) := (wrap64_of _ (by omega) (by omega)).trans (by omega)
    have e3 : wrap64 (s.f0 + s.f1) = s.f0 + s.f1 := wrap64_of _ (by omega) (by omega)
    have e4 : wrap64 (s.f0 + s.f1 - c.f0) = s.f0 + s.f1 - c.f0 := wrap64_of _ (by omega) (by omega)
    have h0 : ∀ k, r34_Gaps.l0 (k + 1) gap m (out ++ [c]) (pre.length : Int) = r34_Gaps.j1 k gap m (out ++ [c]) (pre.length : Int) ((out ++ [c]).length : Int) (decide (s.f0 - (c.f0 + c.f1) ≤ gap)) := fun k => by
      simp only [r34_Gaps.l0]
      rw [hi, if_pos n1, if_pos n2, if_pos n3, if_pos n4, if_pos n5, hget, hlast, e1, e2]
    unfold joinG
    by_cases hg : s.f0 - (c.f0 + c.f1) ≤ gap
    · rw [if_pos hg]
      refine Ev.step h0 (Ev.step (fun k => ?_) ihA)
      simp only [r34_Gaps.j1]
      rw [decide_eq_true hg, if_pos rfl, if_pos n3, if_pos n1, hi, if_pos n4, if_pos n5, hlast, hget, hw, Int.toNat_natCast, e3, e4]
      simp
    · rw [if_neg hg]
      refine Ev.step h0 (Ev.step (fun k => ?_) (by simpa using ihB))
      simp only [r34_Gaps.j1]
      rw [decide_eq_false hg, if_neg (by simp), if_pos n3, if_pos n1, if_pos n6, hget, hw]
      simp

theorem refGaps_ev (l : List Sp) (gap : Int) (hl : l.length < 34359738368) : Ev (fun k => r34_Gaps.f k l gap) (gapsL gap (nrm l)) := by
  have hb := normal_ev l (by unfold bigS; omega)
  have hm := hb.2.1.1.1
  have hml := hb.2.2
  have hR := refNormal_ev l (by omega)
  generalize hn : nrm l = m at *
  have h : Ev (fun k => r34_Gaps.l0 k gap m [] 0) (gapsL gap m) := by
    match m, hm, hml with
    | [], _, _ =>
      refine Ev.step (f := fun _ => some []) (fun k => ?_) (Ev.now _)
      simp only [r34_Gaps.l0]
      rw [if_neg (by simp)]
    | s :: m, hm, hml =>
      have hs' := (hasS_iff s).1 (hm s List.mem_cons_self)
      have h1 := refGaps_l0 gap (s :: m) hm (by omega) m [s] [] s rfl (by simp) (by omega)
      have hget := rd_at (s :: m) [] s m rfl
      simp only [List.length_nil, Int.natCast_zero] at hget
      refine Ev.step (f := fun k => r34_Gaps.j1 k gap (s :: m) [] 0 0 false) (fun k => ?_) (Ev.step (fun k => ?_) (by simpa [gapsL] using h1))
      · simp only [r34_Gaps.l0]
        rw [if_pos (by simp), if_neg (by simp)]
        rfl
      · simp only [r34_Gaps.j1]
        rw [if_neg (by simp), if_pos (by omega), if_pos (by simp), if_pos (by simp), show wrap64 (0 + 1) = 1 from wrap64_of _ (by omega) (by omega), hget]
        simp
  have h2 := Ev.bind (f := fun k t => r34_Gaps.l0 k gap t [] 0) hR h
  refine Ev.congr (fun k => ?_) h2
  unfold r34_Gaps.f
  rfl
end Go.Proofs.Ytapbmkcncjkanaa.P
