/- ExtentContains, as a fact on lists. -/
import Derived.Test.YtcckacamocaofaaNormP
import Derived.Test.YtcckacamocaofaaSayExtentContains
set_option linter.unusedVariables false
set_option linter.unusedSimpArgs false
namespace Go.Proofs.Ytcckacamocaofaa.P
open Go.RowKit Go.Proofs Go.Proofs.YtcckacamocaofaaW.PrintWords Go.Proofs.YtcckacamocaofaaW.PrintLast Go.Proofs.YtcckacamocaofaaW.PrintMore

/-! ### What the walk asks of the two lists -/
def alignOk (size : Int) (s : Sp) : Prop := s.f0 % size = 0 ∧ ((s.f0 + s.f1) % size = 0 ∨ s.f0 + s.f1 = 1125899906842624)
def GapN (gap : Int) (l : List Sp) : Prop := (∀ s ∈ l, hasS s = true) ∧ l.Pairwise (fun a b => a.f0 + a.f1 + gap < b.f0)
theorem GapN.norm {gap : Int} {l : List Sp} (h : GapN gap l) (hg : 0 ≤ gap) : Norm l := ⟨h.1, h.2.imp fun hab => by omega⟩

theorem contains_l1 (gap : Int) (G : List Sp) (hl : G.length < 1125899906842624) (hG : GapN gap G) : ∀ (suf pre : List Sp) (p : Sp), G = pre ++ p :: suf → Ev (fun k => tapearchivelaw34_ExtentContains.l1 k gap G ((pre.length : Int) + 1)) true
  | [], pre, p, hpre => by
    have hlen : G.length = pre.length + 1 := by rw [hpre]; simp
    refine Ev.step (f := fun _ => some true) (fun k => ?_) (Ev.now _)
    simp only [tapearchivelaw34_ExtentContains.l1]
    rw [if_neg (by omega)]
  | s :: suf, pre, p, hpre => by
    have hlen : G.length = pre.length + (suf.length + 1 + 1) := by rw [hpre]; simp
    have hgp := rd_at G pre p (s :: suf) hpre
    have hgs := rd_at G (pre ++ [p]) s suf (by rw [hpre]; simp)
    have ep : ((pre ++ [p]).length : Int) = (pre.length : Int) + 1 := by simp
    rw [ep] at hgs
    have ih := contains_l1 gap G hl hG suf (pre ++ [p]) s (by rw [hpre]; simp)
    rw [ep] at ih
    have hp := (hasS_iff p).1 (hG.1 p (by rw [hpre]; simp))
    have hs := (hasS_iff s).1 (hG.1 s (by rw [hpre]; simp))
    have hgap : p.f0 + p.f1 + gap < s.f0 := by
      have := hG.2
      rw [hpre] at this
      exact (List.pairwise_cons.1 (List.pairwise_append.1 this).2.1).1 s (by simp)
    have n1 : (pre.length : Int) + 1 < (G.length : Int) := by omega
    have n2 : 0 ≤ (pre.length : Int) + 1 := by omega
    have n3 : 0 ≤ (pre.length : Int) := by omega
    have n4 : (pre.length : Int) < (G.length : Int) := by omega
    have n5 : ¬ (s.f0 - p.f0 - p.f1 ≤ gap) := by omega
    have w1 : wrap64 ((pre.length : Int) + 1 - 1) = (pre.length : Int) := (wrap64_of _ (by omega) (by omega)).trans (by omega)
    have w2 : wrap64 (s.f0 - p.f0) = s.f0 - p.f0 := wrap64_of _ (by omega) (by omega)
    have w3 : wrap64 (s.f0 - p.f0 - p.f1) = s.f0 - p.f0 - p.f1 := wrap64_of _ (by omega) (by omega)
    have w4 : wrap64 ((pre.length : Int) + 1 + 1) = (pre.length : Int) + 1 + 1 := wrap64_of _ (by omega) (by omega)
    refine Ev.step (fun k => ?_) ih
    simp only [tapearchivelaw34_ExtentContains.l1]
    rw [if_pos n1, if_pos n2, w1, if_pos n3, if_pos n4, hgs, hgp, w2, w3, if_neg n5, w4]

theorem contains_l0 (gap size : Int) (hsz : 1 ≤ size) (A G : List Sp) (hA : A.length < 1125899906842624) (hN : Norm A) (hok : ∀ s ∈ A, alignOk size s) (hG : Ev (fun k => tapearchivelaw34_ExtentContains.l1 k gap G 1) true) : ∀ (suf pre : List Sp), A = pre ++ suf → Ev (fun k => tapearchivelaw34_ExtentContains.l0 k gap size A G (pre.length : Int)) true
  | [], pre, hpre => by
    have hlen : (pre.length : Int) = A.length := by rw [hpre]; simp
    refine Ev.step (fun k => ?_) hG
    simp only [tapearchivelaw34_ExtentContains.l0]
    rw [if_neg (by omega)]
  | s :: suf, pre, hpre => by
    have hlen : A.length = pre.length + (suf.length + 1) := by rw [hpre]; simp
    have hget := rd_at A pre s suf hpre
    have ih := contains_l0 gap size hsz A G hA hN hok hG suf (pre ++ [s]) (by simp [hpre])
    have ep : ((pre ++ [s]).length : Int) = ((pre.length + 1 : Nat) : Int) := by simp
    rw [ep] at ih
    have hs := (hasS_iff s).1 (hN.1 s (by rw [hpre]; simp))
    have ho := hok s (by rw [hpre]; simp)
    have n1 : (pre.length : Int) < (A.length : Int) := by omega
    have n2 : 0 ≤ (pre.length : Int) := by omega
    have n3 : ¬ size = 0 := by omega
    have t1 : Int.tmod s.f0 size = s.f0 % size := Int.tmod_eq_emod_of_nonneg (by omega)
    have t2 : Int.tmod (s.f0 + s.f1) size = (s.f0 + s.f1) % size := Int.tmod_eq_emod_of_nonneg (by omega)
    have w1 : wrap64 (s.f0 + s.f1) = s.f0 + s.f1 := wrap64_of _ (by omega) (by omega)
    have hw := wrap_succ pre.length (by omega)
    refine Ev.step (f := fun k => tapearchivelaw34_ExtentContains.j3 k gap size A G (pre.length : Int) false) (fun k => ?_) (Ev.step (fun k => ?_) ih)
    · simp only [tapearchivelaw34_ExtentContains.l0]
      rw [if_pos n1, if_pos n2, if_neg n3, hget, w1, t1, t2, if_pos ho.1]
      split
      · rfl
      · rename_i h
        rw [ho.2.resolve_left h]
        rfl
    · simp only [tapearchivelaw34_ExtentContains.j3]
      rw [if_neg (by simp), hw]

/-! ### Align: the list holds the spans, and its ends lie on blocks -/
theorem alignOne_spec (size : Int) (hsz : 1 ≤ size) (s : Sp) (hs : hasS s = true) : ∃ t : Sp, alignOne size 1125899906842624 s = [t] ∧ alignOk size t ∧ hasS t = true ∧ ∀ n, memS s n = true → memS t n = true := by
  have h0 := (hasS_iff s).1 hs
  have her := alignEnd_range size 1125899906842624 hsz (by omega) s hs
  have q5 : 0 ≤ s.f0 % size := Int.emod_nonneg _ (by omega)
  have q6 : s.f0 % size ≤ s.f0 := emod_le s.f0 size (by omega) (by omega)
  have hend : s.f0 + s.f1 ≤ alignEnd size 1125899906842624 s ∧ (alignEnd size 1125899906842624 s % size = 0 ∨ alignEnd size 1125899906842624 s = 1125899906842624) := by
    have h6 : s.f0 + s.f1 - 1 < ((s.f0 + s.f1 - 1) / size + 1) * size := Int.lt_ediv_add_one_mul_self _ (by omega)
    have h7 : ((s.f0 + s.f1 - 1) / size + 1) * size % size = 0 := Int.mul_emod_left _ _
    unfold alignEnd
    split
    · exact ⟨by omega, .inl h7⟩
    · exact ⟨h0.2.2, .inr rfl⟩
  unfold alignOne
  generalize alignEnd size 1125899906842624 s = e at her hend
  have h8 : (s.f0 - s.f0 % size) % size = 0 := by
    have h3 := Int.emod_add_mul_ediv s.f0 size
    have h4 : s.f0 - s.f0 % size = size * (s.f0 / size) := by omega
    rw [h4]
    exact Int.mul_emod_right _ _
  refine ⟨⟨s.f0 - s.f0 % size, e - (s.f0 - s.f0 % size)⟩, if_pos (by omega), ⟨h8, ?_⟩, (hasS_iff _).2 ⟨by simp only; omega, by simp only; omega, by simp only; omega⟩, fun n hn => ?_⟩
  · have h9 : s.f0 - s.f0 % size + (e - (s.f0 - s.f0 % size)) = e := by omega
    simp only [h9]
    exact hend.2
  · have h9 := (memS_iff s n).1 hn
    exact (memS_iff _ n).2 ⟨(hasS_iff _).2 ⟨by simp only; omega, by simp only; omega, by simp only; omega⟩, by simp only; omega, by simp only; omega⟩
theorem alignOut_spec (size : Int) (hsz : 1 ≤ size) : ∀ (m : List Sp), (∀ s ∈ m, hasS s = true) → (∀ t ∈ alignOut size 1125899906842624 m, alignOk size t) ∧ ∀ n, inL m n = true → inL (alignOut size 1125899906842624 m) n = true
  | [], _ => ⟨fun t ht => by simp [alignOut] at ht, fun n hn => by simp [inL] at hn⟩
  | s :: m, h => by
    have ih := alignOut_spec size hsz m fun t ht => h t (List.mem_cons_of_mem _ ht)
    obtain ⟨t, h1, h2, h3, h4⟩ := alignOne_spec size hsz s (h s List.mem_cons_self)
    have e : alignOut size 1125899906842624 (s :: m) = t :: alignOut size 1125899906842624 m := by
      have e : alignOut size 1125899906842624 (s :: m) = alignOne size 1125899906842624 s ++ alignOut size 1125899906842624 m := by simp [alignOut]
      rw [e, h1]
      rfl
    rw [e]
    refine ⟨fun u hu => ?_, fun n hn => ?_⟩
    · rcases List.mem_cons.1 hu with rfl | hu
      · exact h2
      · exact ih.1 u hu
    · rw [inL_cons, Bool.or_eq_true] at hn ⊢
      exact hn.imp (h4 n) (ih.2 n)
theorem alignL_spec (l : List Sp) (size : Int) (hsz : 1 ≤ size) (hl : l.length < 1048576) : Norm (alignL l size 1125899906842624) ∧ (∀ s ∈ alignL l size 1125899906842624, alignOk size s) ∧ ∀ n, inL l n = true → inL (alignL l size 1125899906842624) n = true := by
  have u := nrm_spec l (by unfold bigS; omega)
  have ul := (normal_ev l (by unfold bigS; omega)).2.2
  have o := alignOut_spec size hsz (nrm l) u.1.1
  have ol := alignOut_length size 1125899906842624 (nrm l)
  have v := nrm_spec (alignOut size 1125899906842624 (nrm l)) (by unfold bigS; omega)
  have e : alignL l size 1125899906842624 = nrm (alignOut size 1125899906842624 (nrm l)) := by
    unfold alignL
    rw [if_neg (by omega), show min (1125899906842624 : Int) 1125899906842624 = 1125899906842624 by omega]
  rw [e]
  refine ⟨v.1, fun s hs => ?_, fun n hn => ?_⟩
  · obtain ⟨t, ht, h1⟩ := start_of v.1 v.2 hs
    obtain ⟨t', ht', h2⟩ := end_of v.1 v.2 hs
    have a1 := (o.1 t ht).1
    have a2 := (o.1 t' ht').2
    unfold alignOk
    rw [h1] at a1
    rw [h2] at a2
    exact ⟨a1, a2⟩
  · rw [v.2]
    exact o.2 n (by rw [u.2]; exact hn)
/-! ### Gaps: the list holds the spans, and its gaps are wide -/
theorem joinG_spec (gap : Int) (hg : 0 ≤ gap) : ∀ (m : List Sp) (c : Sp), Norm (c :: m) → GapN gap (joinG gap c m) ∧ (∀ s ∈ joinG gap c m, c.f0 ≤ s.f0) ∧ ∀ n, inL (c :: m) n = true → inL (joinG gap c m) n = true
  | [], c, h => ⟨⟨h.1, List.pairwise_singleton _ _⟩, fun s hs => by rw [List.mem_singleton.1 hs]; omega, fun n hn => hn⟩
  | s :: m, c, h => by
    have hc := (hasS_iff c).1 h.head
    have hs := (hasS_iff s).1 h.tail.head
    have hcs := (List.pairwise_cons.1 h.2).1 s List.mem_cons_self
    unfold joinG
    by_cases hq : s.f0 - (c.f0 + c.f1) ≤ gap
    · rw [if_pos hq]
      have hd : hasS (⟨c.f0, s.f0 + s.f1 - c.f0⟩ : Sp) = true := (hasS_iff _).2 ⟨hc.1, by simp only; omega, by simp only; omega⟩
      have hN : Norm ((⟨c.f0, s.f0 + s.f1 - c.f0⟩ : Sp) :: m) := by
        refine ⟨fun t ht => ?_, List.pairwise_cons.2 ⟨fun t ht => ?_, (List.pairwise_cons.1 h.tail.2).2⟩⟩
        · rcases List.mem_cons.1 ht with rfl | ht
          · exact hd
          · exact h.1 t (by simp [ht])
        · have := (List.pairwise_cons.1 h.tail.2).1 t ht
          simp only
          omega
      have ih := joinG_spec gap hg m ⟨c.f0, s.f0 + s.f1 - c.f0⟩ hN
      refine ⟨ih.1, ih.2.1, fun n hn => ih.2.2 n ?_⟩
      rw [inL_cons, Bool.or_eq_true]
      rw [inL_cons, inL_cons, Bool.or_eq_true, Bool.or_eq_true] at hn
      rcases hn with hn | hn | hn
      · have h1 := (memS_iff c n).1 hn
        exact .inl ((memS_iff _ n).2 ⟨hd, h1.2.1, by simp only; omega⟩)
      · have h1 := (memS_iff s n).1 hn
        exact .inl ((memS_iff _ n).2 ⟨hd, by simp only; omega, by simp only; omega⟩)
      · exact .inr hn
    · rw [if_neg hq]
      have ih := joinG_spec gap hg m s h.tail
      refine ⟨⟨fun t ht => ?_, List.pairwise_cons.2 ⟨fun t ht => ?_, ih.1.2⟩⟩, fun t ht => ?_, fun n hn => ?_⟩
      · rcases List.mem_cons.1 ht with rfl | ht
        · exact h.head
        · exact ih.1.1 t ht
      · have := ih.2.1 t ht
        omega
      · rcases List.mem_cons.1 ht with rfl | ht
        · omega
        · have := ih.2.1 t ht
          omega
      · rw [inL_cons, Bool.or_eq_true] at hn ⊢
        exact hn.imp id (ih.2.2 n)
theorem gapsL_spec (gap : Int) (hg : 0 ≤ gap) (m : List Sp) (h : Norm m) : GapN gap (gapsL gap m) ∧ ∀ n, inL m n = true → inL (gapsL gap m) n = true := by
  cases m with
  | nil => exact ⟨⟨fun s hs => by simp [gapsL] at hs, List.Pairwise.nil⟩, fun n hn => hn⟩
  | cons s m => exact ⟨(joinG_spec gap hg m s h).1, (joinG_spec gap hg m s h).2.2⟩
theorem sub_nil (a b : List Sp) (h : ∀ n, inL a n = true → inL b n = true) : subL a b = [] :=
  canon_eq Norm.nil fun n => by
    rw [inL_nil]
    have := h n
    revert this
    cases inL a n <;> cases inL b n <;> simp

theorem ExtentContains : ExtentContains_Pure := by
  intro a size gap _ hsz hgp
  have hj : ∀ b : Bool, (b = false → a.length ≤ 60 ∧ size ≠ 0 ∧ 0 ≤ gap) → Ev (fun k => tapearchivelaw34_ExtentContains.j0 k a size gap b) true := by
    intro b hb
    cases b with
    | true => exact Ev.step (f := fun _ => some true) (fun k => by simp [tapearchivelaw34_ExtentContains.j0]) (Ev.now _)
    | false =>
      obtain ⟨ha, hs0, hg⟩ := hb rfl
      have hs1 : 1 ≤ size := by omega
      have u := normal_ev a (by unfold bigS; omega)
      have A := alignL_spec a size hs1 (by omega)
      have Al := alignL_length a size 1125899906842624 (by omega)
      have Ab : (alignL a size 1125899906842624).length < bigS := by
        have h1 := alignOut_length size (min 1125899906842624 1125899906842624) (nrm a)
        have h3 := (normal_ev (alignOut size (min 1125899906842624 1125899906842624) (nrm a)) (by unfold bigS; omega)).2.2
        have e : alignL a size 1125899906842624 = nrm (alignOut size (min 1125899906842624 1125899906842624) (nrm a)) := by unfold alignL; rw [if_neg (by omega)]
        rw [e]
        unfold bigS
        omega
      have G := gapsL_spec gap hg (nrm a) u.2.1.1
      have Gl := gapsL_length gap (nrm a)
      have s1 : extent_Subtract.f a (alignL a size 1125899906842624) = some [] := (if_pos ⟨by unfold bigS; omega, Ab⟩).trans (by rw [sub_nil a _ A.2.2])
      have s2 : extent_Subtract.f a (gapsL gap (nrm a)) = some [] := (if_pos ⟨by unfold bigS; omega, by unfold bigS; omega⟩).trans (by rw [sub_nil a _ fun n hn => G.2 n (by rw [u.2.1.2]; exact hn)])
      have e1 := align_ev a size 1125899906842624 (by omega) (by omega)
      have e2 := gaps_ev a gap (by omega)
      have e3 := normal_true _ Al A.1
      have e4 := normal_true (gapsL gap (nrm a)) (by omega) (G.1.norm hg)
      have e5 : Ev (fun k => tapearchivelaw34_ExtentContains.l1 k gap (gapsL gap (nrm a)) 1) true := by
        generalize hGG : gapsL gap (nrm a) = GG at *
        cases GG with
        | nil => exact Ev.step (f := fun _ => some true) (fun k => by simp [tapearchivelaw34_ExtentContains.l1]) (Ev.now _)
        | cons p suf => exact contains_l1 gap (p :: suf) (by omega) G.1 suf [] p rfl
      have e6 := contains_l0 gap size hs1 (alignL a size 1125899906842624) (gapsL gap (nrm a)) Al A.1 A.2.1 e5 (alignL a size 1125899906842624) [] rfl
      have hw : wrap64 size = size := wrap64_of _ (by omega) (by omega)
      generalize alignL a size 1125899906842624 = AA at *
      generalize gapsL gap (nrm a) = GG at *
      have e7 : Ev (fun k => tapearchivelaw34_ExtentContains.j1 k gap size AA GG false) true := by
        refine Ev.step (fun k => ?_) e6
        simp only [tapearchivelaw34_ExtentContains.j1]
        rw [if_neg (by simp)]
        rfl
      have e8 : Ev (fun k => (tapearchivelaw34_normal.f k GG).bind fun t468 => if t468 = true then tapearchivelaw34_ExtentContains.j1 k gap size AA GG false else tapearchivelaw34_ExtentContains.j1 k gap size AA GG true) true :=
        Ev.bind (f := fun k t468 => if t468 = true then tapearchivelaw34_ExtentContains.j1 k gap size AA GG false else tapearchivelaw34_ExtentContains.j1 k gap size AA GG true) e4 (Ev.congr (fun k => if_pos rfl) e7)
      have e9 : Ev (fun k => (tapearchivelaw34_normal.f k AA).bind fun t467 => if t467 = true then (tapearchivelaw34_normal.f k GG).bind fun t468 => if t468 = true then tapearchivelaw34_ExtentContains.j1 k gap size AA GG false else tapearchivelaw34_ExtentContains.j1 k gap size AA GG true else tapearchivelaw34_ExtentContains.j1 k gap size AA GG true) true :=
        Ev.bind (f := fun k t467 => if t467 = true then (tapearchivelaw34_normal.f k GG).bind fun t468 => if t468 = true then tapearchivelaw34_ExtentContains.j1 k gap size AA GG false else tapearchivelaw34_ExtentContains.j1 k gap size AA GG true else tapearchivelaw34_ExtentContains.j1 k gap size AA GG true) e3 (Ev.congr (fun k => if_pos rfl) e8)
      obtain ⟨k1, h1⟩ := e1
      obtain ⟨k2, h2⟩ := e2
      obtain ⟨k3, h3⟩ := e9
      refine ⟨k1 + k2 + k3 + 1, fun k hk => ?_⟩
      obtain ⟨k, rfl⟩ : ∃ j, k = j + 1 := ⟨k - 1, by omega⟩
      have h1 := h1 k (by omega); have h2 := h2 k (by omega); have h3 := h3 k (by omega)
      dsimp only at h1 h2 h3
      show tapearchivelaw34_ExtentContains.j0 (k + 1) a size gap false = some true
      simp only [tapearchivelaw34_ExtentContains.j0]
      rw [if_neg (by simp), hw, h1, h2]
      simp only [Option.bind_some, s1, s2]
      simp only [List.length_nil]
      exact h3
  have hall : Ev (fun k => tapearchivelaw34_ExtentContains.f k a size gap) true := by
    by_cases hf : a.length ≤ 60 ∧ ([] : List Sp).length ≤ 60
    · by_cases hz : size = 0
      · refine Ev.congr (fun k => ?_) (hj true (fun h => by simp at h))
        unfold tapearchivelaw34_ExtentContains.f tapearchivelaw34_lives_s.f
        rw [few_eq, decide_eq_true hf, if_pos hz]
        simp
      · refine Ev.congr (fun k => ?_) (hj (decide (gap < 0)) (fun h => ⟨hf.1, hz, Int.not_lt.1 (of_decide_eq_false h)⟩))
        unfold tapearchivelaw34_ExtentContains.f tapearchivelaw34_lives_s.f
        rw [few_eq, decide_eq_true hf, if_neg hz]
        simp
    · refine Ev.congr (fun k => ?_) (hj true (fun h => by simp at h))
      unfold tapearchivelaw34_ExtentContains.f tapearchivelaw34_lives_s.f
      rw [few_eq, decide_eq_false hf]
      simp
  exact hall.rounds
end Go.Proofs.Ytcckacamocaofaa.P
