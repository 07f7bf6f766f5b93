/- ExtentAlgebra, as a fact on lists. -/
import Derived.Test.YtcckacamocaofaaNormP
import Derived.Test.YtcckacamocaofaaRefIn
import Derived.Test.YtcckacamocaofaaSayExtentAlgebra
set_option linter.unusedVariables false
set_option linter.unusedSimpArgs false
namespace Go.Proofs.Ytcckacamocaofaa.P
open Go.RowKit Go.Proofs Go.Proofs.YtcckacamocaofaaW.PrintWords Go.Proofs.YtcckacamocaofaaW.PrintLast Go.Proofs.YtcckacamocaofaaW.PrintMore

/-! ### How many integers a set has below a bound -/
def ind (b : Bool) : Int := if b = true then 1 else 0
def cnt (g : Int → Bool) : Nat → Int
  | 0 => 0
  | k + 1 => cnt g k + ind (g (k : Int))
theorem cnt_two (g1 g2 g3 g4 : Int → Bool) (h : ∀ n, ind (g1 n) + ind (g2 n) = ind (g3 n) + ind (g4 n)) : ∀ k, cnt g1 k + cnt g2 k = cnt g3 k + cnt g4 k
  | 0 => rfl
  | k + 1 => by
    have ih := cnt_two g1 g2 g3 g4 h k
    have h1 := h (k : Int)
    simp only [cnt]
    omega
theorem cnt_false : ∀ k, cnt (fun _ => false) k = 0
  | 0 => rfl
  | k + 1 => by simp [cnt, cnt_false k, ind]
theorem cnt_span (s : Sp) (hs : hasS s = true) : ∀ k : Nat, cnt (memS s) k = if (k : Int) ≤ s.f0 then 0 else if (k : Int) ≤ s.f0 + s.f1 then (k : Int) - s.f0 else s.f1
  | 0 => by
    have h := (hasS_iff s).1 hs
    simp only [cnt]
    rw [if_pos (by omega)]
  | k + 1 => by
    have h := (hasS_iff s).1 hs
    have ih := cnt_span s hs k
    have hm : ind (memS s (k : Int)) = if s.f0 ≤ (k : Int) ∧ (k : Int) < s.f0 + s.f1 then 1 else 0 := by
      unfold ind
      by_cases hc : s.f0 ≤ (k : Int) ∧ (k : Int) < s.f0 + s.f1
      · rw [if_pos hc, if_pos ((memS_iff s _).2 ⟨hs, hc.1, hc.2⟩)]
      · rw [if_neg hc, if_neg (fun hx => hc ((memS_iff s _).1 hx).2)]
    simp only [cnt]
    rw [ih, hm]
    split <;> split <;> split <;> (try split) <;> omega
theorem cnt_norm (K : Nat) : ∀ (l : List Sp), Norm l → (∀ s ∈ l, s.f0 + s.f1 ≤ (K : Int)) → cnt (inL l) K = totL l
  | [], _, _ => cnt_false K
  | s :: l, h, hK => by
    have ih := cnt_norm K l h.tail fun t ht => hK t (List.mem_cons_of_mem _ ht)
    have hs := (hasS_iff s).1 h.head
    have hk := hK s List.mem_cons_self
    have h1 := cnt_two (inL (s :: l)) (fun _ => false) (memS s) (inL l) (fun n => by
      rw [inL_cons]
      have hd : memS s n = true → inL l n = false := fun hm => by
        rw [Bool.eq_false_iff]
        intro hx
        have := h.gt hx
        have := ((memS_iff s n).1 hm).2.2
        omega
      revert hd
      cases memS s n <;> cases inL l n <;> simp [ind]) K
    rw [cnt_false, ih, cnt_span s h.head] at h1
    rw [totL_cons]
    split at h1 <;> (try split at h1) <;> omega
theorem tot_eq (a b : List Sp) (ha : a.length < bigS) (hb : b.length < bigS) : totL (unionL a b) + totL (interL a b) = totL (nrm a) + totL (nrm b) ∧ totL (subL a b) + totL (interL a b) = totL (nrm a) := by
  obtain ⟨K, hK⟩ : ∃ K : Nat, (K : Int) = 1125899906842624 := ⟨1125899906842624, rfl⟩
  have hn : ∀ l : List Sp, Norm l → cnt (inL l) K = totL l := fun l hl => cnt_norm K l hl fun s hs => by
    have := (hasS_iff s).1 (hl.1 s hs)
    omega
  have u := (union_ev a b ha hb).2.1
  have i := (inter_ev a b ha hb).2.1
  have d := (sub_ev a b ha hb).2.1
  have na := nrm_spec a ha
  have nb := nrm_spec b hb
  rw [← hn _ u.1, ← hn _ i.1, ← hn _ d.1, ← hn _ na.1, ← hn _ nb.1]
  constructor
  · refine cnt_two _ _ _ _ (fun n => ?_) K
    rw [u.2, i.2, na.2, nb.2]
    cases inL a n <;> cases inL b n <;> simp [ind]
  · have h := cnt_two (inL (subL a b)) (inL (interL a b)) (inL (nrm a)) (fun _ => false) (fun n => by
      rw [d.2, i.2, na.2]
      cases inL a n <;> cases inL b n <;> simp [ind]) K
    rw [cnt_false] at h
    omega

theorem agree_ev (a b U I D : List Sp) (n : Int) (ha : a.length < 1099511627776) (hb : b.length < 1099511627776) (hU : U.length < 1099511627776) (hI : I.length < 1099511627776) (hD : D.length < 1099511627776)
    (u : inL U n = (inL a n || inL b n)) (i : inL I n = (inL a n && inL b n)) (d : inL D n = (inL a n && !inL b n)) : Ev (fun k => tapearchivelaw34_agree.f k a b U I D n) true := by
  obtain ⟨k1, h1⟩ := In_ev a n ha
  obtain ⟨k2, h2⟩ := In_ev b n hb
  obtain ⟨k3, h3⟩ := In_ev U n hU
  obtain ⟨k4, h4⟩ := In_ev I n hI
  obtain ⟨k5, h5⟩ := In_ev D n hD
  refine ⟨k1 + k2 + k3 + k4 + k5, fun k hk => ?_⟩
  have h1 := h1 k (by omega); have h2 := h2 k (by omega); have h3 := h3 k (by omega); have h4 := h4 k (by omega); have h5 := h5 k (by omega)
  dsimp only at h1 h2 h3 h4 h5
  show tapearchivelaw34_agree.f k a b U I D n = some true
  unfold tapearchivelaw34_agree.f
  rw [h1, h2, h3, h4, h5, u, i, d]
  simp only [Option.bind_some]
  cases inL a n <;> cases inL b n <;> simp

section
variable (a b U I D : List Sp) (hag : ∀ n : Int, Ev (fun k => tapearchivelaw34_agree.f k a b U I D n) true)
include hag
theorem algebra_l1 (m : List Sp) (i : Int) (p q : Int) (h : Ev (fun k => tapearchivelaw34_ExtentAlgebra.l0 k a b U I D m (wrap64 (i + 1))) true) : ∀ (c : Nat) (x : Int), x = 2 - (c : Int) → c ≤ 3 → Ev (fun k => tapearchivelaw34_ExtentAlgebra.l1 k a b U I D m i x p q) true
  | 0, x, hx, _ => by
    refine Ev.step (fun k => ?_) h
    simp only [tapearchivelaw34_ExtentAlgebra.l1]
    rw [if_neg (by omega)]
  | c + 1, x, hx, hc => by
    have ih := algebra_l1 m i p q h c (x + 1) (by omega) (by omega)
    have w : wrap64 (x + 1) = x + 1 := wrap64_of _ (by omega) (by omega)
    have h4 : Ev (fun k => tapearchivelaw34_ExtentAlgebra.j4 k a b U I D m i x false p q) true := by
      refine Ev.step (fun k => ?_) ih
      simp only [tapearchivelaw34_ExtentAlgebra.j4]
      rw [if_neg (by simp), w]
    have e1 := Ev.bind (f := fun k t515 => tapearchivelaw34_ExtentAlgebra.j4 k a b U I D m i x (!t515) p q) (hag (wrap64 (wrap64 (p + q) + x))) (Ev.congr (fun k => by rw [Bool.not_true]) h4)
    have e2 := Ev.bind (f := fun k t514 => if t514 = true then (tapearchivelaw34_agree.f k a b U I D (wrap64 (wrap64 (p + q) + x))).bind fun t515 => tapearchivelaw34_ExtentAlgebra.j4 k a b U I D m i x (!t515) p q else tapearchivelaw34_ExtentAlgebra.j4 k a b U I D m i x true p q) (hag (wrap64 (p + x))) (Ev.congr (fun k => if_pos rfl) e1)
    refine Ev.step (fun k => ?_) e2
    simp only [tapearchivelaw34_ExtentAlgebra.l1]
    rw [if_pos (by omega)]
theorem algebra_l0 (m : List Sp) (hm : m.length < 1099511627776) (hend : ∀ i : Int, ¬ i < (m.length : Int) → Ev (fun k => tapearchivelaw34_ExtentAlgebra.l0 k a b U I D m i) true) : ∀ (suf pre : List Sp), m = pre ++ suf → Ev (fun k => tapearchivelaw34_ExtentAlgebra.l0 k a b U I D m (pre.length : Int)) true
  | [], pre, hpre => hend _ (by rw [hpre]; simp)
  | s :: suf, pre, hpre => by
    have hlen : m.length = pre.length + (suf.length + 1) := by rw [hpre]; simp
    have hget := rd_at m pre s suf hpre
    have ih := algebra_l0 m hm hend suf (pre ++ [s]) (by simp [hpre])
    have ep : ((pre ++ [s]).length : Int) = ((pre.length + 1 : Nat) : Int) := by simp
    have n1 : (pre.length : Int) < (m.length : Int) := by omega
    have n2 : 0 ≤ (pre.length : Int) := by omega
    have hw := wrap_succ pre.length (by omega)
    rw [ep, ← hw] at ih
    have hj : ∀ x : Bool, Ev (fun k => tapearchivelaw34_ExtentAlgebra.j2 k a b U I D m (pre.length : Int) x s.f0 s.f1) true := by
      intro x
      cases x with
      | true =>
        refine Ev.step (fun k => ?_) ih
        simp only [tapearchivelaw34_ExtentAlgebra.j2]
        rw [if_pos trivial]
      | false =>
        refine Ev.step (fun k => ?_) (algebra_l1 a b U I D hag m (pre.length : Int) s.f0 s.f1 ih 3 (-1) (by omega) (by omega))
        simp only [tapearchivelaw34_ExtentAlgebra.j2]
        rw [if_neg (by simp)]
    have hb : ∃ x : Bool, ∀ k, tapearchivelaw34_ExtentAlgebra.l0 (k + 1) a b U I D m (pre.length : Int) = tapearchivelaw34_ExtentAlgebra.j2 k a b U I D m (pre.length : Int) x s.f0 s.f1 := by
      by_cases p1 : s.f0 < 0
      · exact ⟨true, fun k => by simp only [tapearchivelaw34_ExtentAlgebra.l0]; rw [if_pos n1, if_pos n2, hget, if_pos p1]⟩
      · by_cases p2 : s.f0 > 1125899906842624
        · exact ⟨true, fun k => by simp only [tapearchivelaw34_ExtentAlgebra.l0]; rw [if_pos n1, if_pos n2, hget, if_neg p1, if_pos p2]⟩
        · by_cases p3 : s.f1 < 0
          · exact ⟨true, fun k => by simp only [tapearchivelaw34_ExtentAlgebra.l0]; rw [if_pos n1, if_pos n2, hget, if_neg p1, if_neg p2, if_pos p3]⟩
          · exact ⟨decide (s.f1 > 1125899906842624), fun k => by simp only [tapearchivelaw34_ExtentAlgebra.l0]; rw [if_pos n1, if_pos n2, hget, if_neg p1, if_neg p2, if_neg p3]⟩
    obtain ⟨x, hx⟩ := hb
    exact Ev.step hx (hj x)
end

theorem ExtentAlgebra : ExtentAlgebra_Pure := by
  intro a b n _ _ _
  have hall : Ev (fun k => tapearchivelaw34_ExtentAlgebra.f k a b n) true := by
    by_cases hf : a.length ≤ 60 ∧ b.length ≤ 60
    · have hab : a.length < bigS := by unfold bigS; omega
      have hbb : b.length < bigS := by unfold bigS; omega
      have u := union_ev a b hab hbb
      have i := inter_ev a b hab hbb
      have d := sub_ev a b hab hbb
      have ht := tot_eq a b hab hbb
      have na := nrm_spec a hab
      have tm := na.1.totL_max
      have tp := na.1.totL_le.1
      have n1 : extent_Union.f a b = some (unionL a b) := if_pos ⟨hab, hbb⟩
      have n2 : extent_Intersect.f a b = some (interL a b) := if_pos ⟨hab, hbb⟩
      have n3 : extent_Subtract.f a b = some (subL a b) := if_pos ⟨hab, hbb⟩
      have tU := total_ev (unionL a b) (by omega)
      have tI := total_ev (interL a b) (by omega)
      have tD := total_ev (subL a b) (by omega)
      have ta := total_ev a (by omega)
      have tb := total_ev b (by omega)
      rw [nrm_of_Norm u.2.1.1] at tU
      rw [nrm_of_Norm i.2.1.1] at tI
      rw [nrm_of_Norm d.2.1.1] at tD
      have vU := normal_true (unionL a b) (by omega) u.2.1.1
      have vI := normal_true (interL a b) (by omega) i.2.1.1
      have vD := normal_true (subL a b) (by omega) d.2.1.1
      have hag : ∀ n : Int, Ev (fun k => tapearchivelaw34_agree.f k a b (unionL a b) (interL a b) (subL a b) n) true := fun n =>
        agree_ev a b _ _ _ n (by omega) (by omega) (by omega) (by omega) (by omega) (u.2.1.2 n) (i.2.1.2 n) (d.2.1.2 n)
      clear u i d na
      generalize unionL a b = U at *
      generalize interL a b = I at *
      generalize subL a b = D at *
      have hend : ∀ (m : List Sp) (j : Int), ¬ j < (m.length : Int) → Ev (fun k => tapearchivelaw34_ExtentAlgebra.l0 k a b U I D m j) true := by
        intro m j hj
        obtain ⟨k1, h1⟩ := tU
        obtain ⟨k2, h2⟩ := tI
        obtain ⟨k3, h3⟩ := tD
        obtain ⟨k4, h4⟩ := ta
        obtain ⟨k5, h5⟩ := tb
        refine ⟨k1 + k2 + k3 + k4 + k5 + 1, fun k hk => ?_⟩
        obtain ⟨k, rfl⟩ : ∃ q, k = q + 1 := ⟨k - 1, by omega⟩
        have h1 := h1 k (by omega); have h2 := h2 k (by omega); have h3 := h3 k (by omega); have h4 := h4 k (by omega); have h5 := h5 k (by omega)
        dsimp only at h1 h2 h3 h4 h5
        have e1 : wrap64 (totL D + totL I) = totL (nrm a) := by rw [ht.2]; exact wrap64_of _ (by omega) (by omega)
        show tapearchivelaw34_ExtentAlgebra.l0 (k + 1) a b U I D m j = some true
        simp only [tapearchivelaw34_ExtentAlgebra.l0]
        rw [if_neg hj, h1, h2, h3, h4, h5]
        simp only [Option.bind_some]
        rw [ht.1, if_pos rfl, e1]
        simp
      have e0 := algebra_l0 a b U I D hag (a ++ b) (by rw [List.length_append]; omega) (hend (a ++ b)) (a ++ b) [] rfl
      have ej : Ev (fun k => tapearchivelaw34_ExtentAlgebra.j0 k a b U I D false) true := by
        refine Ev.step (fun k => ?_) e0
        simp only [tapearchivelaw34_ExtentAlgebra.j0]
        rw [if_neg (by simp)]
        simp only [Option.bind_some, List.nil_append]
        rw [if_pos (by simp; omega), if_pos (by omega)]
        rfl
      obtain ⟨k1, h1⟩ := vU
      obtain ⟨k2, h2⟩ := vI
      obtain ⟨k3, h3⟩ := vD
      obtain ⟨k4, h4⟩ := hag n
      obtain ⟨k5, h5⟩ := ej
      refine ⟨k1 + k2 + k3 + k4 + k5, fun k hk => ?_⟩
      have h1 := h1 k (by omega); have h2 := h2 k (by omega); have h3 := h3 k (by omega); have h4 := h4 k (by omega); have h5 := h5 k (by omega)
      dsimp only at h1 h2 h3 h4 h5
      show tapearchivelaw34_ExtentAlgebra.f k a b n = some true
      unfold tapearchivelaw34_ExtentAlgebra.f tapearchivelaw34_lives_s.f
      rw [few_eq, decide_eq_true hf, n1, n2, n3]
      simp only [Option.bind_some, if_true]
      rw [h1]
      simp only [Option.bind_some, if_true]
      rw [h2]
      simp only [Option.bind_some, if_true]
      rw [h3]
      simp only [Option.bind_some, if_true]
      rw [h4]
      exact h5
    · refine ⟨0, fun k _ => ?_⟩
      show tapearchivelaw34_ExtentAlgebra.f k a b n = some true
      unfold tapearchivelaw34_ExtentAlgebra.f tapearchivelaw34_lives_s.f
      rw [few_eq, decide_eq_false hf]
      simp
  exact hall.rounds
end Go.Proofs.Ytcckacamocaofaa.P
