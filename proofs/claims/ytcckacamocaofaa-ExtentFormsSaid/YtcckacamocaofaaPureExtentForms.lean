/- ExtentForms, as a fact on lists. -/
import Derived.Test.YtcckacamocaofaaNormP
import Derived.Test.YtcckacamocaofaaSayExtentForms
set_option linter.unusedVariables false
set_option linter.unusedSimpArgs false
namespace Go.Proofs.Ytcckacamocaofaa.P
open Go.RowKit Go.Proofs Go.Proofs.YtcckacamocaofaaW.PrintWords Go.Proofs.YtcckacamocaofaaW.PrintLast Go.Proofs.YtcckacamocaofaaW.PrintMore

theorem forms_end (x0 out : List Sp) (cuts : List Int) (hx : x0.length ≤ 60) (ho : out.length ≤ 240) (hm : ∀ n, inL out n = inL x0 n) (i : Int) (hi : i < 0) : Ev (fun k => tapearchivelaw34_ExtentForms.l0 k x0 cuts out i) true := by
  have u := normal_ev x0 (by unfold bigS; omega)
  have e : nrm out = nrm x0 := by unfold nrm; rw [show inL out = inL x0 from funext hm]
  have n1 : extent_Normal.f x0 = some (nrm x0) := if_pos (by unfold bigS; omega)
  have n2 : extent_Normal.f out = some (nrm x0) := by rw [← e]; exact if_pos (by unfold bigS; omega)
  have n3 : extent_Normal.f (nrm x0) = some (nrm x0) := (if_pos (by unfold bigS; omega)).trans (by rw [nrm_of_Norm u.2.1.1])
  have hb := Ev.bind (f := fun k t => if t = true then (tapearchiveref34_Same.f k (nrm x0) (nrm x0)).bind fun t454 => if t454 = true then (tapearchiveref34_Same.f k (nrm x0) (nrm x0)).bind fun t458 => some t458 else some false else some false)
    (normal_true (nrm x0) (by omega) u.2.1.1) (r := true) (Ev.congr (fun k => if_pos rfl) (Ev.bind (f := fun k t454 => if t454 = true then (tapearchiveref34_Same.f k (nrm x0) (nrm x0)).bind fun t458 => some t458 else some false) (Same_ev (nrm x0) (by omega)) (Ev.congr (fun k => if_pos rfl) (Ev.bind (f := fun k t => some t) (Same_ev (nrm x0) (by omega)) (Ev.now true)))))
  refine Ev.step (fun k => ?_) hb
  simp only [tapearchivelaw34_ExtentForms.l0]
  rw [if_neg (by omega), n1, n2]
  simp only [Option.bind_some, n3]
theorem mem_cut (s : Sp) (c : Int) (n : Int) (h : 0 < c ∧ c < s.f1 ∧ 0 ≤ s.f0 ∧ s.f0 + s.f1 ≤ 1125899906842624) : (memS ⟨s.f0 + c, s.f1 - c⟩ n || memS ⟨s.f0, c⟩ n) = memS s n := by
  rw [Bool.eq_iff_iff, Bool.or_eq_true, memS_iff, memS_iff, memS_iff, hasS_iff, hasS_iff, hasS_iff]
  simp only
  omega
theorem forms_l0 (x0 : List Sp) (cuts : List Int) (hx : x0.length ≤ 60) : ∀ (m : Nat) (pre suf out : List Sp), pre.length = m → x0 = pre ++ suf → out.length ≤ 3 * suf.length → (∀ n, inL out n = inL suf n) → Ev (fun k => tapearchivelaw34_ExtentForms.l0 k x0 cuts out ((pre.length : Int) - 1)) true
  | 0, pre, suf, out, hm, hpre, ho, hmem => by
    obtain rfl := List.length_eq_zero_iff.1 hm
    rw [List.nil_append] at hpre
    subst hpre
    exact forms_end x0 out cuts hx (by omega) hmem _ (by simp)
  | m + 1, pre, suf, out, hm, hpre, ho, hmem => by
    rcases eq_nil_or_snoc pre with rfl | ⟨q, s, rfl⟩
    · simp at hm
    · have hq : q.length = m := by simpa using hm
      have hlen : x0.length = q.length + 1 + suf.length := by rw [hpre]; simp; omega
      have hi : (((q ++ [s]).length : Nat) : Int) - 1 = (q.length : Int) := by simp
      have hget := rd_at x0 q s suf (by rw [hpre]; simp)
      have hwi : wrap64 ((q.length : Int) - 1) = (q.length : Int) - 1 := wrap64_of _ (by omega) (by omega)
      have ih := fun out' h1 h2 => forms_l0 x0 cuts hx m q (s :: suf) out' hq (by rw [hpre]; simp) h1 h2
      have hsb := fun n => inL_cons s suf n
      rw [hi]
      have hstep : ∀ b : Bool, (b = true → (q.length : Int) < (cuts.length : Int) ∧ 0 < rd cuts (q.length : Int) ∧ rd cuts (q.length : Int) < s.f1 ∧ 0 ≤ s.f0 ∧ s.f0 + s.f1 ≤ 1125899906842624) → Ev (fun k => tapearchivelaw34_ExtentForms.j2 k x0 cuts (out ++ [s]) (q.length : Int) b s.f0 s.f1) true := by
        intro b hb
        cases b with
        | false =>
          have ih' := ih (out ++ [s]) (by simp; omega) (fun n => by rw [inL_append, inL_cons, inL_nil, Bool.or_false, hmem, hsb, Bool.or_comm])
          refine Ev.step (fun k => ?_) ih'
          simp only [tapearchivelaw34_ExtentForms.j2]
          rw [if_neg (by simp), hwi]
        | true =>
          obtain ⟨hb1, hb2, hb3, hb4, hb5⟩ := hb rfl
          generalize hc : rd cuts (q.length : Int) = c at hb2 hb3
          have hy : (out ++ [s]).set out.length ⟨s.f0 + c, s.f1 - c⟩ = out ++ [⟨s.f0 + c, s.f1 - c⟩] := by simp
          have hy0 : ∃ h r, out ++ [(⟨s.f0 + c, s.f1 - c⟩ : Sp)] = h :: r := by cases out with
            | nil => exact ⟨_, _, rfl⟩
            | cons a o => exact ⟨_, _, rfl⟩
          obtain ⟨h, r, hhr⟩ := hy0
          have hrd : rd_T30 (out ++ [(⟨s.f0 + c, s.f1 - c⟩ : Sp)]) 0 = h := by
            have := rd_at (out ++ [(⟨s.f0 + c, s.f1 - c⟩ : Sp)]) [] h r hhr
            simpa using this
          have hin : ∀ n, memS h n = true → inL (out ++ [(⟨s.f0 + c, s.f1 - c⟩ : Sp)]) n = true := fun n hn => by rw [hhr, inL_cons, hn]; rfl
          have hl1 : (out ++ [s]).length = out.length + 1 := by simp
          have hl2 : (out ++ [(⟨s.f0 + c, s.f1 - c⟩ : Sp)]).length = out.length + 1 := by simp
          have ih' := ih (out ++ [(⟨s.f0 + c, s.f1 - c⟩ : Sp)] ++ [⟨s.f0, c⟩, h]) (by simp; omega) (fun n => by
            have h3 := mem_cut s c n ⟨hb2, hb3, hb4, hb5⟩
            have h4 := hin n
            rw [inL_append, inL_cons, inL_cons, inL_nil, Bool.or_false, hsb, ← h3, ← hmem]
            rw [inL_append, inL_cons, inL_nil, Bool.or_false] at h4 ⊢
            revert h4
            cases inL out n <;> cases memS ⟨s.f0 + c, s.f1 - c⟩ n <;> cases memS ⟨s.f0, c⟩ n <;> cases memS h n <;> simp)
          have n0 : 0 ≤ (q.length : Int) := by omega
          have n1 : 0 ≤ (out.length : Int) := by omega
          have n2 : (out.length : Int) < ((out ++ [s]).length : Int) := by omega
          have n3 : 0 < ((out ++ [s]).length : Int) := by omega
          have n4 : (out ++ [(⟨s.f0 + c, s.f1 - c⟩ : Sp)]).length + ([⟨s.f0, c⟩, h] : List Sp).length < 8796093022208 := by rw [hl2]; simp; omega
          have w0 : wrap64 (((out ++ [s]).length : Int) - 1) = (out.length : Int) := by rw [hl1]; exact (wrap64_of _ (by omega) (by omega)).trans (by omega)
          have w1 : wrap64 (s.f0 + c) = s.f0 + c := wrap64_of _ (by omega) (by omega)
          have w2 : wrap64 (s.f1 - c) = s.f1 - c := wrap64_of _ (by omega) (by omega)
          refine Ev.step (fun k => ?_) ih'
          simp only [tapearchivelaw34_ExtentForms.j2]
          rw [if_pos trivial, if_pos n0, if_pos hb1, w0, if_pos n1, if_pos n2, hc, w1, w2, Int.toNat_natCast, hy]
          simp only [Option.bind_some]
          rw [if_pos n3, hrd, hwi]
          exact if_pos n4
      have m1 : (q.length : Int) ≥ 0 := by omega
      have m2 : (q.length : Int) < (x0.length : Int) := by omega
      have m3 : out.length < 8796093022208 := by omega
      have hb : ∀ k, ∃ b : Bool, tapearchivelaw34_ExtentForms.l0 (k + 1) x0 cuts out (q.length : Int) = tapearchivelaw34_ExtentForms.j2 k x0 cuts (out ++ [s]) (q.length : Int) b s.f0 s.f1 ∧ b = decide ((q.length : Int) < (cuts.length : Int) ∧ 0 < rd cuts (q.length : Int) ∧ rd cuts (q.length : Int) < s.f1 ∧ 0 ≤ s.f0 ∧ s.f0 + s.f1 ≤ 1125899906842624) := fun k => by
        simp only [tapearchivelaw34_ExtentForms.l0]
        rw [if_pos m1, if_pos m1, if_pos m2, if_pos m3, hget]
        simp only [Option.bind_some]
        generalize rd cuts (q.length : Int) = c
        by_cases p1 : (q.length : Int) < (cuts.length : Int)
        · rw [if_pos p1]
          by_cases p2 : c > 0
          · rw [if_pos p2]
            by_cases p3 : c < s.f1
            · rw [if_pos p3]
              by_cases p4 : s.f0 ≥ 0
              · rw [if_pos p4]
                by_cases p5 : s.f0 ≤ 1125899906842624
                · rw [if_pos p5, wrap64_of (1125899906842624 - s.f0) (by omega) (by omega)]
                  refine ⟨_, rfl, ?_⟩
                  rw [decide_eq_decide]
                  omega
                · rw [if_neg p5]
                  exact ⟨_, rfl, (decide_eq_false (by omega)).symm⟩
              · rw [if_neg p4]
                exact ⟨_, rfl, (decide_eq_false (by omega)).symm⟩
            · rw [if_neg p3]
              exact ⟨_, rfl, (decide_eq_false (by omega)).symm⟩
          · rw [if_neg p2]
            exact ⟨_, rfl, (decide_eq_false (by omega)).symm⟩
        · rw [if_neg p1]
          exact ⟨_, rfl, (decide_eq_false (by omega)).symm⟩
      refine Ev.step (fun k => ?_) (hstep _ (fun h => of_decide_eq_true h))
      obtain ⟨b, h1, h2⟩ := hb k
      rw [h1, h2]
theorem ExtentForms : ExtentForms_Pure := by
  intro a cuts _ _
  have hj : ∀ b : Bool, (b = false → a.length ≤ 60) → Ev (fun k => tapearchivelaw34_ExtentForms.j0 k a cuts b) true := by
    intro b hb
    cases b with
    | true => exact Ev.step (f := fun _ => some true) (fun k => by simp [tapearchivelaw34_ExtentForms.j0]) (Ev.now _)
    | false =>
      have ha := hb rfl
      have h := forms_l0 a cuts ha a.length a [] [] rfl (by simp) (by simp) (fun n => rfl)
      refine Ev.step (fun k => ?_) h
      simp only [tapearchivelaw34_ExtentForms.j0]
      rw [if_neg (by simp), wrap64_of ((a.length : Int) - 1) (by omega) (by omega)]
  have hall : Ev (fun k => tapearchivelaw34_ExtentForms.f k a cuts) true := by
    by_cases hf : a.length ≤ 60 ∧ ([] : List Sp).length ≤ 60
    · refine Ev.congr (fun k => ?_) (hj (decide ((cuts.length : Int) > 60)) (fun _ => hf.1))
      unfold tapearchivelaw34_ExtentForms.f tapearchivelaw34_lives_s.f
      rw [few_eq, decide_eq_true hf]
      simp
    · refine Ev.congr (fun k => ?_) (hj true (fun h => by simp at h))
      unfold tapearchivelaw34_ExtentForms.f tapearchivelaw34_lives_s.f
      rw [few_eq, decide_eq_false hf]
      simp
  exact hall.rounds
end Go.Proofs.Ytcckacamocaofaa.P
