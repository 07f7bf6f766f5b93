-- Written by this session's wip/tools/px.py out of the translation. Lean checks it.
import Derived.Test.YtapbmkcncjkanaaP0
import Derived.Test.YtapbmkcncjkanaaP1
import Derived.Test.YtapbmkcncjkanaaP19
import Derived.Test.YtapbmkcncjkanaaP20
import Derived.Test.YtapbmkcncjkanaaP21
namespace Go.Proofs.Ytapbmkcncjkanaa.P
noncomputable section
open Go.RowKit Go.Proofs.YtapbmkcncjkanaaW.PrintWords Go.Proofs.YtapbmkcncjkanaaW.PrintLast Go.Proofs.YtapbmkcncjkanaaW.PrintMore
attribute [local go_sem] max2_int min2_int max_two min_two max_three min_three max_four min_four   -- for this text's walks alone
set_option linter.unusedVariables false
set_option linter.unusedSimpArgs false

attribute [local go_sem high] eqA25
/-! ### r34_Align: function 32 -/
mutual
def r34_Align.j0 : Nat → List (S25) → Int → Int → Bool → Option ((List (S25)))
 | 0, _, _, _, _ => none
 | k + 1, x0, x1, x2, x19 => if x19 = true then (some ([] : List (S25))) else ((r34_Normal.f k x0).bind fun t445 => (r34_Align.l0 k x1 (mn x2 1125899906842624) t445 (([] : List (S25))) 0))
def r34_Align.l0 : Nat → Int → Int → List (S25) → List (S25) → Int → Option ((List (S25)))
 | 0, _, _, _, _, _ => none
 | k + 1, x1, x7, x8, x9, x10 => if x10 < (x8.length : Int) then (if 0 ≤ x10 then (if x1 = 0 then (none) else (if x1 ≤ 1125899906842624 then (r34_Align.j2 k x1 x7 x8 x9 x10 (wrap64 ((wrap64 (Int.tdiv ((rd_T25 x8 x10).f0) x1)) * x1)) (mn x7 (wrap64 ((wrap64 ((wrap64 (Int.tdiv (wrap64 ((wrap64 (((rd_T25 x8 x10).f0) + ((rd_T25 x8 x10).f1))) - 1)) x1)) + 1)) * x1)))) else (r34_Align.j2 k x1 x7 x8 x9 x10 (wrap64 ((wrap64 (Int.tdiv ((rd_T25 x8 x10).f0) x1)) * x1)) x7))) else (none)) else ((r34_Normal.f k x9).bind fun t451 => (some t451))
def r34_Align.j2 : Nat → Int → Int → List (S25) → List (S25) → Int → Int → Int → Option ((List (S25)))
 | 0, _, _, _, _, _, _, _ => none
 | k + 1, x1, x7, x8, x9, x10, x11, x13 => if x11 < x13 then (if x9.length < 8796093022208 then (r34_Align.l0 k x1 x7 x8 (x9 ++ [(⟨x11, wrap64 (x13 - x11)⟩ : S25)]) (wrap64 (x10 + 1))) else (none)) else (r34_Align.l0 k x1 x7 x8 x9 (wrap64 (x10 + 1)))
end
def r34_Align.f (k : Nat) (l0 : List (S25)) (a1 : Int) (a2 : Int) : Option ((List (S25))) := if a1 < 1 then (r34_Align.j0 k l0 a1 a2 true) else (r34_Align.j0 k l0 a1 a2 (decide (a2 < 1)))
theorem r34_Align.mono_l : ∀ k, (∀ y0 y1 y2 y3, LeO (r34_Align.j0 k y0 y1 y2 y3) (r34_Align.j0 (k + 1) y0 y1 y2 y3)) ∧ (∀ y0 y1 y2 y3 y4, LeO (r34_Align.l0 k y0 y1 y2 y3 y4) (r34_Align.l0 (k + 1) y0 y1 y2 y3 y4)) ∧ (∀ y0 y1 y2 y3 y4 y5 y6, LeO (r34_Align.j2 k y0 y1 y2 y3 y4 y5 y6) (r34_Align.j2 (k + 1) y0 y1 y2 y3 y4 y5 y6))
 | 0 => ⟨fun _ _ _ _ r h => by simp [r34_Align.j0] at h, fun _ _ _ _ _ r h => by simp [r34_Align.l0] at h, fun _ _ _ _ _ _ _ r h => by simp [r34_Align.j2] at h⟩
 | k + 1 => by
  obtain ⟨ih0, ih1, ih2⟩ := r34_Align.mono_l k
  refine ⟨?_, ?_, ?_⟩
  ·intro y0 y1 y2 y3
   unfold r34_Align.j0
   repeat' first
   | (with_reducible exact ih0 _ _ _ _)
   | (with_reducible exact ih1 _ _ _ _ _)
   | (with_reducible exact ih2 _ _ _ _ _ _ _)
   | (with_reducible exact r34_Normal.mono _ _)
   | (with_reducible exact LeO.refl _)
   | (with_reducible exact LeO.none _)
   | (with_reducible refine LeO.ite ?_ ?_)
   | (with_reducible refine LeO.bind ?_ (fun _ => ?_))
   | exact ih0 _ _ _ _
   | exact ih1 _ _ _ _ _
   | exact ih2 _ _ _ _ _ _ _
   | exact r34_Normal.mono _ _
   | exact LeO.none _
   | refine LeO.ite ?_ ?_
   | refine LeO.bind ?_ (fun _ => ?_)
  ·intro y0 y1 y2 y3 y4
   unfold r34_Align.l0
   repeat' first
   | (with_reducible exact ih0 _ _ _ _)
   | (with_reducible exact ih1 _ _ _ _ _)
   | (with_reducible exact ih2 _ _ _ _ _ _ _)
   | (with_reducible exact r34_Normal.mono _ _)
   | (with_reducible exact LeO.refl _)
   | (with_reducible exact LeO.none _)
   | (with_reducible refine LeO.ite ?_ ?_)
   | (with_reducible refine LeO.bind ?_ (fun _ => ?_))
   | exact ih0 _ _ _ _
   | exact ih1 _ _ _ _ _
   | exact ih2 _ _ _ _ _ _ _
   | exact r34_Normal.mono _ _
   | exact LeO.none _
   | refine LeO.ite ?_ ?_
   | refine LeO.bind ?_ (fun _ => ?_)
  ·intro y0 y1 y2 y3 y4 y5 y6
   unfold r34_Align.j2
   repeat' first
   | (with_reducible exact ih0 _ _ _ _)
   | (with_reducible exact ih1 _ _ _ _ _)
   | (with_reducible exact ih2 _ _ _ _ _ _ _)
   | (with_reducible exact r34_Normal.mono _ _)
   | (with_reducible exact LeO.refl _)
   | (with_reducible exact LeO.none _)
   | (with_reducible refine LeO.ite ?_ ?_)
   | (with_reducible refine LeO.bind ?_ (fun _ => ?_))
   | exact ih0 _ _ _ _
   | exact ih1 _ _ _ _ _
   | exact ih2 _ _ _ _ _ _ _
   | exact r34_Normal.mono _ _
   | exact LeO.none _
   | refine LeO.ite ?_ ?_
   | refine LeO.bind ?_ (fun _ => ?_)
theorem r34_Align.mono : ∀ a0 a1 a2 k, LeO (r34_Align.f k a0 a1 a2) (r34_Align.f (k + 1) a0 a1 a2) := by
 intro a0 a1 a2 k
 obtain ⟨ih0, ih1, ih2⟩ := r34_Align.mono_l k
 unfold r34_Align.f
 repeat' first
   | (with_reducible exact ih0 _ _ _ _)
   | (with_reducible exact ih1 _ _ _ _ _)
   | (with_reducible exact ih2 _ _ _ _ _ _ _)
   | (with_reducible exact r34_Normal.mono _ _)
   | (with_reducible exact LeO.refl _)
   | (with_reducible exact LeO.none _)
   | (with_reducible refine LeO.ite ?_ ?_)
   | (with_reducible refine LeO.bind ?_ (fun _ => ?_))
   | exact ih0 _ _ _ _
   | exact ih1 _ _ _ _ _
   | exact ih2 _ _ _ _ _ _ _
   | exact r34_Normal.mono _ _
   | exact LeO.none _
   | refine LeO.ite ?_ ?_
   | refine LeO.bind ?_ (fun _ => ?_)
set_option maxHeartbeats 8000000 in
set_option maxRecDepth 100000 in
theorem r34_Align.calls (k : Nat) (A0 : Option Addr) (c0 : Nat) (l0 : List (S25)) (a1 : Int) (a2 : Int) (r : List (S25)) (w : World) (hr0 : Kd.C k25 w A0 l0.length l0) (hc0 : l0.length ≤ c0) (h : r34_Align.f k l0 a1 a2 = some r) :
  Calls Try.prog 32 #[.slice A0 l0.length c0, .int .i64 a1, .int .i64 a2] w fun e w' => ∃ v0_ : Value, e = .returned (v0_) ∧ Kd.R k25 25 w' w.heap.size (fun _ => True) v0_ r ∧ Below w.heap.size w w' := by
 have hu25 := Try.underlying25
 have HR0 := am hr0
 have HC0 := am hc0
 clear hr0 hc0
 have HB := am (Below.refl w.heap.size w)
 have H : (if a1 < 1 then (r34_Align.j0 k l0 a1 a2 true) else (r34_Align.j0 k l0 a1 a2 (decide (a2 < 1)))) = some r := h
 clear h
 have HC4 := am H
 clear H
 go_enter Try.func32, Try.ntmps32
 go_upto_region 1 with (fail)
 repeat (go_quiet (fail); go_upto_region 1 with (fail))
 go_cut [19] (fun v19 wc => ∃ (kq : Nat) (x19_3 : Bool), v19 = .bool x19_3 ∧ Aside0 (r34_Align.j0 kq l0 a1 a2 x19_3 = some r) ∧ Aside0 (kq ≤ k) ∧ Aside0 (Below w.heap.size w wc))
 case first =>
  have H := HC4.out
  clear HC4
  by_cases c5 : a1 < 1
  ·rw [if_pos c5] at H
   have c5b0 : decide (a1 < 1) = true := decide_eq_true c5
   clear c5
   (first | rw [c5b0] | (simp only [i64_w, i32_w]; rw [c5b0]) | skip)
   have H' := am H
   clear H
   go_wp2
   repeat (go_quiet (fail); try go_wp2)
   go_meet
   case rel => exact ⟨_, (true), zS, H', ⟨by first | omega | exact Nat.le_refl _⟩, ⟨zB HB⟩⟩
  ·rw [if_neg c5] at H
   have c5b0 : decide (a1 < 1) = false := decide_eq_false c5
   clear c5
   (first | rw [c5b0] | (simp only [i64_w, i32_w]; rw [c5b0]) | skip)
   have H' := am H
   clear H
   go_wp2
   repeat (go_quiet (fail); try go_wp2)
   go_meet
   case rel => exact ⟨_, (decide (a2 < 1)), zS, H', ⟨by first | omega | exact Nat.le_refl _⟩, ⟨zB HB⟩⟩
 case rest =>
  clear HC4
  try clear p2
  try clear c3
  try clear c5
  try clear c5b0
  obtain ⟨kq, x19_3, rfl, HA, HJ3, HB⟩ := hcut
  cases kq with
  | zero => exact absurd HA.out (by simp [r34_Align.j0])
  | succ kj3 =>
   have H := HA.out
   clear HA
   simp only [r34_Align.j0] at H
   by_cases c6 : x19_3 = true
   ·subst c6
    have H1 : (some ([] : List (S25))) = some r := by rw [if_pos rfl] at H; exact H
    clear H
    have H := H1
    clear H1
    obtain rfl := Option.some.inj H
    go_wp2
    repeat (go_quiet (fail); try go_wp2)
    go_ret
    exact ⟨_, by first | rfl | (simp [errW_none, errW_some] <;> rfl) | (simp [*, errW_none, errW_some] <;> rfl), by first | exact Kd.R_nil _ _ _ _ _ | exact Kd.N_nil _ _ _ _ _ | exact Kd.V_nil _ _ _ _ _ | exact Kd.Q_nil _ _ _ _ _ | exact Kd.S_nil _ _ _ _ _, by repeat (first | (with_reducible first | exact HB.out | apply below_alloc | apply pw_below_drewN | apply below_drew1) | exact HB.out)⟩
   ·replace c6 := Bool.eq_false_iff.mpr c6
    subst c6
    have H1 : ((r34_Normal.f kj3 l0).bind fun t445 => (r34_Align.l0 kj3 a1 (mn a2 1125899906842624) t445 (([] : List (S25))) 0)) = some r := by rw [if_neg (show ¬ (false = true) by decide)] at H; exact H
    clear H
    have H := H1
    clear H1
    obtain ⟨ji7, hji7⟩ : ∃ j_ : Int, (mn a2 1125899906842624) = j_ := ⟨_, rfl⟩
    replace H : ((r34_Normal.f kj3 l0).bind fun t445 => (r34_Align.l0 kj3 a1 ji7 t445 (([] : List (S25))) 0)) = some r := by first | (rw [hji7] at H; exact H) | (simp only [hji7] at H ⊢; exact H)
    have hji7_ : (if 1125899906842624 < a2 then 1125899906842624 else a2) = ji7 := hji7
    replace H := Option.bind_eq_some_iff.mp H
    obtain ⟨t445, A80, H⟩ := H
    replace H : (r34_Align.l0 kj3 a1 ji7 t445 (([] : List (S25))) 0) = some r := H
    have A8 := am A80
    clear A80
    obtain ⟨y448, hy448⟩ : ∃ y_ : List (S25), y_ = (([] : List (S25))) := ⟨_, rfl⟩
    replace H : (r34_Align.l0 kj3 a1 ji7 t445 y448 0) = some r := by first | (rw [hy448]; with_reducible exact H) | (have H2_ := (Option.bind_some _ _).symm.trans H; rw [hy448]; with_reducible exact H2_) | (have H2_ := (Option.bind_some _ _).symm.trans H; with_reducible exact H2_) | with_reducible exact H | (rw [hy448]; exact H) | exact H
    have Ny448 := am hy448
    clear hy448
    have H' := am H
    clear H
    go_wp2_with (first | (go_at_call 37; (with_reducible refine (r34_Normal.calls kj3 _ _ l0 t445 _ ?side1 ?side2 A8.out).mono ?_); (case side1 => exact zC (Kd.C_below HR0.out HB.out)); (case side2 => exact HC0.out); rintro e w9 ⟨v446, rfl, ho0, hb⟩; have n0_ := am (Kd.R_lower ho0 (below_size (zB HB))); have n1_ := am (below_step (zB HB) hb); clear HB; have HO447 := n0_; have HB := n1_; clear n0_ n1_; (try clear hb); (try clear hb2); (try clear hk); (try clear hi); (try clear ho0)) | ((with_reducible refine gate_dst (N := 24) rfl ?_); refine Kd.R_lit k25 _ 25 ?hg (N := 24) ?hd (xs := ([] : List (S25))) (inner := []) (ok := fun _ => True) (okp := fun _ => True) ?hr ?hp (fun _ hk => hk) trivial (Below.refl _ _) (Nat.le_refl _) (by simp) ?_; (case hd => rfl); (case hg => rfl); (case hr => first | (go_simp; done) | (go_simp; rfl)); (case hp => exact (Reps.none _ _)); intro v449 w10 ho11 hb hg_ hnew_; clear hg_ hnew_; (first | rw [← Ny448.out] at ho11 | (simp only [Int.reduceToNat] at ho11; rw [← Ny448.out] at ho11)); have n0_ := am (Kd.R_elder' (zR HO447.out) (Kd.R_base ho11) hb); have n1_ := am (Kd.R_lower (Kd.R_new' ho11 (Kd.R_lt (zR HO447.out))) (below_size (zB HB))); have n2_ := am (below_step (zB HB) hb); clear HO447; clear HB; have HO447 := n0_; have HO450 := n1_; have HB := n2_; clear n0_ n1_ n2_; clear hb ho11))
    repeat (go_quiet (first | (go_at_call 37; (with_reducible refine (r34_Normal.calls kj3 _ _ l0 t445 _ ?side1 ?side2 A8.out).mono ?_); (case side1 => exact zC (Kd.C_below HR0.out HB.out)); (case side2 => exact HC0.out); rintro e w9 ⟨v446, rfl, ho0, hb⟩; have n0_ := am (Kd.R_lower ho0 (below_size (zB HB))); have n1_ := am (below_step (zB HB) hb); clear HB; have HO447 := n0_; have HB := n1_; clear n0_ n1_; (try clear hb); (try clear hb2); (try clear hk); (try clear hi); (try clear ho0)) | ((with_reducible refine gate_dst (N := 24) rfl ?_); refine Kd.R_lit k25 _ 25 ?hg (N := 24) ?hd (xs := ([] : List (S25))) (inner := []) (ok := fun _ => True) (okp := fun _ => True) ?hr ?hp (fun _ hk => hk) trivial (Below.refl _ _) (Nat.le_refl _) (by simp) ?_; (case hd => rfl); (case hg => rfl); (case hr => first | (go_simp; done) | (go_simp; rfl)); (case hp => exact (Reps.none _ _)); intro v449 w10 ho11 hb hg_ hnew_; clear hg_ hnew_; (first | rw [← Ny448.out] at ho11 | (simp only [Int.reduceToNat] at ho11; rw [← Ny448.out] at ho11)); have n0_ := am (Kd.R_elder' (zR HO447.out) (Kd.R_base ho11) hb); have n1_ := am (Kd.R_lower (Kd.R_new' ho11 (Kd.R_lt (zR HO447.out))) (below_size (zB HB))); have n2_ := am (below_step (zB HB) hb); clear HO447; clear HB; have HO447 := n0_; have HO450 := n1_; have HB := n2_; clear n0_ n1_ n2_; clear hb ho11)); try go_wp2_with (first | (go_at_call 37; (with_reducible refine (r34_Normal.calls kj3 _ _ l0 t445 _ ?side1 ?side2 A8.out).mono ?_); (case side1 => exact zC (Kd.C_below HR0.out HB.out)); (case side2 => exact HC0.out); rintro e w9 ⟨v446, rfl, ho0, hb⟩; have n0_ := am (Kd.R_lower ho0 (below_size (zB HB))); have n1_ := am (below_step (zB HB) hb); clear HB; have HO447 := n0_; have HB := n1_; clear n0_ n1_; (try clear hb); (try clear hb2); (try clear hk); (try clear hi); (try clear ho0)) | ((with_reducible refine gate_dst (N := 24) rfl ?_); refine Kd.R_lit k25 _ 25 ?hg (N := 24) ?hd (xs := ([] : List (S25))) (inner := []) (ok := fun _ => True) (okp := fun _ => True) ?hr ?hp (fun _ hk => hk) trivial (Below.refl _ _) (Nat.le_refl _) (by simp) ?_; (case hd => rfl); (case hg => rfl); (case hr => first | (go_simp; done) | (go_simp; rfl)); (case hp => exact (Reps.none _ _)); intro v449 w10 ho11 hb hg_ hnew_; clear hg_ hnew_; (first | rw [← Ny448.out] at ho11 | (simp only [Int.reduceToNat] at ho11; rw [← Ny448.out] at ho11)); have n0_ := am (Kd.R_elder' (zR HO447.out) (Kd.R_base ho11) hb); have n1_ := am (Kd.R_lower (Kd.R_new' ho11 (Kd.R_lt (zR HO447.out))) (below_size (zB HB))); have n2_ := am (below_step (zB HB) hb); clear HO447; clear HB; have HO447 := n0_; have HO450 := n1_; have HB := n2_; clear n0_ n1_ n2_; clear hb ho11)))
    go_loopg [9, 10] kj3 (fun kq v9 v10 w' => ∃ (x9_2 : List (S25)) (x10_2 : Int), v10 = .int .i64 x10_2 ∧ Aside0 (r34_Align.l0 kq a1 ji7 t445 x9_2 x10_2 = some r) ∧ Aside0 (kq ≤ kj3) ∧ Aside0 (Kd.R k25 25 w' w.heap.size (fun k_ => some k_ ≠ (v9 : Value).ownBlock) v446 t445) ∧ Aside0 (Kd.R k25 25 w' w.heap.size (fun k_ => some k_ ≠ (v446 : Value).ownBlock) v9 x9_2) ∧ Aside0 (Below w.heap.size w w'))
    case atStart => exact ⟨(y448), (0), zS, H', ⟨Nat.le_refl _⟩, ⟨by refine zR ?_; exact Kd.R_mono HO447.out (fun _ hk => hk.2)⟩, ⟨by refine zR ?_; exact Kd.R_mono HO450.out (fun _ hk => hk.2)⟩, ⟨zB HB⟩⟩
    case round =>
     clear H'
     try clear p2
     try clear c3
     try clear c5
     try clear c5b0
     try clear c6
     try clear p2
     obtain ⟨x9_2, x10_2, rfl, HA, HK2, HO_8, HO_9, HB⟩ := hrel
     cases gk with
     | zero => exact absurd HA.out (by simp [r34_Align.l0])
     | succ k2 =>
      have H := HA.out
      clear HA
      simp only [r34_Align.l0] at H
      by_cases c12 : x10_2 < (t445.length : Int)
      ·rw [if_pos c12] at H
       have c12b0 : decide (x10_2 < (t445.length : Int)) = true := decide_eq_true c12
       clear c12
       by_cases c13 : 0 ≤ x10_2
       ·rw [if_pos c13] at H
        have c13b0 : decide (0 ≤ x10_2) = true := decide_eq_true c13
        clear c13
        by_cases c14 : a1 = 0
        ·rw [if_pos c14] at H
         exact absurd H (by simp)
        ·rw [if_neg c14] at H
         have c14b0 : (a1 == 0) = false := beq_eq_false_iff_ne.mpr c14
         have c14b1 : (a1 != 0) = true := bne_iff_ne.mpr c14
         have HC15 := am H
         clear H
         obtain ⟨Ao16, co16, eo16⟩ := Kd.R_slice HO_8.out
         subst eo16
         have p454 : 0 ≤ (x10_2 : Int) := of_decide_eq_true zA
         have q454 : x10_2 < (t445.length : Int) := of_decide_eq_true zA
         obtain ⟨ad454, e454, hx454_0, hx454_1⟩ := at_T25 (Kd.R_reads' HO_8.out).2.2 x10_2 p454 q454
         cases e454
         replace p454 := eq_true p454
         replace q454 := eq_true q454
         have p455 : 0 ≤ (x10_2 : Int) := of_decide_eq_true zA
         have q455 : x10_2 < (t445.length : Int) := of_decide_eq_true zA
         obtain ⟨ad455, e455, hx455_0, hx455_1⟩ := at_T25 (Kd.R_reads' HO_8.out).2.2 x10_2 p455 q455
         obtain rfl : ad454 = ad455 := (by injection e455)
         replace p455 := eq_true p455
         replace q455 := eq_true q455
         have p456 : 0 ≤ (x10_2 : Int) := of_decide_eq_true zA
         have q456 : x10_2 < (t445.length : Int) := of_decide_eq_true zA
         obtain ⟨ad456, e456, hx456_0, hx456_1⟩ := at_T25 (Kd.R_reads' HO_8.out).2.2 x10_2 p456 q456
         obtain rfl : ad454 = ad456 := (by injection e456)
         replace p456 := eq_true p456
         replace q456 := eq_true q456
         go_upto_if 54 with (fail)
         repeat (go_quiet (fail); go_upto_if 54 with (fail))
         go_cut [13] (fun v13 wc => ∃ (kq : Nat) (x13_14 : Int), v13 = .int .i64 x13_14 ∧ Aside0 (r34_Align.j2 kq a1 ji7 t445 x9_2 x10_2 (wrap64 ((wrap64 (Int.tdiv ((rd_T25 t445 x10_2).f0) a1)) * a1)) x13_14 = some r) ∧ Aside0 (kq ≤ k2) ∧ Aside0 (Kd.R k25 25 wc w.heap.size (fun k_ => some k_ ≠ (u9 : Value).ownBlock) (.slice (some ad454) t445.length co16) t445) ∧ Aside0 (Kd.R k25 25 wc w.heap.size (fun k_ => some k_ ≠ ((.slice (some ad454) t445.length co16) : Value).ownBlock) u9 x9_2) ∧ Aside0 (Below w.heap.size w wc))
         case first =>
          have H := HC15.out
          clear HC15
          by_cases c17 : a1 ≤ 1125899906842624
          ·rw [if_pos c17] at H
           have c17b0 : decide (a1 ≤ 1125899906842624) = true := decide_eq_true c17
           clear c17
           (first | rw [c17b0] | (simp only [i64_w, i32_w]; rw [c17b0]) | skip)
           obtain ⟨ji18, hji18⟩ : ∃ j_ : Int, (mn ji7 (wrap64 ((wrap64 ((wrap64 (Int.tdiv (wrap64 ((wrap64 (((rd_T25 t445 x10_2).f0) + ((rd_T25 t445 x10_2).f1))) - 1)) a1)) + 1)) * a1))) = j_ := ⟨_, rfl⟩
           replace H : (r34_Align.j2 k2 a1 ji7 t445 x9_2 x10_2 (wrap64 ((wrap64 (Int.tdiv ((rd_T25 t445 x10_2).f0) a1)) * a1)) ji18) = some r := by first | (rw [hji18] at H; exact H) | (simp only [hji18] at H ⊢; exact H)
           have hji18_ : (if (wrap64 ((wrap64 ((wrap64 (Int.tdiv (wrap64 ((wrap64 (((rd_T25 t445 x10_2).f0) + ((rd_T25 t445 x10_2).f1))) - 1)) a1)) + 1)) * a1)) < ji7 then (wrap64 ((wrap64 ((wrap64 (Int.tdiv (wrap64 ((wrap64 (((rd_T25 t445 x10_2).f0) + ((rd_T25 t445 x10_2).f1))) - 1)) a1)) + 1)) * a1)) else ji7) = ji18 := hji18
           have H' := am H
           clear H
           go_wp2
           repeat (go_quiet (fail); try go_wp2)
           (try simp only [show (Value.int .i64 ji18) = .int .i64 (mn ji7 (wrap64 ((wrap64 ((wrap64 (Int.tdiv (wrap64 ((wrap64 (((rd_T25 t445 x10_2).f0) + ((rd_T25 t445 x10_2).f1))) - 1)) a1)) + 1)) * a1))) from by rw [hji18]])
           go_meet
           case rel => exact ⟨k2, (ji18), (by first | rfl | (simp; done) | (simp only [← hji18] <;> (first | rfl | simp)) | (simp [*]; done)), (by first | exact H' | (rw [hji18]; exact H') | (simp only [hji18]; exact H')), ⟨by have := HJ3.out; have := HK2.out; first | omega | exact Nat.le_refl _⟩, ⟨zR HO_8.out⟩, ⟨zR HO_9.out⟩, ⟨zB HB⟩⟩
          ·rw [if_neg c17] at H
           have c17b0 : decide (a1 ≤ 1125899906842624) = false := decide_eq_false c17
           clear c17
           (first | rw [c17b0] | (simp only [i64_w, i32_w]; rw [c17b0]) | skip)
           have H' := am H
           clear H
           go_wp2
           repeat (go_quiet (fail); try go_wp2)
           go_meet
           case rel => exact ⟨_, (ji7), (by first | rfl | (simp; done) | (simp only [← hji7] <;> (first | rfl | simp)) | (simp [*]; done)), H', ⟨by have := HJ3.out; have := HK2.out; first | omega | exact Nat.le_refl _⟩, ⟨zR HO_8.out⟩, ⟨zR HO_9.out⟩, ⟨zB HB⟩⟩
         case rest =>
          clear HC15
          try clear c1
          try clear p2
          try clear c3
          try clear p4
          try clear q4
          try clear hx4
          try clear c5
          try clear c5b0
          try clear c6
          try clear p6
          try clear c12
          try clear c12b0
          try clear c13
          try clear c13b0
          try clear c14
          try clear c14b0
          try clear c14b1
          try clear c17
          try clear c17b0
          try clear hx454_0
          try clear hx454_1
          try clear hx455_0
          try clear hx455_1
          try clear hx456_0
          try clear hx456_1
          try clear p2
          try clear p454
          try clear p455
          try clear p456
          try clear q454
          try clear q455
          try clear q456
          obtain ⟨kq, x13_14, rfl, HA, HJ14, HO_8, HO_9, HB⟩ := hcut
          cases kq with
          | zero => exact absurd HA.out (by simp [r34_Align.j2])
          | succ kj14 =>
           have H := HA.out
           clear HA
           simp only [r34_Align.j2] at H
           by_cases c19 : (wrap64 ((wrap64 (Int.tdiv ((rd_T25 t445 x10_2).f0) a1)) * a1)) < x13_14
           ·rw [if_pos c19] at H
            have c19b0 : decide ((wrap64 ((wrap64 (Int.tdiv ((rd_T25 t445 x10_2).f0) a1)) * a1)) < x13_14) = true := decide_eq_true c19
            clear c19
            by_cases c20 : x9_2.length < 8796093022208
            ·rw [if_pos c20] at H
             have LMc20 := am c20
             clear c20
             obtain ⟨y457, hy457⟩ : ∃ y_ : List (S25), y_ = (x9_2 ++ [(⟨(wrap64 ((wrap64 (Int.tdiv ((rd_T25 t445 x10_2).f0) a1)) * a1)), wrap64 (x13_14 - (wrap64 ((wrap64 (Int.tdiv ((rd_T25 t445 x10_2).f0) a1)) * a1)))⟩ : S25)]) := ⟨_, rfl⟩
             replace H : (r34_Align.l0 kj14 a1 ji7 t445 y457 (wrap64 (x10_2 + 1))) = some r := by first | (rw [hy457]; with_reducible exact H) | (have H2_ := (Option.bind_some _ _).symm.trans H; rw [hy457]; with_reducible exact H2_) | (have H2_ := (Option.bind_some _ _).symm.trans H; with_reducible exact H2_) | with_reducible exact H | (rw [hy457]; exact H) | exact H
             have Ny457 := am hy457
             clear hy457
             have H' := am H
             clear H
             go_wp2_with (first | ((with_reducible refine gate_builtin (b := .append) (xs := #[.tmp 66, .tmp 72]) rfl ?_); at_builtin; refine Kd.R_append k25 (w0 := w) w.heap.size rfl (.tmp 66) (.tmp 72) 38 25 (.agg #[(.int .i64 0), (.int .i64 0)]) 16 rfl Try.underlying38 info25 rfl (by decide) (by omega) u9 x9_2 (⟨(wrap64 ((wrap64 (Int.tdiv ((rd_T25 t445 x10_2).f0) a1)) * a1)), wrap64 (x13_14 - (wrap64 ((wrap64 (Int.tdiv ((rd_T25 t445 x10_2).f0) a1)) * a1)))⟩ : S25) [.int .i64 (wrap64 ((wrap64 (Int.tdiv ((rd_T25 t445 x10_2).f0) a1)) * a1)), .int .i64 (wrap64 (x13_14 - (wrap64 ((wrap64 (Int.tdiv ((rd_T25 t445 x10_2).f0) a1)) * a1))))] (fun k_ => some k_ ≠ (.slice (some ad454) t445.length co16 : Value).ownBlock) (fun _ => False) rfl rfl ?aP (fun _ hk => hk.elim) ?aF ?aO ?aB ?aS ?aL ?_; (case aP => exact k25_mkM _ _ _ (⟨(wrap64 ((wrap64 (Int.tdiv ((rd_T25 t445 x10_2).f0) a1)) * a1)), wrap64 (x13_14 - (wrap64 ((wrap64 (Int.tdiv ((rd_T25 t445 x10_2).f0) a1)) * a1)))⟩ : S25)); (case aB => exact (zB HB)); (case aF => exact (fun k_ hk => Kd.fresh' (Kd.R_lt (zR HO_8.out)) k_ hk)); (case aO => exact (zR HO_9.out)); (case aS => exact (below_size (zB HB))); (case aL => have := LMc20.out; omega); intro v458 w21 ho hb hg hat; rw [← Ny457.out] at ho; have n0_ := am (Kd.R_after (ok := (fun _ => True)) (by refine zR ?_; exact Kd.R_mono HO_8.out (fun _ hk => ⟨trivial, hk⟩)) hg hat); have n1_ := am (hb); have n2_ := am (ho); clear HO_8; clear HB; clear HO_9; have HO_8 := n0_; have HB := n1_; have HO459 := n2_; clear n0_ n1_ n2_; clear ho hb hg hat))
             repeat (go_quiet (first | ((with_reducible refine gate_builtin (b := .append) (xs := #[.tmp 66, .tmp 72]) rfl ?_); at_builtin; refine Kd.R_append k25 (w0 := w) w.heap.size rfl (.tmp 66) (.tmp 72) 38 25 (.agg #[(.int .i64 0), (.int .i64 0)]) 16 rfl Try.underlying38 info25 rfl (by decide) (by omega) u9 x9_2 (⟨(wrap64 ((wrap64 (Int.tdiv ((rd_T25 t445 x10_2).f0) a1)) * a1)), wrap64 (x13_14 - (wrap64 ((wrap64 (Int.tdiv ((rd_T25 t445 x10_2).f0) a1)) * a1)))⟩ : S25) [.int .i64 (wrap64 ((wrap64 (Int.tdiv ((rd_T25 t445 x10_2).f0) a1)) * a1)), .int .i64 (wrap64 (x13_14 - (wrap64 ((wrap64 (Int.tdiv ((rd_T25 t445 x10_2).f0) a1)) * a1))))] (fun k_ => some k_ ≠ (.slice (some ad454) t445.length co16 : Value).ownBlock) (fun _ => False) rfl rfl ?aP (fun _ hk => hk.elim) ?aF ?aO ?aB ?aS ?aL ?_; (case aP => exact k25_mkM _ _ _ (⟨(wrap64 ((wrap64 (Int.tdiv ((rd_T25 t445 x10_2).f0) a1)) * a1)), wrap64 (x13_14 - (wrap64 ((wrap64 (Int.tdiv ((rd_T25 t445 x10_2).f0) a1)) * a1)))⟩ : S25)); (case aB => exact (zB HB)); (case aF => exact (fun k_ hk => Kd.fresh' (Kd.R_lt (zR HO_8.out)) k_ hk)); (case aO => exact (zR HO_9.out)); (case aS => exact (below_size (zB HB))); (case aL => have := LMc20.out; omega); intro v458 w21 ho hb hg hat; rw [← Ny457.out] at ho; have n0_ := am (Kd.R_after (ok := (fun _ => True)) (by refine zR ?_; exact Kd.R_mono HO_8.out (fun _ hk => ⟨trivial, hk⟩)) hg hat); have n1_ := am (hb); have n2_ := am (ho); clear HO_8; clear HB; clear HO_9; have HO_8 := n0_; have HB := n1_; have HO459 := n2_; clear n0_ n1_ n2_; clear ho hb hg hat)); try go_wp2_with (first | ((with_reducible refine gate_builtin (b := .append) (xs := #[.tmp 66, .tmp 72]) rfl ?_); at_builtin; refine Kd.R_append k25 (w0 := w) w.heap.size rfl (.tmp 66) (.tmp 72) 38 25 (.agg #[(.int .i64 0), (.int .i64 0)]) 16 rfl Try.underlying38 info25 rfl (by decide) (by omega) u9 x9_2 (⟨(wrap64 ((wrap64 (Int.tdiv ((rd_T25 t445 x10_2).f0) a1)) * a1)), wrap64 (x13_14 - (wrap64 ((wrap64 (Int.tdiv ((rd_T25 t445 x10_2).f0) a1)) * a1)))⟩ : S25) [.int .i64 (wrap64 ((wrap64 (Int.tdiv ((rd_T25 t445 x10_2).f0) a1)) * a1)), .int .i64 (wrap64 (x13_14 - (wrap64 ((wrap64 (Int.tdiv ((rd_T25 t445 x10_2).f0) a1)) * a1))))] (fun k_ => some k_ ≠ (.slice (some ad454) t445.length co16 : Value).ownBlock) (fun _ => False) rfl rfl ?aP (fun _ hk => hk.elim) ?aF ?aO ?aB ?aS ?aL ?_; (case aP => exact k25_mkM _ _ _ (⟨(wrap64 ((wrap64 (Int.tdiv ((rd_T25 t445 x10_2).f0) a1)) * a1)), wrap64 (x13_14 - (wrap64 ((wrap64 (Int.tdiv ((rd_T25 t445 x10_2).f0) a1)) * a1)))⟩ : S25)); (case aB => exact (zB HB)); (case aF => exact (fun k_ hk => Kd.fresh' (Kd.R_lt (zR HO_8.out)) k_ hk)); (case aO => exact (zR HO_9.out)); (case aS => exact (below_size (zB HB))); (case aL => have := LMc20.out; omega); intro v458 w21 ho hb hg hat; rw [← Ny457.out] at ho; have n0_ := am (Kd.R_after (ok := (fun _ => True)) (by refine zR ?_; exact Kd.R_mono HO_8.out (fun _ hk => ⟨trivial, hk⟩)) hg hat); have n1_ := am (hb); have n2_ := am (ho); clear HO_8; clear HB; clear HO_9; have HO_8 := n0_; have HB := n1_; have HO459 := n2_; clear n0_ n1_ n2_; clear ho hb hg hat)))
             go_roundg kj14
             case measure => have := HJ3.out; have := HK2.out; have := HJ14.out; omega
             case rel => exact ⟨(y457), (wrap64 (x10_2 + 1)), zS, H', ⟨by have := HJ3.out; have := HK2.out; have := HJ14.out; omega⟩, ⟨by refine zR ?_; exact Kd.R_mono HO_8.out (fun _ hk => hk.2)⟩, ⟨zR HO459.out⟩, ⟨zB HB⟩⟩
            ·rw [if_neg c20] at H
             exact absurd H (by simp)
           ·rw [if_neg c19] at H
            have c19b0 : decide ((wrap64 ((wrap64 (Int.tdiv ((rd_T25 t445 x10_2).f0) a1)) * a1)) < x13_14) = false := decide_eq_false c19
            clear c19
            have H' := am H
            clear H
            go_wp2
            repeat (go_quiet (fail); try go_wp2)
            go_roundg kj14
            case measure => have := HJ3.out; have := HK2.out; have := HJ14.out; omega
            case rel => exact ⟨(x9_2), (wrap64 (x10_2 + 1)), zS, H', ⟨by have := HJ3.out; have := HK2.out; have := HJ14.out; omega⟩, ⟨zR HO_8.out⟩, ⟨zR HO_9.out⟩, ⟨zB HB⟩⟩
       ·rw [if_neg c13] at H
        exact absurd H (by simp)
      ·rw [if_neg c12] at H
       have c12b0 : decide (x10_2 < (t445.length : Int)) = false := decide_eq_false c12
       clear c12
       replace H := Option.bind_eq_some_iff.mp H
       obtain ⟨t451, A220, H⟩ := H
       replace H : (some t451) = some r := H
       have A22 := am A220
       clear A220
       obtain rfl := Option.some.inj H
       obtain ⟨Ao23, co23, eo23⟩ := Kd.R_slice HO_8.out
       subst eo23
       obtain ⟨Ao24, co24, eo24⟩ := Kd.R_slice HO_9.out
       subst eo24
       go_wp2_with (first | (go_at_call 37; (with_reducible refine (r34_Normal.calls k2 _ _ x9_2 t451 _ ?side1 ?side2 A22.out).mono ?_); (case side1 => exact zC (Kd.R_reads' HO_9.out).2.2); (case side2 => exact (Kd.R_reads' HO_9.out).2.1); rintro e w25 ⟨v452, rfl, ho0, hb⟩; have n0_ := am (Kd.R_elder' (zR HO_8.out) (Kd.R_base ho0) hb); have n1_ := am (Kd.R_elder' (zR HO_9.out) (Kd.R_base ho0) hb); have n2_ := am (Kd.R_lower (Kd.R_new' (Kd.R_new' ho0 (Kd.R_lt (zR HO_8.out))) (Kd.R_lt (zR HO_9.out))) (below_size (zB HB))); have n3_ := am (below_step (zB HB) hb); clear HO_8; clear HO_9; clear HB; have HO_8 := n0_; have HO_9 := n1_; have HO453 := n2_; have HB := n3_; clear n0_ n1_ n2_ n3_; (try clear hb); (try clear hb2); (try clear hk); (try clear hi); (try clear ho0)))
       repeat (go_quiet (first | (go_at_call 37; (with_reducible refine (r34_Normal.calls k2 _ _ x9_2 t451 _ ?side1 ?side2 A22.out).mono ?_); (case side1 => exact zC (Kd.R_reads' HO_9.out).2.2); (case side2 => exact (Kd.R_reads' HO_9.out).2.1); rintro e w25 ⟨v452, rfl, ho0, hb⟩; have n0_ := am (Kd.R_elder' (zR HO_8.out) (Kd.R_base ho0) hb); have n1_ := am (Kd.R_elder' (zR HO_9.out) (Kd.R_base ho0) hb); have n2_ := am (Kd.R_lower (Kd.R_new' (Kd.R_new' ho0 (Kd.R_lt (zR HO_8.out))) (Kd.R_lt (zR HO_9.out))) (below_size (zB HB))); have n3_ := am (below_step (zB HB) hb); clear HO_8; clear HO_9; clear HB; have HO_8 := n0_; have HO_9 := n1_; have HO453 := n2_; have HB := n3_; clear n0_ n1_ n2_ n3_; (try clear hb); (try clear hb2); (try clear hk); (try clear hi); (try clear ho0))); try go_wp2_with (first | (go_at_call 37; (with_reducible refine (r34_Normal.calls k2 _ _ x9_2 t451 _ ?side1 ?side2 A22.out).mono ?_); (case side1 => exact zC (Kd.R_reads' HO_9.out).2.2); (case side2 => exact (Kd.R_reads' HO_9.out).2.1); rintro e w25 ⟨v452, rfl, ho0, hb⟩; have n0_ := am (Kd.R_elder' (zR HO_8.out) (Kd.R_base ho0) hb); have n1_ := am (Kd.R_elder' (zR HO_9.out) (Kd.R_base ho0) hb); have n2_ := am (Kd.R_lower (Kd.R_new' (Kd.R_new' ho0 (Kd.R_lt (zR HO_8.out))) (Kd.R_lt (zR HO_9.out))) (below_size (zB HB))); have n3_ := am (below_step (zB HB) hb); clear HO_8; clear HO_9; clear HB; have HO_8 := n0_; have HO_9 := n1_; have HO453 := n2_; have HB := n3_; clear n0_ n1_ n2_ n3_; (try clear hb); (try clear hb2); (try clear hk); (try clear hi); (try clear ho0))))
       go_ret
       exact ⟨_, by first | rfl | (simp [errW_none, errW_some] <;> rfl) | (simp only [← hji7]; first | rfl | (simp [errW_none, errW_some] <;> rfl)) | (simp [*, errW_none, errW_some] <;> rfl), by refine zR ?_; exact Kd.R_mono HO453.out (fun _ hk => trivial), by repeat (first | (with_reducible first | exact HB.out | apply below_alloc | apply pw_below_drewN | apply below_drew1) | exact HB.out)⟩

/-! ### r36_Requests: function 15 -/
def r36_Requests.f (k : Nat) (l0 : List (S25)) (a1_0 : Int) (a1_1 : Int) (a2 : Int) (a3 : Int) : Option ((List (S25))) := (r34_Union.f k l0 (([(⟨a1_0, a1_1⟩ : S25)] : List (S25)))).bind fun t464 => ((r34_Align.f k t464 64 a2).bind fun t467 => ((r34_Gaps.f k t467 a3).bind fun t470 => (some t470)))
theorem r36_Requests.mono : ∀ a0 a1 a2 a3 a4 k, LeO (r36_Requests.f k a0 a1 a2 a3 a4) (r36_Requests.f (k + 1) a0 a1 a2 a3 a4) := by
 intro a0 a1 a2 a3 a4 k
 unfold r36_Requests.f
 repeat' first
   | (with_reducible exact r34_Align.mono _ _ _ _)
   | (with_reducible exact r34_Gaps.mono _ _ _)
   | (with_reducible exact r34_Union.mono _ _ _)
   | (with_reducible exact LeO.refl _)
   | (with_reducible exact LeO.none _)
   | (with_reducible refine LeO.ite ?_ ?_)
   | (with_reducible refine LeO.bind ?_ (fun _ => ?_))
   | exact r34_Align.mono _ _ _ _
   | exact r34_Gaps.mono _ _ _
   | exact r34_Union.mono _ _ _
   | exact LeO.none _
   | refine LeO.ite ?_ ?_
   | refine LeO.bind ?_ (fun _ => ?_)
set_option maxHeartbeats 8000000 in
set_option maxRecDepth 100000 in
theorem r36_Requests.calls (k : Nat) (A0 : Option Addr) (c0 : Nat) (l0 : List (S25)) (a1_0 : Int) (a1_1 : Int) (a2 : Int) (a3 : Int) (r : List (S25)) (w : World) (hr0 : Kd.C k25 w A0 l0.length l0) (hc0 : l0.length ≤ c0) (h : r36_Requests.f k l0 a1_0 a1_1 a2 a3 = some r) :
  Calls Try.prog 15 #[.slice A0 l0.length c0, .agg #[.int .i64 a1_0, .int .i64 a1_1], .int .i64 a2, .int .i64 a3] w fun e w' => ∃ v0_ : Value, e = .returned (v0_) ∧ Kd.R k25 25 w' w.heap.size (fun _ => True) v0_ r ∧ Below w.heap.size w w' := by
 have hu25 := Try.underlying25
 have HR0 := am hr0
 have HC0 := am hc0
 clear hr0 hc0
 have HB := am (Below.refl w.heap.size w)
 have H : ((r34_Union.f k l0 (([(⟨a1_0, a1_1⟩ : S25)] : List (S25)))).bind fun t464 => ((r34_Align.f k t464 64 a2).bind fun t467 => ((r34_Gaps.f k t467 a3).bind fun t470 => (some t470)))) = some r := h
 clear h
 obtain ⟨y461, hy461⟩ : ∃ y_ : List (S25), y_ = (([(⟨a1_0, a1_1⟩ : S25)] : List (S25))) := ⟨_, rfl⟩
 replace H : ((r34_Union.f k l0 y461).bind fun t464 => ((r34_Align.f k t464 64 a2).bind fun t467 => ((r34_Gaps.f k t467 a3).bind fun t470 => (some t470)))) = some r := by first | (rw [hy461]; with_reducible exact H) | (have H2_ := (Option.bind_some _ _).symm.trans H; rw [hy461]; with_reducible exact H2_) | (have H2_ := (Option.bind_some _ _).symm.trans H; with_reducible exact H2_) | with_reducible exact H | (rw [hy461]; exact H) | exact H
 have Ny461 := am hy461
 clear hy461
 replace H := Option.bind_eq_some_iff.mp H
 obtain ⟨t464, A50, H⟩ := H
 replace H : ((r34_Align.f k t464 64 a2).bind fun t467 => ((r34_Gaps.f k t467 a3).bind fun t470 => (some t470))) = some r := H
 have A5 := am A50
 clear A50
 replace H := Option.bind_eq_some_iff.mp H
 obtain ⟨t467, A60, H⟩ := H
 replace H : ((r34_Gaps.f k t467 a3).bind fun t470 => (some t470)) = some r := H
 have A6 := am A60
 clear A60
 replace H := Option.bind_eq_some_iff.mp H
 obtain ⟨t470, A70, H⟩ := H
 replace H : (some t470) = some r := H
 have A7 := am A70
 clear A70
 obtain rfl := Option.some.inj H
 go_enter Try.func15, Try.ntmps15
 go_wp2_with (first | ((with_reducible refine gate_dst (N := 5) rfl ?_); refine box_event ?hg (N := 5) ?hd (cs := #[.int .i64 a1_0, .int .i64 a1_1]) (t := 25) ?hr ?_; (case hd => rfl); (case hg => rfl); (case hr => first | (go_simp; done) | (go_simp; rfl)); intro gb460 hg w8 hbox hb; have n0_ := am (below_step (zB HB) hb); have n1_ := am (hbox); have n2_ := am ((by rw [hg]; exact (below_size (zB HB)) : w.heap.size ≤ gb460)); have n3_ := am ((by rw [hg]; exact (below_size (zB HB)) : w.heap.size ≤ gb460)); clear HB; have HB := n0_; have BK460 := n1_; have GW460 := n2_; have GE460 := n3_; clear n0_ n1_ n2_ n3_; clear hb hbox hg; have hcz9_0 : w8.cell? ⟨gb460, 0, none⟩ = some (.int .i64 a1_0) := (blk_cell BK460.out 0).trans rfl; have hcz9_1 : w8.cell? ⟨gb460, 1, none⟩ = some (.int .i64 a1_1) := (blk_cell BK460.out 1).trans rfl; have hfz9_0 := blk_frozen BK460.out 0; have hfz9_1 := blk_frozen BK460.out 1) | ((with_reducible refine gate_dst (N := 12) rfl ?_); refine Kd.R_lit k25 _ 25 ?hg (N := 12) ?hd (xs := ([(⟨a1_0, a1_1⟩ : S25)] : List (S25))) (inner := [.int .i64 a1_0, .int .i64 a1_1]) (ok := fun _ => True) (okp := fun _ => True) ?hr ?hp (fun _ hk => hk) trivial (Below.refl _ _) (Nat.le_refl _) (by simp) ?_; (case hd => rfl); (case hg => rfl); (case hr => first | (go_simp; done) | (go_simp; rfl)); (case hp => exact (Reps.c2 (show Kd.M k25 _ _ _ (⟨a1_0, a1_1⟩ : S25) [.int .i64 a1_0, .int .i64 a1_1] from (k25_mkM _ _ _ (⟨a1_0, a1_1⟩ : S25) )) (Reps.none _ _))); intro v462 w10 ho11 hb hg_ hnew_; clear hg_ hnew_; (first | rw [← Ny461.out] at ho11 | (simp only [Int.reduceToNat] at ho11; rw [← Ny461.out] at ho11)); have n0_ := am (Kd.R_lower (Kd.R_newB ho11 (g := gb460) (o := .cells #[.int .i64 a1_0, .int .i64 a1_1] 25 (0, 0)) (zL BK460.out)) (below_size (zG HB GE460))); have n1_ := am (blk_below (g := gb460) (o := .cells #[.int .i64 a1_0, .int .i64 a1_1] 25 (0, 0)) (zL BK460.out) hb); have n2_ := am (below_step (zG HB GE460) hb); clear BK460; clear HB; have HO463 := n0_; have BK460 := n1_; have HB := n2_; clear n0_ n1_ n2_; clear hb ho11; obtain ⟨Ao12, co12, eo12⟩ := Kd.R_slice HO463.out; subst eo12) | ((with_reducible refine gate_callee (f := 30) rfl ?_); refine goesL_ (some 13) rfl rfl Try.func30 (by kernel_rfl) rfl #[.slice A0 l0.length c0, .slice Ao12 y461.length co12] rfl zM ?_; (with_reducible refine (r34_Union.calls k _ _ l0 _ _ y461 t464 _ ?side1 ?side2 ?side3 ?side4 A5.out).mono ?_); (case side1 => exact zC (Kd.C_below HR0.out HB.out)); (case side2 => exact HC0.out); (case side3 => exact zC (Kd.R_reads' HO463.out).2.2); (case side4 => exact (Kd.R_reads' HO463.out).2.1); rintro e w13 ⟨v465, rfl, ho0, hb⟩; refine ⟨_, rfl, ?_⟩; have n0_ := am (Kd.R_elder' (zR HO463.out) (Kd.R_base ho0) hb); have n1_ := am (Kd.R_lower (Kd.R_newB (Kd.R_new' ho0 (Kd.R_lt (zR HO463.out))) (g := gb460) (o := .cells #[.int .i64 a1_0, .int .i64 a1_1] 25 (0, 0)) (zL BK460.out)) (below_size (zG HB GE460))); have n2_ := am (blk_below (g := gb460) (o := .cells #[.int .i64 a1_0, .int .i64 a1_1] 25 (0, 0)) (zL BK460.out) hb); have n3_ := am (below_step (zG HB GE460) hb); clear HO463; clear BK460; clear HB; have HO463 := n0_; have HO466 := n1_; have BK460 := n2_; have HB := n3_; clear n0_ n1_ n2_ n3_; (try clear hb); (try clear hb2); (try clear hk); (try clear hi); (try clear ho0); obtain ⟨Ao14, co14, eo14⟩ := Kd.R_slice HO466.out; subst eo14) | ((with_reducible refine gate_callee (f := 32) rfl ?_); refine goesL_ (some 16) rfl rfl Try.func32 (by kernel_rfl) rfl #[.slice Ao14 t464.length co14, .int .i64 64, .int .i64 a2] rfl zM ?_; (with_reducible refine (r34_Align.calls k _ _ t464 64 a2 t467 _ ?side1 ?side2 A6.out).mono ?_); (case side1 => exact zC (Kd.R_reads' HO466.out).2.2); (case side2 => exact (Kd.R_reads' HO466.out).2.1); rintro e w15 ⟨v468, rfl, ho0, hb⟩; refine ⟨_, rfl, ?_⟩; have n0_ := am (Kd.R_elder' (zR HO463.out) (Kd.R_base ho0) hb); have n1_ := am (Kd.R_elder' (zR HO466.out) (Kd.R_base ho0) hb); have n2_ := am (Kd.R_lower (Kd.R_newB (Kd.R_new' (Kd.R_new' ho0 (Kd.R_lt (zR HO463.out))) (Kd.R_lt (zR HO466.out))) (g := gb460) (o := .cells #[.int .i64 a1_0, .int .i64 a1_1] 25 (0, 0)) (zL BK460.out)) (below_size (zG HB GE460))); have n3_ := am (blk_below (g := gb460) (o := .cells #[.int .i64 a1_0, .int .i64 a1_1] 25 (0, 0)) (zL BK460.out) hb); have n4_ := am (below_step (zG HB GE460) hb); clear HO463; clear HO466; clear BK460; clear HB; have HO463 := n0_; have HO466 := n1_; have HO469 := n2_; have BK460 := n3_; have HB := n4_; clear n0_ n1_ n2_ n3_ n4_; (try clear hb); (try clear hb2); (try clear hk); (try clear hi); (try clear ho0); obtain ⟨Ao16, co16, eo16⟩ := Kd.R_slice HO469.out; subst eo16) | ((with_reducible refine gate_callee (f := 31) rfl ?_); refine goesL_ (some 18) rfl rfl Try.func31 (by kernel_rfl) rfl #[.slice Ao16 t467.length co16, .int .i64 a3] rfl zM ?_; (with_reducible refine (r34_Gaps.calls k _ _ t467 a3 t470 _ ?side1 ?side2 A7.out).mono ?_); (case side1 => exact zC (Kd.R_reads' HO469.out).2.2); (case side2 => exact (Kd.R_reads' HO469.out).2.1); rintro e w17 ⟨v471, rfl, ho0, hb⟩; refine ⟨_, rfl, ?_⟩; have n0_ := am (Kd.R_elder' (zR HO463.out) (Kd.R_base ho0) hb); have n1_ := am (Kd.R_elder' (zR HO466.out) (Kd.R_base ho0) hb); have n2_ := am (Kd.R_elder' (zR HO469.out) (Kd.R_base ho0) hb); have n3_ := am (Kd.R_lower (Kd.R_newB (Kd.R_new' (Kd.R_new' (Kd.R_new' ho0 (Kd.R_lt (zR HO463.out))) (Kd.R_lt (zR HO466.out))) (Kd.R_lt (zR HO469.out))) (g := gb460) (o := .cells #[.int .i64 a1_0, .int .i64 a1_1] 25 (0, 0)) (zL BK460.out)) (below_size (zG HB GE460))); have n4_ := am (blk_below (g := gb460) (o := .cells #[.int .i64 a1_0, .int .i64 a1_1] 25 (0, 0)) (zL BK460.out) hb); have n5_ := am (below_step (zG HB GE460) hb); clear HO463; clear HO466; clear HO469; clear BK460; clear HB; have HO463 := n0_; have HO466 := n1_; have HO469 := n2_; have HO472 := n3_; have BK460 := n4_; have HB := n5_; clear n0_ n1_ n2_ n3_ n4_ n5_; (try clear hb); (try clear hb2); (try clear hk); (try clear hi); (try clear ho0)))
 go_ret
 exact ⟨_, by first | rfl | (simp [errW_none, errW_some] <;> rfl) | (simp [*, errW_none, errW_some] <;> rfl), by refine zR ?_; exact Kd.R_mono HO472.out (fun _ hk => trivial), zG HB GE460⟩

/-! ### r34_Same: function 16 -/
def r34_Same.l0 : Nat → List (S25) → List (S25) → Int → Option (Bool)
 | 0, _, _, _ => none
 | k + 1, x0, x1, x5 => if x5 < (x0.length : Int) then (if 0 ≤ x5 then (if x5 < (x1.length : Int) then (if (!(((rd_T25 x0 x5).f0) == ((rd_T25 x1 x5).f0)) || (!(((rd_T25 x0 x5).f1) == ((rd_T25 x1 x5).f1)))) = true then (some false) else (r34_Same.l0 k x0 x1 (wrap64 (x5 + 1)))) else (none)) else (none)) else (some true)
def r34_Same.f (k : Nat) (l0 : List (S25)) (l1 : List (S25)) : Option (Bool) := if (l0.length : Int) = (l1.length : Int) then (r34_Same.l0 k l0 l1 0) else (some false)
theorem r34_Same.mono_l : ∀ k, (∀ y0 y1 y2, LeO (r34_Same.l0 k y0 y1 y2) (r34_Same.l0 (k + 1) y0 y1 y2))
 | 0 => fun _ _ _ r h => by simp [r34_Same.l0] at h
 | k + 1 => by
  have ih0 := r34_Same.mono_l k
  ·intro y0 y1 y2
   unfold r34_Same.l0
   repeat' first
   | (with_reducible exact ih0 _ _ _)
   | (with_reducible exact LeO.refl _)
   | (with_reducible exact LeO.none _)
   | (with_reducible refine LeO.ite ?_ ?_)
   | (with_reducible refine LeO.bind ?_ (fun _ => ?_))
   | exact ih0 _ _ _
   | exact LeO.none _
   | refine LeO.ite ?_ ?_
   | refine LeO.bind ?_ (fun _ => ?_)
theorem r34_Same.mono : ∀ a0 a1 k, LeO (r34_Same.f k a0 a1) (r34_Same.f (k + 1) a0 a1) := by
 intro a0 a1 k
 have ih0 := r34_Same.mono_l k
 unfold r34_Same.f
 repeat' first
   | (with_reducible exact ih0 _ _ _)
   | (with_reducible exact LeO.refl _)
   | (with_reducible exact LeO.none _)
   | (with_reducible refine LeO.ite ?_ ?_)
   | (with_reducible refine LeO.bind ?_ (fun _ => ?_))
   | exact ih0 _ _ _
   | exact LeO.none _
   | refine LeO.ite ?_ ?_
   | refine LeO.bind ?_ (fun _ => ?_)
set_option maxHeartbeats 8000000 in
set_option maxRecDepth 100000 in
theorem r34_Same.calls (k : Nat) (A0 : Option Addr) (c0 : Nat) (l0 : List (S25)) (A1 : Option Addr) (c1 : Nat) (l1 : List (S25)) (r : Bool) (w : World) (hr0 : Kd.C k25 w A0 l0.length l0) (hc0 : l0.length ≤ c0) (hr1 : Kd.C k25 w A1 l1.length l1) (hc1 : l1.length ≤ c1) (h : r34_Same.f k l0 l1 = some r) :
  Calls Try.prog 16 #[.slice A0 l0.length c0, .slice A1 l1.length c1] w fun e w' => e = .returned (.bool r) ∧ Drawn0 w w' := by
 have hu25 := Try.underlying25
 have HR0 := am hr0
 have HC0 := am hc0
 clear hr0 hc0
 have HR1 := am hr1
 have HC1 := am hc1
 clear hr1 hc1
 have H : (if (l0.length : Int) = (l1.length : Int) then (r34_Same.l0 k l0 l1 0) else (some false)) = some r := h
 clear h
 by_cases c3 : (l0.length : Int) = (l1.length : Int)
 ·rw [if_pos c3] at H
  have c3b0 : ((l0.length : Int) == (l1.length : Int)) = true := beq_iff_eq.mpr c3
  have c3b1 : ((l0.length : Int) != (l1.length : Int)) = false := bne_eq_false_iff_eq.mpr c3
  have c3b2 : (l0.length == l1.length) = true := by first | simpa using c3 | (simp at c3 ⊢; omega)
  clear c3
  have H' := am H
  clear H
  go_enter Try.func16, Try.ntmps16
  go_wp2
  repeat (go_quiet (fail); try go_wp2)
  go_loopg [5] k (fun kq v5 w' => ∃ (x5_1 : Int), v5 = .int .i64 x5_1 ∧ Aside0 (r34_Same.l0 kq l0 l1 x5_1 = some r) ∧ Aside0 (kq ≤ k) ∧ Drawn0 w w')
  case atStart => exact ⟨(0), zS, H', ⟨Nat.le_refl _⟩, by repeat (first | exact Drawn0.refl _ | apply Drawn0.step)⟩
  case round =>
   clear H'
   try clear c1
   try clear p2
   try clear c3
   try clear c3b0
   try clear c3b1
   try clear c3b2
   obtain ⟨x5_1, rfl, HA, HK1, ⟨m1, rfl⟩⟩ := hrel
   cases gk with
   | zero => exact absurd HA.out (by simp [r34_Same.l0])
   | succ k1 =>
    have H := HA.out
    clear HA
    simp only [r34_Same.l0] at H
    by_cases c4 : x5_1 < (l0.length : Int)
    ·rw [if_pos c4] at H
     have c4b0 : decide (x5_1 < (l0.length : Int)) = true := decide_eq_true c4
     clear c4
     by_cases c5 : 0 ≤ x5_1
     ·rw [if_pos c5] at H
      have c5b0 : decide (0 ≤ x5_1) = true := decide_eq_true c5
      clear c5
      by_cases c6 : x5_1 < (l1.length : Int)
      ·rw [if_pos c6] at H
       have c6b0 : decide (x5_1 < (l1.length : Int)) = true := decide_eq_true c6
       clear c6
       by_cases c7 : (!(((rd_T25 l0 x5_1).f0) == ((rd_T25 l1 x5_1).f0)) || (!(((rd_T25 l0 x5_1).f1) == ((rd_T25 l1 x5_1).f1)))) = true
       ·rw [if_pos c7] at H
        have c7b0 : (!(((rd_T25 l0 x5_1).f0) == ((rd_T25 l1 x5_1).f0)) || (!(((rd_T25 l0 x5_1).f1) == ((rd_T25 l1 x5_1).f1)))) = true := c7
        clear c7
        obtain rfl := Option.some.inj H
        have p473 : 0 ≤ (x5_1 : Int) := of_decide_eq_true zA
        have q473 : x5_1 < (l0.length : Int) := of_decide_eq_true zA
        obtain ⟨ad473, e473, hx473_0, hx473_1⟩ := at_T25 HR0.out x5_1 p473 q473
        cases e473
        replace p473 := eq_true p473
        replace q473 := eq_true q473
        have p474 : 0 ≤ (x5_1 : Int) := of_decide_eq_true zA
        have q474 : x5_1 < (l1.length : Int) := of_decide_eq_true zA
        obtain ⟨ad474, e474, hx474_0, hx474_1⟩ := at_T25 HR1.out x5_1 p474 q474
        cases e474
        replace p474 := eq_true p474
        replace q474 := eq_true q474
        go_wp2
        repeat (go_quiet (fail); try go_wp2)
        go_ret
        exact ⟨by first | rfl | (simp; done) | (simp [*]; done), by repeat (first | exact Drawn0.refl _ | apply Drawn0.step)⟩
       ·rw [if_neg c7] at H
        have c7b0 : (!(((rd_T25 l0 x5_1).f0) == ((rd_T25 l1 x5_1).f0)) || (!(((rd_T25 l0 x5_1).f1) == ((rd_T25 l1 x5_1).f1)))) = false := by simpa using c7
        clear c7
        have H' := am H
        clear H
        have p473 : 0 ≤ (x5_1 : Int) := of_decide_eq_true zA
        have q473 : x5_1 < (l0.length : Int) := of_decide_eq_true zA
        obtain ⟨ad473, e473, hx473_0, hx473_1⟩ := at_T25 HR0.out x5_1 p473 q473
        cases e473
        replace p473 := eq_true p473
        replace q473 := eq_true q473
        have p474 : 0 ≤ (x5_1 : Int) := of_decide_eq_true zA
        have q474 : x5_1 < (l1.length : Int) := of_decide_eq_true zA
        obtain ⟨ad474, e474, hx474_0, hx474_1⟩ := at_T25 HR1.out x5_1 p474 q474
        cases e474
        replace p474 := eq_true p474
        replace q474 := eq_true q474
        go_wp2
        repeat (go_quiet (fail); try go_wp2)
        go_roundg k1
        case measure => have := HK1.out; omega
        case rel => exact ⟨(wrap64 (x5_1 + 1)), zS, H', ⟨by have := HK1.out; omega⟩, by repeat (first | exact Drawn0.refl _ | apply Drawn0.step)⟩
      ·rw [if_neg c6] at H
       exact absurd H (by simp)
     ·rw [if_neg c5] at H
      exact absurd H (by simp)
    ·rw [if_neg c4] at H
     have c4b0 : decide (x5_1 < (l0.length : Int)) = false := decide_eq_false c4
     clear c4
     obtain rfl := Option.some.inj H
     go_wp2
     repeat (go_quiet (fail); try go_wp2)
     go_ret
     exact ⟨by first | rfl | (simp; done) | (simp [*]; done), by repeat (first | exact Drawn0.refl _ | apply Drawn0.step)⟩
 ·rw [if_neg c3] at H
  have c3b0 : ((l0.length : Int) == (l1.length : Int)) = false := beq_eq_false_iff_ne.mpr c3
  have c3b1 : ((l0.length : Int) != (l1.length : Int)) = true := bne_iff_ne.mpr c3
  have c3b2 : (l0.length == l1.length) = false := by first | simpa using c3 | (simp at c3 ⊢; omega)
  obtain rfl := Option.some.inj H
  go_enter Try.func16, Try.ntmps16
  go_wp2
  repeat (go_quiet (fail); try go_wp2)
  go_ret
  exact ⟨by first | rfl | (simp; done) | (simp [*]; done), by repeat (first | exact Drawn0.refl _ | apply Drawn0.step)⟩

/-! ### r34_Subtract: function 24 -/
def r34_Subtract.f (k : Nat) (l0 : List (S25)) (l1 : List (S25)) : Option ((List (S25))) := (r34_combine.f k l0 l1 3).bind fun t475 => (some t475)
theorem r34_Subtract.mono : ∀ a0 a1 k, LeO (r34_Subtract.f k a0 a1) (r34_Subtract.f (k + 1) a0 a1) := by
 intro a0 a1 k
 unfold r34_Subtract.f
 repeat' first
   | (with_reducible exact r34_combine.mono _ _ _ _)
   | (with_reducible exact LeO.refl _)
   | (with_reducible exact LeO.none _)
   | (with_reducible refine LeO.ite ?_ ?_)
   | (with_reducible refine LeO.bind ?_ (fun _ => ?_))
   | exact r34_combine.mono _ _ _ _
   | exact LeO.none _
   | refine LeO.ite ?_ ?_
   | refine LeO.bind ?_ (fun _ => ?_)
set_option maxHeartbeats 8000000 in
set_option maxRecDepth 100000 in
theorem r34_Subtract.calls (k : Nat) (A0 : Option Addr) (c0 : Nat) (l0 : List (S25)) (A1 : Option Addr) (c1 : Nat) (l1 : List (S25)) (r : List (S25)) (w : World) (hr0 : Kd.C k25 w A0 l0.length l0) (hc0 : l0.length ≤ c0) (hr1 : Kd.C k25 w A1 l1.length l1) (hc1 : l1.length ≤ c1) (h : r34_Subtract.f k l0 l1 = some r) :
  Calls Try.prog 24 #[.slice A0 l0.length c0, .slice A1 l1.length c1] w fun e w' => ∃ v0_ : Value, e = .returned (v0_) ∧ Kd.R k25 25 w' w.heap.size (fun _ => True) v0_ r ∧ Below w.heap.size w w' := by
 have HR0 := am hr0
 have HC0 := am hc0
 clear hr0 hc0
 have HR1 := am hr1
 have HC1 := am hc1
 clear hr1 hc1
 have HB := am (Below.refl w.heap.size w)
 have H : ((r34_combine.f k l0 l1 3).bind fun t475 => (some t475)) = some r := h
 clear h
 replace H := Option.bind_eq_some_iff.mp H
 obtain ⟨t475, A30, H⟩ := H
 replace H : (some t475) = some r := H
 have A3 := am A30
 clear A30
 obtain rfl := Option.some.inj H
 go_enter Try.func24, Try.ntmps24
 go_wp2_with (first | ((with_reducible refine gate_callee (f := 36) rfl ?_); refine goesL_ (some 7) rfl rfl Try.func36 (by kernel_rfl) rfl #[.slice A0 l0.length c0, .slice A1 l1.length c1, .int .i64 3] rfl zM ?_; (with_reducible refine (r34_combine.calls k _ _ l0 _ _ l1 3 t475 _ ?side1 ?side2 ?side3 ?side4 A3.out).mono ?_); (case side1 => repeat (first | exact HR0.out | (with_reducible refine Kd.C_alloc ?_ _) | (with_reducible refine Kd.C_drewN ?_ _) | (with_reducible refine Kd.C_drew ?_))); (case side2 => exact HC0.out); (case side3 => repeat (first | exact HR1.out | (with_reducible refine Kd.C_alloc ?_ _) | (with_reducible refine Kd.C_drewN ?_ _) | (with_reducible refine Kd.C_drew ?_))); (case side4 => exact HC1.out); rintro e w4 ⟨v476, rfl, ho0, hb⟩; refine ⟨_, rfl, ?_⟩; have n0_ := am (Kd.R_lower ho0 (below_size (zB HB))); have n1_ := am (below_step (zB HB) hb); clear HB; have HO477 := n0_; have HB := n1_; clear n0_ n1_; (try clear hb); (try clear hb2); (try clear hk); (try clear hi); (try clear ho0)))
 go_ret
 exact ⟨_, by first | rfl | (simp [errW_none, errW_some] <;> rfl) | (simp [*, errW_none, errW_some] <;> rfl), by refine zR ?_; exact HO477.out, by repeat (first | (with_reducible first | exact HB.out | apply below_alloc | apply pw_below_drewN | apply below_drew1) | exact HB.out)⟩

/-! ### r34_Total: function 25 -/
def r34_Total.l0 : Nat → Int → List (S25) → Int → Option (Int)
 | 0, _, _, _ => none
 | k + 1, x3, x4, x5 => if x5 < (x4.length : Int) then (if 0 ≤ x5 then (r34_Total.l0 k (wrap64 (x3 + ((rd_T25 x4 x5).f1))) x4 (wrap64 (x5 + 1))) else (none)) else (some x3)
def r34_Total.f (k : Nat) (l0 : List (S25)) : Option (Int) := (r34_Normal.f k l0).bind fun t478 => (r34_Total.l0 k 0 t478 0)
theorem r34_Total.mono_l : ∀ k, (∀ y0 y1 y2, LeO (r34_Total.l0 k y0 y1 y2) (r34_Total.l0 (k + 1) y0 y1 y2))
 | 0 => fun _ _ _ r h => by simp [r34_Total.l0] at h
 | k + 1 => by
  have ih0 := r34_Total.mono_l k
  ·intro y0 y1 y2
   unfold r34_Total.l0
   repeat' first
   | (with_reducible exact ih0 _ _ _)
   | (with_reducible exact r34_Normal.mono _ _)
   | (with_reducible exact LeO.refl _)
   | (with_reducible exact LeO.none _)
   | (with_reducible refine LeO.ite ?_ ?_)
   | (with_reducible refine LeO.bind ?_ (fun _ => ?_))
   | exact ih0 _ _ _
   | exact r34_Normal.mono _ _
   | exact LeO.none _
   | refine LeO.ite ?_ ?_
   | refine LeO.bind ?_ (fun _ => ?_)
theorem r34_Total.mono : ∀ a0 k, LeO (r34_Total.f k a0) (r34_Total.f (k + 1) a0) := by
 intro a0 k
 have ih0 := r34_Total.mono_l k
 unfold r34_Total.f
 repeat' first
   | (with_reducible exact ih0 _ _ _)
   | (with_reducible exact r34_Normal.mono _ _)
   | (with_reducible exact LeO.refl _)
   | (with_reducible exact LeO.none _)
   | (with_reducible refine LeO.ite ?_ ?_)
   | (with_reducible refine LeO.bind ?_ (fun _ => ?_))
   | exact ih0 _ _ _
   | exact r34_Normal.mono _ _
   | exact LeO.none _
   | refine LeO.ite ?_ ?_
   | refine LeO.bind ?_ (fun _ => ?_)
set_option maxHeartbeats 8000000 in
set_option maxRecDepth 100000 in
theorem r34_Total.calls (k : Nat) (A0 : Option Addr) (c0 : Nat) (l0 : List (S25)) (r : Int) (w : World) (hr0 : Kd.C k25 w A0 l0.length l0) (hc0 : l0.length ≤ c0) (h : r34_Total.f k l0 = some r) :
  Calls Try.prog 25 #[.slice A0 l0.length c0] w fun e w' => e = .returned (.int .i64 r) ∧ Below w.heap.size w w' := by
 have HR0 := am hr0
 have HC0 := am hc0
 clear hr0 hc0
 have HB := am (Below.refl w.heap.size w)
 have H : ((r34_Normal.f k l0).bind fun t478 => (r34_Total.l0 k 0 t478 0)) = some r := h
 clear h
 replace H := Option.bind_eq_some_iff.mp H
 obtain ⟨t478, A20, H⟩ := H
 replace H : (r34_Total.l0 k 0 t478 0) = some r := H
 have A2 := am A20
 clear A20
 have H' := am H
 clear H
 go_enter Try.func25, Try.ntmps25
 go_wp2_with (first | ((with_reducible refine gate_callee (f := 37) rfl ?_); refine goesL_ (some 7) rfl rfl Try.func37 (by kernel_rfl) rfl #[.slice A0 l0.length c0] rfl zM ?_; (with_reducible refine (r34_Normal.calls k _ _ l0 t478 _ ?side1 ?side2 A2.out).mono ?_); (case side1 => repeat (first | exact HR0.out | (with_reducible refine Kd.C_alloc ?_ _) | (with_reducible refine Kd.C_drewN ?_ _) | (with_reducible refine Kd.C_drew ?_))); (case side2 => exact HC0.out); rintro e w3 ⟨v479, rfl, ho0, hb⟩; refine ⟨_, rfl, ?_⟩; have n0_ := am (Kd.R_lower ho0 (below_size (zB HB))); have n1_ := am (below_step (zB HB) hb); clear HB; have HO480 := n0_; have HB := n1_; clear n0_ n1_; (try clear hb); (try clear hb2); (try clear hk); (try clear hi); (try clear ho0)))
 go_loopg [3, 5] k (fun kq v3 v5 w' => ∃ (x3_1 : Int) (x5_1 : Int), v3 = .int .i64 x3_1 ∧ v5 = .int .i64 x5_1 ∧ Aside0 (r34_Total.l0 kq x3_1 t478 x5_1 = some r) ∧ Aside0 (kq ≤ k) ∧ Aside0 (Kd.R k25 25 w' w.heap.size (fun _ => True) v479 t478) ∧ Aside0 (Below w.heap.size w w'))
 case atStart => exact ⟨(0), (0), zS, zS, H', ⟨Nat.le_refl _⟩, ⟨zR HO480.out⟩, ⟨zB HB⟩⟩
 case round =>
  clear H'
  try clear c2
  try clear p2
  try clear c3
  obtain ⟨x3_1, x5_1, rfl, rfl, HA, HK1, HO_4, HB⟩ := hrel
  cases gk with
  | zero => exact absurd HA.out (by simp [r34_Total.l0])
  | succ k1 =>
   have H := HA.out
   clear HA
   simp only [r34_Total.l0] at H
   by_cases c4 : x5_1 < (t478.length : Int)
   ·rw [if_pos c4] at H
    have c4b0 : decide (x5_1 < (t478.length : Int)) = true := decide_eq_true c4
    clear c4
    by_cases c5 : 0 ≤ x5_1
    ·rw [if_pos c5] at H
     have c5b0 : decide (0 ≤ x5_1) = true := decide_eq_true c5
     clear c5
     have H' := am H
     clear H
     obtain ⟨Ao6, co6, eo6⟩ := Kd.R_slice HO_4.out
     subst eo6
     have p481 : 0 ≤ (x5_1 : Int) := of_decide_eq_true zA
     have q481 : x5_1 < (t478.length : Int) := of_decide_eq_true zA
     obtain ⟨ad481, e481, hx481_0, hx481_1⟩ := at_T25 (Kd.R_reads' HO_4.out).2.2 x5_1 p481 q481
     cases e481
     replace p481 := eq_true p481
     replace q481 := eq_true q481
     go_wp2
     go_roundg k1
     case measure => have := HK1.out; omega
     case rel => exact ⟨(wrap64 (x3_1 + ((rd_T25 t478 x5_1).f1))), (wrap64 (x5_1 + 1)), zS, zS, H', ⟨by have := HK1.out; omega⟩, ⟨zR HO_4.out⟩, ⟨zB HB⟩⟩
    ·rw [if_neg c5] at H
     exact absurd H (by simp)
   ·rw [if_neg c4] at H
    have c4b0 : decide (x5_1 < (t478.length : Int)) = false := decide_eq_false c4
    clear c4
    obtain rfl := Option.some.inj H
    obtain ⟨Ao7, co7, eo7⟩ := Kd.R_slice HO_4.out
    subst eo7
    go_wp2
    go_ret
    exact ⟨by first | rfl | (simp [errW_none, errW_some] <;> rfl) | (simp [*, errW_none, errW_some] <;> rfl), by repeat (first | (with_reducible first | exact HB.out | apply below_alloc | apply pw_below_drewN | apply below_drew1) | exact HB.out)⟩

/-! ### r36_Waste: function 18 -/
def r36_Waste.f (k : Nat) (l0 : List (S25)) (l1 : List (S25)) : Option (Int) := (r34_Subtract.f k l0 l1).bind fun t482 => ((r34_Total.f k t482).bind fun t485 => (some t485))
theorem r36_Waste.mono : ∀ a0 a1 k, LeO (r36_Waste.f k a0 a1) (r36_Waste.f (k + 1) a0 a1) := by
 intro a0 a1 k
 unfold r36_Waste.f
 repeat' first
   | (with_reducible exact r34_Subtract.mono _ _ _)
   | (with_reducible exact r34_Total.mono _ _)
   | (with_reducible exact LeO.refl _)
   | (with_reducible exact LeO.none _)
   | (with_reducible refine LeO.ite ?_ ?_)
   | (with_reducible refine LeO.bind ?_ (fun _ => ?_))
   | exact r34_Subtract.mono _ _ _
   | exact r34_Total.mono _ _
   | exact LeO.none _
   | refine LeO.ite ?_ ?_
   | refine LeO.bind ?_ (fun _ => ?_)
set_option maxHeartbeats 8000000 in
set_option maxRecDepth 100000 in
theorem r36_Waste.calls (k : Nat) (A0 : Option Addr) (c0 : Nat) (l0 : List (S25)) (A1 : Option Addr) (c1 : Nat) (l1 : List (S25)) (r : Int) (w : World) (hr0 : Kd.C k25 w A0 l0.length l0) (hc0 : l0.length ≤ c0) (hr1 : Kd.C k25 w A1 l1.length l1) (hc1 : l1.length ≤ c1) (h : r36_Waste.f k l0 l1 = some r) :
  Calls Try.prog 18 #[.slice A0 l0.length c0, .slice A1 l1.length c1] w fun e w' => e = .returned (.int .i64 r) ∧ Below w.heap.size w w' := by
 have HR0 := am hr0
 have HC0 := am hc0
 clear hr0 hc0
 have HR1 := am hr1
 have HC1 := am hc1
 clear hr1 hc1
 have HB := am (Below.refl w.heap.size w)
 have H : ((r34_Subtract.f k l0 l1).bind fun t482 => ((r34_Total.f k t482).bind fun t485 => (some t485))) = some r := h
 clear h
 replace H := Option.bind_eq_some_iff.mp H
 obtain ⟨t482, A30, H⟩ := H
 replace H : ((r34_Total.f k t482).bind fun t485 => (some t485)) = some r := H
 have A3 := am A30
 clear A30
 replace H := Option.bind_eq_some_iff.mp H
 obtain ⟨t485, A40, H⟩ := H
 replace H : (some t485) = some r := H
 have A4 := am A40
 clear A40
 obtain rfl := Option.some.inj H
 go_enter Try.func18, Try.ntmps18
 go_wp2_with (first | ((with_reducible refine gate_callee (f := 24) rfl ?_); refine goesL_ (some 7) rfl rfl Try.func24 (by kernel_rfl) rfl #[.slice A0 l0.length c0, .slice A1 l1.length c1] rfl zM ?_; (with_reducible refine (r34_Subtract.calls k _ _ l0 _ _ l1 t482 _ ?side1 ?side2 ?side3 ?side4 A3.out).mono ?_); (case side1 => repeat (first | exact HR0.out | (with_reducible refine Kd.C_alloc ?_ _) | (with_reducible refine Kd.C_drewN ?_ _) | (with_reducible refine Kd.C_drew ?_))); (case side2 => exact HC0.out); (case side3 => repeat (first | exact HR1.out | (with_reducible refine Kd.C_alloc ?_ _) | (with_reducible refine Kd.C_drewN ?_ _) | (with_reducible refine Kd.C_drew ?_))); (case side4 => exact HC1.out); rintro e w5 ⟨v483, rfl, ho0, hb⟩; refine ⟨_, rfl, ?_⟩; have n0_ := am (Kd.R_lower ho0 (below_size (zB HB))); have n1_ := am (below_step (zB HB) hb); clear HB; have HO484 := n0_; have HB := n1_; clear n0_ n1_; (try clear hb); (try clear hb2); (try clear hk); (try clear hi); (try clear ho0); obtain ⟨Ao6, co6, eo6⟩ := Kd.R_slice HO484.out; subst eo6) | ((with_reducible refine gate_callee (f := 25) rfl ?_); refine goesL_ (some 8) rfl rfl Try.func25 (by kernel_rfl) rfl #[.slice Ao6 t482.length co6] rfl zM ?_; (with_reducible refine (r34_Total.calls k _ _ t482 t485 _ ?side1 ?side2 A4.out).mono ?_); (case side1 => exact zC (Kd.R_reads' HO484.out).2.2); (case side2 => exact (Kd.R_reads' HO484.out).2.1); rintro e w7 ⟨rfl, hb⟩; refine ⟨_, rfl, ?_⟩; have n0_ := am (Kd.R_below (zR HO484.out) hb); have n1_ := am (below_step (zB HB) hb); clear HO484; clear HB; have HO484 := n0_; have HB := n1_; clear n0_ n1_; (try clear hb); (try clear hb2); (try clear hk); (try clear hi)))
 go_ret
 exact ⟨by first | rfl | (simp [errW_none, errW_some] <;> rfl) | (simp [*, errW_none, errW_some] <;> rfl), by repeat (first | (with_reducible first | exact HB.out | apply below_alloc | apply pw_below_drewN | apply below_drew1) | exact HB.out)⟩

end
end Go.Proofs.Ytapbmkcncjkanaa.P
