-- Written by this session's wip/tools/px.py out of the translation. Lean checks it.
import Derived.Test.YtcckacamocaofaaP0
import Derived.Test.YtcckacamocaofaaP15
namespace Go.Proofs.Ytcckacamocaofaa.P
noncomputable section
open Go.RowKit Go.Proofs.YtcckacamocaofaaW.PrintWords Go.Proofs.YtcckacamocaofaaW.PrintLast Go.Proofs.YtcckacamocaofaaW.PrintMore
attribute [local go_sem] max2_int min2_int max_two min_two max_three min_three max_four min_four   -- for this text's walks alone
set_option linter.unusedVariables false
set_option linter.unusedSimpArgs false

/-! ### tapearchiveref34_Align: function 12 -/
mutual
def tapearchiveref34_Align.j0 : Nat → List (S30) → Int → Int → Bool → Option ((List (S30)))
 | 0, _, _, _, _ => none
 | k + 1, x0, x1, x2, x19 => if x19 = true then (some ([] : List (S30))) else ((tapearchiveref34_Normal.f k x0).bind fun t372 => (tapearchiveref34_Align.l0 k x1 (mn x2 1125899906842624) t372 (([] : List (S30))) 0))
def tapearchiveref34_Align.l0 : Nat → Int → Int → List (S30) → List (S30) → Int → Option ((List (S30)))
 | 0, _, _, _, _, _ => none
 | k + 1, x1, x7, x8, x9, x10 => if x10 < (x8.length : Int) then (if 0 ≤ x10 then (if x1 = 0 then (none) else (if x1 ≤ 1125899906842624 then (tapearchiveref34_Align.j2 k x1 x7 x8 x9 x10 (wrap64 ((wrap64 (Int.tdiv ((rd_T30 x8 x10).f0) x1)) * x1)) (mn x7 (wrap64 ((wrap64 ((wrap64 (Int.tdiv (wrap64 ((wrap64 (((rd_T30 x8 x10).f0) + ((rd_T30 x8 x10).f1))) - 1)) x1)) + 1)) * x1)))) else (tapearchiveref34_Align.j2 k x1 x7 x8 x9 x10 (wrap64 ((wrap64 (Int.tdiv ((rd_T30 x8 x10).f0) x1)) * x1)) x7))) else (none)) else ((tapearchiveref34_Normal.f k x9).bind fun t378 => (some t378))
def tapearchiveref34_Align.j2 : Nat → Int → Int → List (S30) → List (S30) → Int → Int → Int → Option ((List (S30)))
 | 0, _, _, _, _, _, _, _ => none
 | k + 1, x1, x7, x8, x9, x10, x11, x13 => if x11 < x13 then (if x9.length < 8796093022208 then (tapearchiveref34_Align.l0 k x1 x7 x8 (x9 ++ [(⟨x11, wrap64 (x13 - x11)⟩ : S30)]) (wrap64 (x10 + 1))) else (none)) else (tapearchiveref34_Align.l0 k x1 x7 x8 x9 (wrap64 (x10 + 1)))
end
def tapearchiveref34_Align.f (k : Nat) (l0 : List (S30)) (a1 : Int) (a2 : Int) : Option ((List (S30))) := if a1 < 1 then (tapearchiveref34_Align.j0 k l0 a1 a2 true) else (tapearchiveref34_Align.j0 k l0 a1 a2 (decide (a2 < 1)))
theorem tapearchiveref34_Align.mono_l : ∀ k, (∀ y0 y1 y2 y3, LeO (tapearchiveref34_Align.j0 k y0 y1 y2 y3) (tapearchiveref34_Align.j0 (k + 1) y0 y1 y2 y3)) ∧ (∀ y0 y1 y2 y3 y4, LeO (tapearchiveref34_Align.l0 k y0 y1 y2 y3 y4) (tapearchiveref34_Align.l0 (k + 1) y0 y1 y2 y3 y4)) ∧ (∀ y0 y1 y2 y3 y4 y5 y6, LeO (tapearchiveref34_Align.j2 k y0 y1 y2 y3 y4 y5 y6) (tapearchiveref34_Align.j2 (k + 1) y0 y1 y2 y3 y4 y5 y6))
 | 0 => ⟨fun _ _ _ _ r h => by simp [tapearchiveref34_Align.j0] at h, fun _ _ _ _ _ r h => by simp [tapearchiveref34_Align.l0] at h, fun _ _ _ _ _ _ _ r h => by simp [tapearchiveref34_Align.j2] at h⟩
 | k + 1 => by
  obtain ⟨ih0, ih1, ih2⟩ := tapearchiveref34_Align.mono_l k
  refine ⟨?_, ?_, ?_⟩
  ·intro y0 y1 y2 y3
   unfold tapearchiveref34_Align.j0
   repeat' first
   | (with_reducible exact ih0 _ _ _ _)
   | (with_reducible exact ih1 _ _ _ _ _)
   | (with_reducible exact ih2 _ _ _ _ _ _ _)
   | (with_reducible exact tapearchiveref34_Normal.mono _ _)
   | (with_reducible exact LeO.refl _)
   | (with_reducible exact LeO.none _)
   | (with_reducible refine LeO.ite ?_ ?_)
   | (with_reducible refine LeO.bind ?_ (fun _ => ?_))
   | exact ih0 _ _ _ _
   | exact ih1 _ _ _ _ _
   | exact ih2 _ _ _ _ _ _ _
   | exact tapearchiveref34_Normal.mono _ _
   | exact LeO.none _
   | refine LeO.ite ?_ ?_
   | refine LeO.bind ?_ (fun _ => ?_)
  ·intro y0 y1 y2 y3 y4
   unfold tapearchiveref34_Align.l0
   repeat' first
   | (with_reducible exact ih0 _ _ _ _)
   | (with_reducible exact ih1 _ _ _ _ _)
   | (with_reducible exact ih2 _ _ _ _ _ _ _)
   | (with_reducible exact tapearchiveref34_Normal.mono _ _)
   | (with_reducible exact LeO.refl _)
   | (with_reducible exact LeO.none _)
   | (with_reducible refine LeO.ite ?_ ?_)
   | (with_reducible refine LeO.bind ?_ (fun _ => ?_))
   | exact ih0 _ _ _ _
   | exact ih1 _ _ _ _ _
   | exact ih2 _ _ _ _ _ _ _
   | exact tapearchiveref34_Normal.mono _ _
   | exact LeO.none _
   | refine LeO.ite ?_ ?_
   | refine LeO.bind ?_ (fun _ => ?_)
  ·intro y0 y1 y2 y3 y4 y5 y6
   unfold tapearchiveref34_Align.j2
   repeat' first
   | (with_reducible exact ih0 _ _ _ _)
   | (with_reducible exact ih1 _ _ _ _ _)
   | (with_reducible exact ih2 _ _ _ _ _ _ _)
   | (with_reducible exact tapearchiveref34_Normal.mono _ _)
   | (with_reducible exact LeO.refl _)
   | (with_reducible exact LeO.none _)
   | (with_reducible refine LeO.ite ?_ ?_)
   | (with_reducible refine LeO.bind ?_ (fun _ => ?_))
   | exact ih0 _ _ _ _
   | exact ih1 _ _ _ _ _
   | exact ih2 _ _ _ _ _ _ _
   | exact tapearchiveref34_Normal.mono _ _
   | exact LeO.none _
   | refine LeO.ite ?_ ?_
   | refine LeO.bind ?_ (fun _ => ?_)
theorem tapearchiveref34_Align.mono : ∀ a0 a1 a2 k, LeO (tapearchiveref34_Align.f k a0 a1 a2) (tapearchiveref34_Align.f (k + 1) a0 a1 a2) := by
 intro a0 a1 a2 k
 obtain ⟨ih0, ih1, ih2⟩ := tapearchiveref34_Align.mono_l k
 unfold tapearchiveref34_Align.f
 repeat' first
   | (with_reducible exact ih0 _ _ _ _)
   | (with_reducible exact ih1 _ _ _ _ _)
   | (with_reducible exact ih2 _ _ _ _ _ _ _)
   | (with_reducible exact tapearchiveref34_Normal.mono _ _)
   | (with_reducible exact LeO.refl _)
   | (with_reducible exact LeO.none _)
   | (with_reducible refine LeO.ite ?_ ?_)
   | (with_reducible refine LeO.bind ?_ (fun _ => ?_))
   | exact ih0 _ _ _ _
   | exact ih1 _ _ _ _ _
   | exact ih2 _ _ _ _ _ _ _
   | exact tapearchiveref34_Normal.mono _ _
   | exact LeO.none _
   | refine LeO.ite ?_ ?_
   | refine LeO.bind ?_ (fun _ => ?_)
set_option maxHeartbeats 8000000 in
set_option maxRecDepth 100000 in
theorem tapearchiveref34_Align.calls (k : Nat) (A0 : Option Addr) (c0 : Nat) (l0 : List (S30)) (a1 : Int) (a2 : Int) (r : List (S30)) (w : World) (hr0 : Kd.C k30 w A0 l0.length l0) (hc0 : l0.length ≤ c0) (h : tapearchiveref34_Align.f k l0 a1 a2 = some r) :
  Calls Try.prog 12 #[.slice A0 l0.length c0, .int .i64 a1, .int .i64 a2] w fun e w' => ∃ v0_ : Value, e = .returned (v0_) ∧ Kd.R k30 30 w' w.heap.size (fun _ => True) v0_ r ∧ Below w.heap.size w w' := by
 have hu30 := Try.underlying30
 have HR0 := Aside0.mk hr0
 have HC0 := Aside0.mk hc0
 clear hr0 hc0
 have HB := Aside0.mk (Below.refl w.heap.size w)
 have H : (if a1 < 1 then (tapearchiveref34_Align.j0 k l0 a1 a2 true) else (tapearchiveref34_Align.j0 k l0 a1 a2 (decide (a2 < 1)))) = some r := h
 clear h
 have HC4 := Aside0.mk H
 clear H
 go_enter Try.func12, Try.ntmps12
 go_upto_region 1 with (fail)
 repeat (go_quiet (fail); go_upto_region 1 with (fail))
 go_cut [19] (fun v19 wc => ∃ (kq : Nat) (x19_3 : Bool), v19 = .bool x19_3 ∧ Aside0 (tapearchiveref34_Align.j0 kq l0 a1 a2 x19_3 = some r) ∧ Aside0 (kq ≤ k) ∧ Aside0 (Below w.heap.size w wc))
 case first =>
  have H := HC4.out
  clear HC4
  by_cases c5 : a1 < 1
  ·rw [if_pos c5] at H
   have c5b0 : decide (a1 < 1) = true := decide_eq_true c5
   clear c5
   (first | rw [c5b0] | (simp only [i64_w, i32_w]; rw [c5b0]) | skip)
   have H' := Aside0.mk H
   clear H
   go_wp2
   repeat (go_quiet (fail); try go_wp2)
   go_meet
   case rel => exact ⟨_, (true), zS, H', ⟨by first | omega | exact Nat.le_refl _⟩, ⟨zB HB⟩⟩
  ·rw [if_neg c5] at H
   have c5b0 : decide (a1 < 1) = false := decide_eq_false c5
   clear c5
   (first | rw [c5b0] | (simp only [i64_w, i32_w]; rw [c5b0]) | skip)
   have H' := Aside0.mk H
   clear H
   go_wp2
   repeat (go_quiet (fail); try go_wp2)
   go_meet
   case rel => exact ⟨_, (decide (a2 < 1)), zS, H', ⟨by first | omega | exact Nat.le_refl _⟩, ⟨zB HB⟩⟩
 case rest =>
  clear HC4
  try clear c1
  try clear p2
  try clear c5
  try clear c5b0
  obtain ⟨kq, x19_3, rfl, HA, HJ3, HB⟩ := hcut
  cases kq with
  | zero => exact absurd HA.out (by simp [tapearchiveref34_Align.j0])
  | succ kj3 =>
   have H := HA.out
   clear HA
   simp only [tapearchiveref34_Align.j0] at H
   by_cases c6 : x19_3 = true
   ·subst c6
    have H1 : (some ([] : List (S30))) = some r := by rw [if_pos rfl] at H; exact H
    clear H
    have H := H1
    clear H1
    obtain rfl := Option.some.inj H
    go_wp2
    repeat (go_quiet (fail); try go_wp2)
    go_ret
    exact ⟨_, by first | rfl | (simp [errW_none, errW_some] <;> rfl) | (simp [*, errW_none, errW_some] <;> rfl), by first | exact Kd.R_nil _ _ _ _ _ | exact Kd.N_nil _ _ _ _ _ | exact Kd.V_nil _ _ _ _ _ | exact Kd.Q_nil _ _ _ _ _ | exact Kd.S_nil _ _ _ _ _, by repeat (first | (with_reducible first | exact HB.out | apply below_alloc | apply pw_below_drewN | apply below_drew1) | exact HB.out)⟩
   ·replace c6 := Bool.eq_false_iff.mpr c6
    subst c6
    have H1 : ((tapearchiveref34_Normal.f kj3 l0).bind fun t372 => (tapearchiveref34_Align.l0 kj3 a1 (mn a2 1125899906842624) t372 (([] : List (S30))) 0)) = some r := by rw [if_neg (show ¬ (false = true) by decide)] at H; exact H
    clear H
    have H := H1
    clear H1
    obtain ⟨ji7, hji7⟩ : ∃ j_ : Int, (mn a2 1125899906842624) = j_ := ⟨_, rfl⟩
    replace H : ((tapearchiveref34_Normal.f kj3 l0).bind fun t372 => (tapearchiveref34_Align.l0 kj3 a1 ji7 t372 (([] : List (S30))) 0)) = some r := by first | (rw [hji7] at H; exact H) | (simp only [hji7] at H ⊢; exact H)
    have hji7_ : (if 1125899906842624 < a2 then 1125899906842624 else a2) = ji7 := hji7
    replace H := Option.bind_eq_some_iff.mp H
    obtain ⟨t372, A80, H⟩ := H
    replace H : (tapearchiveref34_Align.l0 kj3 a1 ji7 t372 (([] : List (S30))) 0) = some r := H
    have A8 := Aside0.mk A80
    clear A80
    obtain ⟨y375, hy375⟩ : ∃ y_ : List (S30), y_ = (([] : List (S30))) := ⟨_, rfl⟩
    replace H : (tapearchiveref34_Align.l0 kj3 a1 ji7 t372 y375 0) = some r := by first | (rw [hy375]; with_reducible exact H) | (have H2_ := (Option.bind_some _ _).symm.trans H; rw [hy375]; with_reducible exact H2_) | (have H2_ := (Option.bind_some _ _).symm.trans H; with_reducible exact H2_) | with_reducible exact H | (rw [hy375]; exact H) | exact H
    have Ny375 := Aside0.mk hy375
    clear hy375
    have H' := Aside0.mk H
    clear H
    go_wp2_with (first | (go_at_call 22; (with_reducible refine (tapearchiveref34_Normal.calls kj3 _ _ l0 t372 _ ?side1 ?side2 A8.out).mono ?_); (case side1 => exact zC (Kd.C_below HR0.out HB.out)); (case side2 => exact HC0.out); rintro e w9 ⟨v373, rfl, ho0, hb⟩; have n0_ := Aside0.mk (Kd.R_lower ho0 (below_size (zB HB))); have n1_ := Aside0.mk (below_step (zB HB) hb); clear HB; have HO374 := n0_; have HB := n1_; clear n0_ n1_; (try clear hb); (try clear hb2); (try clear hk); (try clear hi); (try clear ho0)) | ((with_reducible refine gate_dst (N := 24) rfl ?_); refine Kd.R_lit k30 _ 30 ?hg (N := 24) ?hd (xs := ([] : List (S30))) (inner := []) (ok := fun _ => True) (okp := fun _ => True) ?hr ?hp (fun _ hk => hk) trivial (Below.refl _ _) (Nat.le_refl _) (by simp) ?_; (case hd => rfl); (case hg => rfl); (case hr => first | (go_simp; done) | (go_simp; rfl)); (case hp => exact (Reps.none _ _)); intro v376 w10 ho11 hb hg_ hnew_; clear hg_ hnew_; (first | rw [← Ny375.out] at ho11 | (simp only [Int.reduceToNat] at ho11; rw [← Ny375.out] at ho11)); have n0_ := Aside0.mk (Kd.R_elder' (zR HO374.out) (Kd.R_base ho11) hb); have n1_ := Aside0.mk (Kd.R_lower (Kd.R_new' ho11 (Kd.R_lt (zR HO374.out))) (below_size (zB HB))); have n2_ := Aside0.mk (below_step (zB HB) hb); clear HO374; clear HB; have HO374 := n0_; have HO377 := n1_; have HB := n2_; clear n0_ n1_ n2_; clear hb ho11))
    repeat (go_quiet (first | (go_at_call 22; (with_reducible refine (tapearchiveref34_Normal.calls kj3 _ _ l0 t372 _ ?side1 ?side2 A8.out).mono ?_); (case side1 => exact zC (Kd.C_below HR0.out HB.out)); (case side2 => exact HC0.out); rintro e w9 ⟨v373, rfl, ho0, hb⟩; have n0_ := Aside0.mk (Kd.R_lower ho0 (below_size (zB HB))); have n1_ := Aside0.mk (below_step (zB HB) hb); clear HB; have HO374 := n0_; have HB := n1_; clear n0_ n1_; (try clear hb); (try clear hb2); (try clear hk); (try clear hi); (try clear ho0)) | ((with_reducible refine gate_dst (N := 24) rfl ?_); refine Kd.R_lit k30 _ 30 ?hg (N := 24) ?hd (xs := ([] : List (S30))) (inner := []) (ok := fun _ => True) (okp := fun _ => True) ?hr ?hp (fun _ hk => hk) trivial (Below.refl _ _) (Nat.le_refl _) (by simp) ?_; (case hd => rfl); (case hg => rfl); (case hr => first | (go_simp; done) | (go_simp; rfl)); (case hp => exact (Reps.none _ _)); intro v376 w10 ho11 hb hg_ hnew_; clear hg_ hnew_; (first | rw [← Ny375.out] at ho11 | (simp only [Int.reduceToNat] at ho11; rw [← Ny375.out] at ho11)); have n0_ := Aside0.mk (Kd.R_elder' (zR HO374.out) (Kd.R_base ho11) hb); have n1_ := Aside0.mk (Kd.R_lower (Kd.R_new' ho11 (Kd.R_lt (zR HO374.out))) (below_size (zB HB))); have n2_ := Aside0.mk (below_step (zB HB) hb); clear HO374; clear HB; have HO374 := n0_; have HO377 := n1_; have HB := n2_; clear n0_ n1_ n2_; clear hb ho11)); try go_wp2_with (first | (go_at_call 22; (with_reducible refine (tapearchiveref34_Normal.calls kj3 _ _ l0 t372 _ ?side1 ?side2 A8.out).mono ?_); (case side1 => exact zC (Kd.C_below HR0.out HB.out)); (case side2 => exact HC0.out); rintro e w9 ⟨v373, rfl, ho0, hb⟩; have n0_ := Aside0.mk (Kd.R_lower ho0 (below_size (zB HB))); have n1_ := Aside0.mk (below_step (zB HB) hb); clear HB; have HO374 := n0_; have HB := n1_; clear n0_ n1_; (try clear hb); (try clear hb2); (try clear hk); (try clear hi); (try clear ho0)) | ((with_reducible refine gate_dst (N := 24) rfl ?_); refine Kd.R_lit k30 _ 30 ?hg (N := 24) ?hd (xs := ([] : List (S30))) (inner := []) (ok := fun _ => True) (okp := fun _ => True) ?hr ?hp (fun _ hk => hk) trivial (Below.refl _ _) (Nat.le_refl _) (by simp) ?_; (case hd => rfl); (case hg => rfl); (case hr => first | (go_simp; done) | (go_simp; rfl)); (case hp => exact (Reps.none _ _)); intro v376 w10 ho11 hb hg_ hnew_; clear hg_ hnew_; (first | rw [← Ny375.out] at ho11 | (simp only [Int.reduceToNat] at ho11; rw [← Ny375.out] at ho11)); have n0_ := Aside0.mk (Kd.R_elder' (zR HO374.out) (Kd.R_base ho11) hb); have n1_ := Aside0.mk (Kd.R_lower (Kd.R_new' ho11 (Kd.R_lt (zR HO374.out))) (below_size (zB HB))); have n2_ := Aside0.mk (below_step (zB HB) hb); clear HO374; clear HB; have HO374 := n0_; have HO377 := n1_; have HB := n2_; clear n0_ n1_ n2_; clear hb ho11)))
    go_loopg [9, 10] kj3 (fun kq v9 v10 w' => ∃ (x9_2 : List (S30)) (x10_2 : Int), v10 = .int .i64 x10_2 ∧ Aside0 (tapearchiveref34_Align.l0 kq a1 ji7 t372 x9_2 x10_2 = some r) ∧ Aside0 (kq ≤ kj3) ∧ Aside0 (Kd.R k30 30 w' w.heap.size (fun k_ => some k_ ≠ (v9 : Value).ownBlock) v373 t372) ∧ Aside0 (Kd.R k30 30 w' w.heap.size (fun k_ => some k_ ≠ (v373 : Value).ownBlock) v9 x9_2) ∧ Aside0 (Below w.heap.size w w'))
    case atStart => exact ⟨(y375), (0), zS, H', ⟨Nat.le_refl _⟩, ⟨by (with_reducible repeat (first | apply Kd.R_alloc | apply Kd.R_drewN | apply Kd.R_drew)); exact Kd.R_mono HO374.out (fun _ hk => hk.2)⟩, ⟨by (with_reducible repeat (first | apply Kd.R_alloc | apply Kd.R_drewN | apply Kd.R_drew)); exact Kd.R_mono HO377.out (fun _ hk => hk.2)⟩, ⟨zB HB⟩⟩
    case round =>
     clear H'
     try clear c1
     try clear p2
     try clear c5
     try clear c5b0
     try clear c6
     try clear p2
     obtain ⟨x9_2, x10_2, rfl, HA, HK2, HO_8, HO_9, HB⟩ := hrel
     cases gk with
     | zero => exact absurd HA.out (by simp [tapearchiveref34_Align.l0])
     | succ k2 =>
      have H := HA.out
      clear HA
      simp only [tapearchiveref34_Align.l0] at H
      by_cases c12 : x10_2 < (t372.length : Int)
      ·rw [if_pos c12] at H
       have c12b0 : decide (x10_2 < (t372.length : Int)) = true := decide_eq_true c12
       clear c12
       by_cases c13 : 0 ≤ x10_2
       ·rw [if_pos c13] at H
        have c13b0 : decide (0 ≤ x10_2) = true := decide_eq_true c13
        clear c13
        by_cases c14 : a1 = 0
        ·rw [if_pos c14] at H
         exact absurd H (by simp)
        ·rw [if_neg c14] at H
         have c14b0 : (a1 == 0) = false := beq_eq_false_iff_ne.mpr c14
         have c14b1 : (a1 != 0) = true := bne_iff_ne.mpr c14
         have HC15 := Aside0.mk H
         clear H
         obtain ⟨Ao16, co16, eo16⟩ := Kd.R_slice HO_8.out
         subst eo16
         have p381 : 0 ≤ (x10_2 : Int) := of_decide_eq_true zA
         have q381 : x10_2 < (t372.length : Int) := of_decide_eq_true zA
         obtain ⟨ad381, e381, hx381_0, hx381_1⟩ := at_T30 (Kd.R_reads' HO_8.out).2.2 x10_2 p381 q381
         cases e381
         replace p381 := eq_true p381
         replace q381 := eq_true q381
         have p382 : 0 ≤ (x10_2 : Int) := of_decide_eq_true zA
         have q382 : x10_2 < (t372.length : Int) := of_decide_eq_true zA
         obtain ⟨ad382, e382, hx382_0, hx382_1⟩ := at_T30 (Kd.R_reads' HO_8.out).2.2 x10_2 p382 q382
         obtain rfl : ad381 = ad382 := (by injection e382)
         replace p382 := eq_true p382
         replace q382 := eq_true q382
         have p383 : 0 ≤ (x10_2 : Int) := of_decide_eq_true zA
         have q383 : x10_2 < (t372.length : Int) := of_decide_eq_true zA
         obtain ⟨ad383, e383, hx383_0, hx383_1⟩ := at_T30 (Kd.R_reads' HO_8.out).2.2 x10_2 p383 q383
         obtain rfl : ad381 = ad383 := (by injection e383)
         replace p383 := eq_true p383
         replace q383 := eq_true q383
         go_upto_if 54 with (fail)
         repeat (go_quiet (fail); go_upto_if 54 with (fail))
         go_cut [13] (fun v13 wc => ∃ (kq : Nat) (x13_14 : Int), v13 = .int .i64 x13_14 ∧ Aside0 (tapearchiveref34_Align.j2 kq a1 ji7 t372 x9_2 x10_2 (wrap64 ((wrap64 (Int.tdiv ((rd_T30 t372 x10_2).f0) a1)) * a1)) x13_14 = some r) ∧ Aside0 (kq ≤ k2) ∧ Aside0 (Kd.R k30 30 wc w.heap.size (fun k_ => some k_ ≠ (u9 : Value).ownBlock) (.slice (some ad381) t372.length co16) t372) ∧ Aside0 (Kd.R k30 30 wc w.heap.size (fun k_ => some k_ ≠ ((.slice (some ad381) t372.length co16) : Value).ownBlock) u9 x9_2) ∧ Aside0 (Below w.heap.size w wc))
         case first =>
          have H := HC15.out
          clear HC15
          by_cases c17 : a1 ≤ 1125899906842624
          ·rw [if_pos c17] at H
           have c17b0 : decide (a1 ≤ 1125899906842624) = true := decide_eq_true c17
           clear c17
           (first | rw [c17b0] | (simp only [i64_w, i32_w]; rw [c17b0]) | skip)
           obtain ⟨ji18, hji18⟩ : ∃ j_ : Int, (mn ji7 (wrap64 ((wrap64 ((wrap64 (Int.tdiv (wrap64 ((wrap64 (((rd_T30 t372 x10_2).f0) + ((rd_T30 t372 x10_2).f1))) - 1)) a1)) + 1)) * a1))) = j_ := ⟨_, rfl⟩
           replace H : (tapearchiveref34_Align.j2 k2 a1 ji7 t372 x9_2 x10_2 (wrap64 ((wrap64 (Int.tdiv ((rd_T30 t372 x10_2).f0) a1)) * a1)) ji18) = some r := by first | (rw [hji18] at H; exact H) | (simp only [hji18] at H ⊢; exact H)
           have hji18_ : (if (wrap64 ((wrap64 ((wrap64 (Int.tdiv (wrap64 ((wrap64 (((rd_T30 t372 x10_2).f0) + ((rd_T30 t372 x10_2).f1))) - 1)) a1)) + 1)) * a1)) < ji7 then (wrap64 ((wrap64 ((wrap64 (Int.tdiv (wrap64 ((wrap64 (((rd_T30 t372 x10_2).f0) + ((rd_T30 t372 x10_2).f1))) - 1)) a1)) + 1)) * a1)) else ji7) = ji18 := hji18
           have H' := Aside0.mk H
           clear H
           go_wp2
           repeat (go_quiet (fail); try go_wp2)
           (try simp only [show (Value.int .i64 ji18) = .int .i64 (mn ji7 (wrap64 ((wrap64 ((wrap64 (Int.tdiv (wrap64 ((wrap64 (((rd_T30 t372 x10_2).f0) + ((rd_T30 t372 x10_2).f1))) - 1)) a1)) + 1)) * a1))) from by rw [hji18]])
           go_meet
           case rel => exact ⟨k2, (ji18), (by first | rfl | (simp; done) | (simp only [← hji18] <;> (first | rfl | simp)) | (simp [*]; done)), (by first | exact H' | (rw [hji18]; exact H') | (simp only [hji18]; exact H')), ⟨by have := HJ3.out; have := HK2.out; first | omega | exact Nat.le_refl _⟩, ⟨zR HO_8.out⟩, ⟨zR HO_9.out⟩, ⟨zB HB⟩⟩
          ·rw [if_neg c17] at H
           have c17b0 : decide (a1 ≤ 1125899906842624) = false := decide_eq_false c17
           clear c17
           (first | rw [c17b0] | (simp only [i64_w, i32_w]; rw [c17b0]) | skip)
           have H' := Aside0.mk H
           clear H
           go_wp2
           repeat (go_quiet (fail); try go_wp2)
           go_meet
           case rel => exact ⟨_, (ji7), (by first | rfl | (simp; done) | (simp only [← hji7] <;> (first | rfl | simp)) | (simp [*]; done)), H', ⟨by have := HJ3.out; have := HK2.out; first | omega | exact Nat.le_refl _⟩, ⟨zR HO_8.out⟩, ⟨zR HO_9.out⟩, ⟨zB HB⟩⟩
         case rest =>
          clear HC15
          try clear c1
          try clear p2
          try clear p3
          try clear q3
          try clear hx3
          try clear c5
          try clear c5b0
          try clear c6
          try clear p6
          try clear c12
          try clear c12b0
          try clear c13
          try clear c13b0
          try clear c14
          try clear c14b0
          try clear c14b1
          try clear c17
          try clear c17b0
          try clear hx381_0
          try clear hx381_1
          try clear hx382_0
          try clear hx382_1
          try clear hx383_0
          try clear hx383_1
          try clear p2
          try clear p381
          try clear p382
          try clear p383
          try clear q381
          try clear q382
          try clear q383
          obtain ⟨kq, x13_14, rfl, HA, HJ14, HO_8, HO_9, HB⟩ := hcut
          cases kq with
          | zero => exact absurd HA.out (by simp [tapearchiveref34_Align.j2])
          | succ kj14 =>
           have H := HA.out
           clear HA
           simp only [tapearchiveref34_Align.j2] at H
           by_cases c19 : (wrap64 ((wrap64 (Int.tdiv ((rd_T30 t372 x10_2).f0) a1)) * a1)) < x13_14
           ·rw [if_pos c19] at H
            have c19b0 : decide ((wrap64 ((wrap64 (Int.tdiv ((rd_T30 t372 x10_2).f0) a1)) * a1)) < x13_14) = true := decide_eq_true c19
            clear c19
            by_cases c20 : x9_2.length < 8796093022208
            ·rw [if_pos c20] at H
             have LMc20 := Aside0.mk c20
             clear c20
             obtain ⟨y384, hy384⟩ : ∃ y_ : List (S30), y_ = (x9_2 ++ [(⟨(wrap64 ((wrap64 (Int.tdiv ((rd_T30 t372 x10_2).f0) a1)) * a1)), wrap64 (x13_14 - (wrap64 ((wrap64 (Int.tdiv ((rd_T30 t372 x10_2).f0) a1)) * a1)))⟩ : S30)]) := ⟨_, rfl⟩
             replace H : (tapearchiveref34_Align.l0 kj14 a1 ji7 t372 y384 (wrap64 (x10_2 + 1))) = some r := by first | (rw [hy384]; with_reducible exact H) | (have H2_ := (Option.bind_some _ _).symm.trans H; rw [hy384]; with_reducible exact H2_) | (have H2_ := (Option.bind_some _ _).symm.trans H; with_reducible exact H2_) | with_reducible exact H | (rw [hy384]; exact H) | exact H
             have Ny384 := Aside0.mk hy384
             clear hy384
             have H' := Aside0.mk H
             clear H
             go_wp2_with (first | ((with_reducible refine gate_builtin (b := .append) (xs := #[.tmp 66, .tmp 72]) rfl ?_); at_builtin; refine Kd.R_append k30 (w0 := w) w.heap.size rfl (.tmp 66) (.tmp 72) 22 30 (.agg #[(.int .i64 0), (.int .i64 0)]) 16 rfl Try.underlying22 info30 rfl (by decide) (by omega) u9 x9_2 (⟨(wrap64 ((wrap64 (Int.tdiv ((rd_T30 t372 x10_2).f0) a1)) * a1)), wrap64 (x13_14 - (wrap64 ((wrap64 (Int.tdiv ((rd_T30 t372 x10_2).f0) a1)) * a1)))⟩ : S30) [.int .i64 (wrap64 ((wrap64 (Int.tdiv ((rd_T30 t372 x10_2).f0) a1)) * a1)), .int .i64 (wrap64 (x13_14 - (wrap64 ((wrap64 (Int.tdiv ((rd_T30 t372 x10_2).f0) a1)) * a1))))] (fun k_ => some k_ ≠ (.slice (some ad381) t372.length co16 : Value).ownBlock) (fun _ => False) rfl rfl ?aP (fun _ hk => hk.elim) ?aF ?aO ?aB ?aS ?aL ?_; (case aP => exact k30_mkM _ _ _ (⟨(wrap64 ((wrap64 (Int.tdiv ((rd_T30 t372 x10_2).f0) a1)) * a1)), wrap64 (x13_14 - (wrap64 ((wrap64 (Int.tdiv ((rd_T30 t372 x10_2).f0) a1)) * a1)))⟩ : S30)); (case aB => exact (zB HB)); (case aF => exact (fun k_ hk => Kd.fresh' (Kd.R_lt (zR HO_8.out)) k_ hk)); (case aO => exact (zR HO_9.out)); (case aS => exact (below_size (zB HB))); (case aL => have := LMc20.out; omega); intro v385 w21 ho hb hg hat; rw [← Ny384.out] at ho; have n0_ := Aside0.mk (Kd.R_after (ok := (fun _ => True)) (by (with_reducible repeat (first | apply Kd.R_alloc | apply Kd.R_drewN | apply Kd.R_drew)); exact Kd.R_mono HO_8.out (fun _ hk => ⟨trivial, hk⟩)) hg hat); have n1_ := Aside0.mk (hb); have n2_ := Aside0.mk (ho); clear HO_8; clear HB; clear HO_9; have HO_8 := n0_; have HB := n1_; have HO386 := n2_; clear n0_ n1_ n2_; clear ho hb hg hat))
             repeat (go_quiet (first | ((with_reducible refine gate_builtin (b := .append) (xs := #[.tmp 66, .tmp 72]) rfl ?_); at_builtin; refine Kd.R_append k30 (w0 := w) w.heap.size rfl (.tmp 66) (.tmp 72) 22 30 (.agg #[(.int .i64 0), (.int .i64 0)]) 16 rfl Try.underlying22 info30 rfl (by decide) (by omega) u9 x9_2 (⟨(wrap64 ((wrap64 (Int.tdiv ((rd_T30 t372 x10_2).f0) a1)) * a1)), wrap64 (x13_14 - (wrap64 ((wrap64 (Int.tdiv ((rd_T30 t372 x10_2).f0) a1)) * a1)))⟩ : S30) [.int .i64 (wrap64 ((wrap64 (Int.tdiv ((rd_T30 t372 x10_2).f0) a1)) * a1)), .int .i64 (wrap64 (x13_14 - (wrap64 ((wrap64 (Int.tdiv ((rd_T30 t372 x10_2).f0) a1)) * a1))))] (fun k_ => some k_ ≠ (.slice (some ad381) t372.length co16 : Value).ownBlock) (fun _ => False) rfl rfl ?aP (fun _ hk => hk.elim) ?aF ?aO ?aB ?aS ?aL ?_; (case aP => exact k30_mkM _ _ _ (⟨(wrap64 ((wrap64 (Int.tdiv ((rd_T30 t372 x10_2).f0) a1)) * a1)), wrap64 (x13_14 - (wrap64 ((wrap64 (Int.tdiv ((rd_T30 t372 x10_2).f0) a1)) * a1)))⟩ : S30)); (case aB => exact (zB HB)); (case aF => exact (fun k_ hk => Kd.fresh' (Kd.R_lt (zR HO_8.out)) k_ hk)); (case aO => exact (zR HO_9.out)); (case aS => exact (below_size (zB HB))); (case aL => have := LMc20.out; omega); intro v385 w21 ho hb hg hat; rw [← Ny384.out] at ho; have n0_ := Aside0.mk (Kd.R_after (ok := (fun _ => True)) (by (with_reducible repeat (first | apply Kd.R_alloc | apply Kd.R_drewN | apply Kd.R_drew)); exact Kd.R_mono HO_8.out (fun _ hk => ⟨trivial, hk⟩)) hg hat); have n1_ := Aside0.mk (hb); have n2_ := Aside0.mk (ho); clear HO_8; clear HB; clear HO_9; have HO_8 := n0_; have HB := n1_; have HO386 := n2_; clear n0_ n1_ n2_; clear ho hb hg hat)); try go_wp2_with (first | ((with_reducible refine gate_builtin (b := .append) (xs := #[.tmp 66, .tmp 72]) rfl ?_); at_builtin; refine Kd.R_append k30 (w0 := w) w.heap.size rfl (.tmp 66) (.tmp 72) 22 30 (.agg #[(.int .i64 0), (.int .i64 0)]) 16 rfl Try.underlying22 info30 rfl (by decide) (by omega) u9 x9_2 (⟨(wrap64 ((wrap64 (Int.tdiv ((rd_T30 t372 x10_2).f0) a1)) * a1)), wrap64 (x13_14 - (wrap64 ((wrap64 (Int.tdiv ((rd_T30 t372 x10_2).f0) a1)) * a1)))⟩ : S30) [.int .i64 (wrap64 ((wrap64 (Int.tdiv ((rd_T30 t372 x10_2).f0) a1)) * a1)), .int .i64 (wrap64 (x13_14 - (wrap64 ((wrap64 (Int.tdiv ((rd_T30 t372 x10_2).f0) a1)) * a1))))] (fun k_ => some k_ ≠ (.slice (some ad381) t372.length co16 : Value).ownBlock) (fun _ => False) rfl rfl ?aP (fun _ hk => hk.elim) ?aF ?aO ?aB ?aS ?aL ?_; (case aP => exact k30_mkM _ _ _ (⟨(wrap64 ((wrap64 (Int.tdiv ((rd_T30 t372 x10_2).f0) a1)) * a1)), wrap64 (x13_14 - (wrap64 ((wrap64 (Int.tdiv ((rd_T30 t372 x10_2).f0) a1)) * a1)))⟩ : S30)); (case aB => exact (zB HB)); (case aF => exact (fun k_ hk => Kd.fresh' (Kd.R_lt (zR HO_8.out)) k_ hk)); (case aO => exact (zR HO_9.out)); (case aS => exact (below_size (zB HB))); (case aL => have := LMc20.out; omega); intro v385 w21 ho hb hg hat; rw [← Ny384.out] at ho; have n0_ := Aside0.mk (Kd.R_after (ok := (fun _ => True)) (by (with_reducible repeat (first | apply Kd.R_alloc | apply Kd.R_drewN | apply Kd.R_drew)); exact Kd.R_mono HO_8.out (fun _ hk => ⟨trivial, hk⟩)) hg hat); have n1_ := Aside0.mk (hb); have n2_ := Aside0.mk (ho); clear HO_8; clear HB; clear HO_9; have HO_8 := n0_; have HB := n1_; have HO386 := n2_; clear n0_ n1_ n2_; clear ho hb hg hat)))
             go_roundg kj14
             case measure => have := HJ3.out; have := HK2.out; have := HJ14.out; omega
             case rel => exact ⟨(y384), (wrap64 (x10_2 + 1)), zS, H', ⟨by have := HJ3.out; have := HK2.out; have := HJ14.out; omega⟩, ⟨by (with_reducible repeat (first | apply Kd.R_alloc | apply Kd.R_drewN | apply Kd.R_drew)); exact Kd.R_mono HO_8.out (fun _ hk => hk.2)⟩, ⟨zR HO386.out⟩, ⟨zB HB⟩⟩
            ·rw [if_neg c20] at H
             exact absurd H (by simp)
           ·rw [if_neg c19] at H
            have c19b0 : decide ((wrap64 ((wrap64 (Int.tdiv ((rd_T30 t372 x10_2).f0) a1)) * a1)) < x13_14) = false := decide_eq_false c19
            clear c19
            have H' := Aside0.mk H
            clear H
            go_wp2
            repeat (go_quiet (fail); try go_wp2)
            go_roundg kj14
            case measure => have := HJ3.out; have := HK2.out; have := HJ14.out; omega
            case rel => exact ⟨(x9_2), (wrap64 (x10_2 + 1)), zS, H', ⟨by have := HJ3.out; have := HK2.out; have := HJ14.out; omega⟩, ⟨zR HO_8.out⟩, ⟨zR HO_9.out⟩, ⟨zB HB⟩⟩
       ·rw [if_neg c13] at H
        exact absurd H (by simp)
      ·rw [if_neg c12] at H
       have c12b0 : decide (x10_2 < (t372.length : Int)) = false := decide_eq_false c12
       clear c12
       replace H := Option.bind_eq_some_iff.mp H
       obtain ⟨t378, A220, H⟩ := H
       replace H : (some t378) = some r := H
       have A22 := Aside0.mk A220
       clear A220
       obtain rfl := Option.some.inj H
       obtain ⟨Ao23, co23, eo23⟩ := Kd.R_slice HO_8.out
       subst eo23
       obtain ⟨Ao24, co24, eo24⟩ := Kd.R_slice HO_9.out
       subst eo24
       go_wp2_with (first | (go_at_call 22; (with_reducible refine (tapearchiveref34_Normal.calls k2 _ _ x9_2 t378 _ ?side1 ?side2 A22.out).mono ?_); (case side1 => exact zC (Kd.R_reads' HO_9.out).2.2); (case side2 => exact (Kd.R_reads' HO_9.out).2.1); rintro e w25 ⟨v379, rfl, ho0, hb⟩; have n0_ := Aside0.mk (Kd.R_elder' (zR HO_8.out) (Kd.R_base ho0) hb); have n1_ := Aside0.mk (Kd.R_elder' (zR HO_9.out) (Kd.R_base ho0) hb); have n2_ := Aside0.mk (Kd.R_lower (Kd.R_new' (Kd.R_new' ho0 (Kd.R_lt (zR HO_8.out))) (Kd.R_lt (zR HO_9.out))) (below_size (zB HB))); have n3_ := Aside0.mk (below_step (zB HB) hb); clear HO_8; clear HO_9; clear HB; have HO_8 := n0_; have HO_9 := n1_; have HO380 := n2_; have HB := n3_; clear n0_ n1_ n2_ n3_; (try clear hb); (try clear hb2); (try clear hk); (try clear hi); (try clear ho0)))
       repeat (go_quiet (first | (go_at_call 22; (with_reducible refine (tapearchiveref34_Normal.calls k2 _ _ x9_2 t378 _ ?side1 ?side2 A22.out).mono ?_); (case side1 => exact zC (Kd.R_reads' HO_9.out).2.2); (case side2 => exact (Kd.R_reads' HO_9.out).2.1); rintro e w25 ⟨v379, rfl, ho0, hb⟩; have n0_ := Aside0.mk (Kd.R_elder' (zR HO_8.out) (Kd.R_base ho0) hb); have n1_ := Aside0.mk (Kd.R_elder' (zR HO_9.out) (Kd.R_base ho0) hb); have n2_ := Aside0.mk (Kd.R_lower (Kd.R_new' (Kd.R_new' ho0 (Kd.R_lt (zR HO_8.out))) (Kd.R_lt (zR HO_9.out))) (below_size (zB HB))); have n3_ := Aside0.mk (below_step (zB HB) hb); clear HO_8; clear HO_9; clear HB; have HO_8 := n0_; have HO_9 := n1_; have HO380 := n2_; have HB := n3_; clear n0_ n1_ n2_ n3_; (try clear hb); (try clear hb2); (try clear hk); (try clear hi); (try clear ho0))); try go_wp2_with (first | (go_at_call 22; (with_reducible refine (tapearchiveref34_Normal.calls k2 _ _ x9_2 t378 _ ?side1 ?side2 A22.out).mono ?_); (case side1 => exact zC (Kd.R_reads' HO_9.out).2.2); (case side2 => exact (Kd.R_reads' HO_9.out).2.1); rintro e w25 ⟨v379, rfl, ho0, hb⟩; have n0_ := Aside0.mk (Kd.R_elder' (zR HO_8.out) (Kd.R_base ho0) hb); have n1_ := Aside0.mk (Kd.R_elder' (zR HO_9.out) (Kd.R_base ho0) hb); have n2_ := Aside0.mk (Kd.R_lower (Kd.R_new' (Kd.R_new' ho0 (Kd.R_lt (zR HO_8.out))) (Kd.R_lt (zR HO_9.out))) (below_size (zB HB))); have n3_ := Aside0.mk (below_step (zB HB) hb); clear HO_8; clear HO_9; clear HB; have HO_8 := n0_; have HO_9 := n1_; have HO380 := n2_; have HB := n3_; clear n0_ n1_ n2_ n3_; (try clear hb); (try clear hb2); (try clear hk); (try clear hi); (try clear ho0))))
       go_ret
       exact ⟨_, by first | rfl | (simp [errW_none, errW_some] <;> rfl) | (simp only [← hji7]; first | rfl | (simp [errW_none, errW_some] <;> rfl)) | (simp [*, errW_none, errW_some] <;> rfl), by (with_reducible repeat (first | apply Kd.R_alloc | apply Kd.R_drewN | apply Kd.R_drew)); exact Kd.R_mono HO380.out (fun _ hk => trivial), by repeat (first | (with_reducible first | exact HB.out | apply below_alloc | apply pw_below_drewN | apply below_drew1) | exact HB.out)⟩

end
end Go.Proofs.Ytcckacamocaofaa.P
