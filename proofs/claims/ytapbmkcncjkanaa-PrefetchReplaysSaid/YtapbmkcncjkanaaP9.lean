-- Written by this session's wip/tools/px.py out of the translation. Lean checks it.
import Derived.Test.YtapbmkcncjkanaaP0
import Derived.Test.YtapbmkcncjkanaaP8
import Derived.Test.YtapbmkcncjkanaaExtE
namespace Go.Proofs.Ytapbmkcncjkanaa.P
noncomputable section
open Go.RowKit Go.Proofs.YtapbmkcncjkanaaW.PrintWords Go.Proofs.YtapbmkcncjkanaaW.PrintLast Go.Proofs.YtapbmkcncjkanaaW.PrintMore
attribute [local go_sem] max2_int min2_int max_two min_two max_three min_three max_four min_four   -- for this text's walks alone
set_option linter.unusedVariables false
set_option linter.unusedSimpArgs false

/-! ### extent_Align: function 29 -/
mutual
def extent_Align.j0 : Nat → List (S25) → Int → Int → Bool → Option ((List (S25)))
 | 0, _, _, _, _ => none
 | k + 1, x0, x1, x2, x18 => if x18 = true then (some ([] : List (S25))) else ((extent_Normal.f x0).bind fun t196 => (extent_Align.l0 k x1 (mn x2 1125899906842624) ([] : List (S25)) t196 (t196.length : Int) 0))
def extent_Align.l0 : Nat → Int → Int → List (S25) → List (S25) → Int → Int → Option ((List (S25)))
 | 0, _, _, _, _, _, _ => none
 | k + 1, x1, x2, x7, x22, x23, x24 => if x24 < x23 then (if 0 ≤ x24 then (if x24 < (x22.length : Int) then (if x1 = 0 then (none) else (if (wrap64 (Int.tdiv (wrap64 ((wrap64 (((rd_T25 x22 x24).f0) + ((rd_T25 x22 x24).f1))) - 1)) x1)) < (wrap64 (Int.tdiv x2 x1)) then (extent_Align.j2 k x1 x2 x7 (wrap64 (((rd_T25 x22 x24).f0) - (Int.tmod ((rd_T25 x22 x24).f0) x1))) (wrap64 ((wrap64 ((wrap64 (Int.tdiv (wrap64 ((wrap64 (((rd_T25 x22 x24).f0) + ((rd_T25 x22 x24).f1))) - 1)) x1)) + 1)) * x1)) x22 x23 x24) else (extent_Align.j2 k x1 x2 x7 (wrap64 (((rd_T25 x22 x24).f0) - (Int.tmod ((rd_T25 x22 x24).f0) x1))) x2 x22 x23 x24))) else (none)) else (none)) else ((extent_Normal.f x7).bind fun t199 => (some t199))
def extent_Align.j2 : Nat → Int → Int → List (S25) → Int → Int → List (S25) → Int → Int → Option ((List (S25)))
 | 0, _, _, _, _, _, _, _, _ => none
 | k + 1, x1, x2, x7, x10, x11, x22, x23, x24 => if x10 < x11 then (if x7.length < 8796093022208 then (extent_Align.l0 k x1 x2 (x7 ++ [(⟨x10, wrap64 (x11 - x10)⟩ : S25)]) x22 x23 (wrap64 (x24 + 1))) else (none)) else (extent_Align.l0 k x1 x2 x7 x22 x23 (wrap64 (x24 + 1)))
end
def extent_Align.f (k : Nat) (l0 : List (S25)) (a1 : Int) (a2 : Int) : Option ((List (S25))) := if a1 < 1 then (extent_Align.j0 k l0 a1 a2 true) else (extent_Align.j0 k l0 a1 a2 (decide (a2 < 1)))
theorem extent_Align.mono_l : ∀ k, (∀ y0 y1 y2 y3, LeO (extent_Align.j0 k y0 y1 y2 y3) (extent_Align.j0 (k + 1) y0 y1 y2 y3)) ∧ (∀ y0 y1 y2 y3 y4 y5, LeO (extent_Align.l0 k y0 y1 y2 y3 y4 y5) (extent_Align.l0 (k + 1) y0 y1 y2 y3 y4 y5)) ∧ (∀ y0 y1 y2 y3 y4 y5 y6 y7, LeO (extent_Align.j2 k y0 y1 y2 y3 y4 y5 y6 y7) (extent_Align.j2 (k + 1) y0 y1 y2 y3 y4 y5 y6 y7))
 | 0 => ⟨fun _ _ _ _ r h => by simp [extent_Align.j0] at h, fun _ _ _ _ _ _ r h => by simp [extent_Align.l0] at h, fun _ _ _ _ _ _ _ _ r h => by simp [extent_Align.j2] at h⟩
 | k + 1 => by
  obtain ⟨ih0, ih1, ih2⟩ := extent_Align.mono_l k
  refine ⟨?_, ?_, ?_⟩
  ·intro y0 y1 y2 y3
   unfold extent_Align.j0
   repeat' first
   | (with_reducible exact ih0 _ _ _ _)
   | (with_reducible exact ih1 _ _ _ _ _ _)
   | (with_reducible exact ih2 _ _ _ _ _ _ _ _)
   | (with_reducible exact LeO.refl _)
   | (with_reducible exact LeO.none _)
   | (with_reducible refine LeO.ite ?_ ?_)
   | (with_reducible refine LeO.bind ?_ (fun _ => ?_))
   | exact ih0 _ _ _ _
   | exact ih1 _ _ _ _ _ _
   | exact ih2 _ _ _ _ _ _ _ _
   | exact LeO.none _
   | refine LeO.ite ?_ ?_
   | refine LeO.bind ?_ (fun _ => ?_)
  ·intro y0 y1 y2 y3 y4 y5
   unfold extent_Align.l0
   repeat' first
   | (with_reducible exact ih0 _ _ _ _)
   | (with_reducible exact ih1 _ _ _ _ _ _)
   | (with_reducible exact ih2 _ _ _ _ _ _ _ _)
   | (with_reducible exact LeO.refl _)
   | (with_reducible exact LeO.none _)
   | (with_reducible refine LeO.ite ?_ ?_)
   | (with_reducible refine LeO.bind ?_ (fun _ => ?_))
   | exact ih0 _ _ _ _
   | exact ih1 _ _ _ _ _ _
   | exact ih2 _ _ _ _ _ _ _ _
   | exact LeO.none _
   | refine LeO.ite ?_ ?_
   | refine LeO.bind ?_ (fun _ => ?_)
  ·intro y0 y1 y2 y3 y4 y5 y6 y7
   unfold extent_Align.j2
   repeat' first
   | (with_reducible exact ih0 _ _ _ _)
   | (with_reducible exact ih1 _ _ _ _ _ _)
   | (with_reducible exact ih2 _ _ _ _ _ _ _ _)
   | (with_reducible exact LeO.refl _)
   | (with_reducible exact LeO.none _)
   | (with_reducible refine LeO.ite ?_ ?_)
   | (with_reducible refine LeO.bind ?_ (fun _ => ?_))
   | exact ih0 _ _ _ _
   | exact ih1 _ _ _ _ _ _
   | exact ih2 _ _ _ _ _ _ _ _
   | exact LeO.none _
   | refine LeO.ite ?_ ?_
   | refine LeO.bind ?_ (fun _ => ?_)
theorem extent_Align.mono : ∀ a0 a1 a2 k, LeO (extent_Align.f k a0 a1 a2) (extent_Align.f (k + 1) a0 a1 a2) := by
 intro a0 a1 a2 k
 obtain ⟨ih0, ih1, ih2⟩ := extent_Align.mono_l k
 unfold extent_Align.f
 repeat' first
   | (with_reducible exact ih0 _ _ _ _)
   | (with_reducible exact ih1 _ _ _ _ _ _)
   | (with_reducible exact ih2 _ _ _ _ _ _ _ _)
   | (with_reducible exact LeO.refl _)
   | (with_reducible exact LeO.none _)
   | (with_reducible refine LeO.ite ?_ ?_)
   | (with_reducible refine LeO.bind ?_ (fun _ => ?_))
   | exact ih0 _ _ _ _
   | exact ih1 _ _ _ _ _ _
   | exact ih2 _ _ _ _ _ _ _ _
   | exact LeO.none _
   | refine LeO.ite ?_ ?_
   | refine LeO.bind ?_ (fun _ => ?_)
set_option maxHeartbeats 8000000 in
set_option maxRecDepth 100000 in
theorem extent_Align.calls (k : Nat) (A0 : Option Addr) (c0 : Nat) (l0 : List (S25)) (a1 : Int) (a2 : Int) (r : List (S25)) (w : World) (hr0 : Kd.C k25 w A0 l0.length l0) (hc0 : l0.length ≤ c0) (h : extent_Align.f k l0 a1 a2 = some r) :
  Calls Try.prog 29 #[.slice A0 l0.length c0, .int .i64 a1, .int .i64 a2] w fun e w' => ∃ v0_ : Value, e = .returned (v0_) ∧ Kd.R k25 25 w' w.heap.size (fun _ => True) v0_ r ∧ Below w.heap.size w w' := by
 have hu25 := Try.underlying25
 have HR0 := am hr0
 have HC0 := am hc0
 clear hr0 hc0
 have HB := am (Below.refl w.heap.size w)
 have H : (if a1 < 1 then (extent_Align.j0 k l0 a1 a2 true) else (extent_Align.j0 k l0 a1 a2 (decide (a2 < 1)))) = some r := h
 clear h
 have HC4 := am H
 clear H
 go_enter Try.func29, Try.ntmps29
 go_upto_region 1 with (fail)
 repeat (go_quiet (fail); go_upto_region 1 with (fail))
 go_cut [18] (fun v18 wc => ∃ (kq : Nat) (x18_3 : Bool), v18 = .bool x18_3 ∧ Aside0 (extent_Align.j0 kq l0 a1 a2 x18_3 = some r) ∧ Aside0 (kq ≤ k) ∧ Aside0 (Below w.heap.size w wc))
 case first =>
  have H := HC4.out
  clear HC4
  by_cases c5 : a1 < 1
  ·rw [if_pos c5] at H
   have c5b0 : decide (a1 < 1) = true := decide_eq_true c5
   clear c5
   (first | rw [c5b0] | (simp only [i64_w, i32_w]; rw [c5b0]) | skip)
   have H' := am H
   clear H
   go_wp2
   repeat (go_quiet (fail); try go_wp2)
   go_meet
   case rel => exact ⟨_, (true), zS, H', ⟨by first | omega | exact Nat.le_refl _⟩, ⟨zB HB⟩⟩
  ·rw [if_neg c5] at H
   have c5b0 : decide (a1 < 1) = false := decide_eq_false c5
   clear c5
   (first | rw [c5b0] | (simp only [i64_w, i32_w]; rw [c5b0]) | skip)
   have H' := am H
   clear H
   go_wp2
   repeat (go_quiet (fail); try go_wp2)
   go_meet
   case rel => exact ⟨_, (decide (a2 < 1)), zS, H', ⟨by first | omega | exact Nat.le_refl _⟩, ⟨zB HB⟩⟩
 case rest =>
  clear HC4
  try clear c2
  try clear p2
  try clear c5
  try clear c5b0
  obtain ⟨kq, x18_3, rfl, HA, HJ3, HB⟩ := hcut
  cases kq with
  | zero => exact absurd HA.out (by simp [extent_Align.j0])
  | succ kj3 =>
   have H := HA.out
   clear HA
   simp only [extent_Align.j0] at H
   by_cases c6 : x18_3 = true
   ·subst c6
    have H1 : (some ([] : List (S25))) = some r := by rw [if_pos rfl] at H; exact H
    clear H
    have H := H1
    clear H1
    obtain rfl := Option.some.inj H
    go_wp2
    repeat (go_quiet (fail); try go_wp2)
    go_ret
    exact ⟨_, by first | rfl | (simp [errW_none, errW_some] <;> rfl) | (simp [*, errW_none, errW_some] <;> rfl), by first | exact Kd.R_nil _ _ _ _ _ | exact Kd.N_nil _ _ _ _ _ | exact Kd.V_nil _ _ _ _ _ | exact Kd.Q_nil _ _ _ _ _ | exact Kd.S_nil _ _ _ _ _, by repeat (first | (with_reducible first | exact HB.out | apply below_alloc | apply pw_below_drewN | apply below_drew1) | exact HB.out)⟩
   ·replace c6 := Bool.eq_false_iff.mpr c6
    subst c6
    have H1 : ((extent_Normal.f l0).bind fun t196 => (extent_Align.l0 kj3 a1 (mn a2 1125899906842624) ([] : List (S25)) t196 (t196.length : Int) 0)) = some r := by rw [if_neg (show ¬ (false = true) by decide)] at H; exact H
    clear H
    have H := H1
    clear H1
    obtain ⟨ji7, hji7⟩ : ∃ j_ : Int, (mn a2 1125899906842624) = j_ := ⟨_, rfl⟩
    replace H : ((extent_Normal.f l0).bind fun t196 => (extent_Align.l0 kj3 a1 ji7 ([] : List (S25)) t196 (t196.length : Int) 0)) = some r := by first | (rw [hji7] at H; exact H) | (simp only [hji7] at H ⊢; exact H)
    have hji7_ : (if 1125899906842624 < a2 then 1125899906842624 else a2) = ji7 := hji7
    replace H := Option.bind_eq_some_iff.mp H
    obtain ⟨t196, A80, H⟩ := H
    replace H : (extent_Align.l0 kj3 a1 ji7 ([] : List (S25)) t196 (t196.length : Int) 0) = some r := H
    have A8 := am A80
    clear A80
    have H' := am H
    clear H
    go_wp2_with (first | (go_at_call 41; (with_reducible refine (extent_Normal.calls _ _ l0 t196 _ ?side1 ?side2 A8.out).mono ?_); (case side1 => exact zC (Kd.C_below HR0.out HB.out)); (case side2 => exact HC0.out); rintro e w9 ⟨v197, rfl, ho0, hb⟩; have n0_ := am (Kd.R_lower ho0 (below_size (zB HB))); have n1_ := am (below_step (zB HB) hb); clear HB; have HO198 := n0_; have HB := n1_; clear n0_ n1_; (try clear hb); (try clear hb2); (try clear hk); (try clear hi); (try clear ho0); obtain ⟨Ao10, co10, eo10⟩ := Kd.R_slice HO198.out; subst eo10))
    repeat (go_quiet (first | (go_at_call 41; (with_reducible refine (extent_Normal.calls _ _ l0 t196 _ ?side1 ?side2 A8.out).mono ?_); (case side1 => exact zC (Kd.C_below HR0.out HB.out)); (case side2 => exact HC0.out); rintro e w9 ⟨v197, rfl, ho0, hb⟩; have n0_ := am (Kd.R_lower ho0 (below_size (zB HB))); have n1_ := am (below_step (zB HB) hb); clear HB; have HO198 := n0_; have HB := n1_; clear n0_ n1_; (try clear hb); (try clear hb2); (try clear hk); (try clear hi); (try clear ho0); obtain ⟨Ao10, co10, eo10⟩ := Kd.R_slice HO198.out; subst eo10)); try go_wp2_with (first | (go_at_call 41; (with_reducible refine (extent_Normal.calls _ _ l0 t196 _ ?side1 ?side2 A8.out).mono ?_); (case side1 => exact zC (Kd.C_below HR0.out HB.out)); (case side2 => exact HC0.out); rintro e w9 ⟨v197, rfl, ho0, hb⟩; have n0_ := am (Kd.R_lower ho0 (below_size (zB HB))); have n1_ := am (below_step (zB HB) hb); clear HB; have HO198 := n0_; have HB := n1_; clear n0_ n1_; (try clear hb); (try clear hb2); (try clear hk); (try clear hi); (try clear ho0); obtain ⟨Ao10, co10, eo10⟩ := Kd.R_slice HO198.out; subst eo10)))
    go_loopg [7, 24] kj3 (fun kq v7 v24 w' => ∃ (x7_2 : List (S25)) (x24_2 : Int), v24 = .int .i64 x24_2 ∧ Aside0 (extent_Align.l0 kq a1 ji7 x7_2 t196 (t196.length : Int) x24_2 = some r) ∧ Aside0 (kq ≤ kj3) ∧ Aside0 (Kd.R k25 25 w' w.heap.size (fun k_ => some k_ ≠ ((.slice Ao10 t196.length co10) : Value).ownBlock) v7 x7_2) ∧ Aside0 (Kd.R k25 25 w' w.heap.size (fun k_ => some k_ ≠ (v7 : Value).ownBlock) (.slice Ao10 t196.length co10) t196) ∧ Aside0 (Below w.heap.size w w'))
    case atStart => exact ⟨(([] : List (S25))), (0), zS, H', ⟨Nat.le_refl _⟩, ⟨by first | exact Kd.R_nil _ _ _ _ _ | exact Kd.N_nil _ _ _ _ _ | exact Kd.V_nil _ _ _ _ _ | exact Kd.Q_nil _ _ _ _ _ | exact Kd.S_nil _ _ _ _ _⟩, ⟨by refine zR ?_; exact Kd.R_mono HO198.out (fun _ hk => (by simp [Value.ownBlock]))⟩, ⟨zB HB⟩⟩
    case round =>
     clear H'
     try clear c2
     try clear p2
     try clear c5
     try clear c5b0
     try clear c6
     try clear p2
     obtain ⟨x7_2, x24_2, rfl, HA, HK2, HO_7, HO_22, HB⟩ := hrel
     cases gk with
     | zero => exact absurd HA.out (by simp [extent_Align.l0])
     | succ k2 =>
      have H := HA.out
      clear HA
      simp only [extent_Align.l0] at H
      by_cases c11 : x24_2 < (t196.length : Int)
      ·rw [if_pos c11] at H
       have c11b0 : decide (x24_2 < (t196.length : Int)) = true := decide_eq_true c11
       clear c11
       by_cases c12 : 0 ≤ x24_2
       ·rw [if_pos c12] at H
        have c12b0 : decide (0 ≤ x24_2) = true := decide_eq_true c12
        clear c12
        by_cases c13 : x24_2 < (t196.length : Int)
        ·rw [if_pos c13] at H
         have c13b0 : decide (x24_2 < (t196.length : Int)) = true := decide_eq_true c13
         clear c13
         by_cases c14 : a1 = 0
         ·rw [if_pos c14] at H
          exact absurd H (by simp)
         ·rw [if_neg c14] at H
          have c14b0 : (a1 == 0) = false := beq_eq_false_iff_ne.mpr c14
          have c14b1 : (a1 != 0) = true := bne_iff_ne.mpr c14
          have HC15 := am H
          clear H
          have p202 : 0 ≤ (x24_2 : Int) := of_decide_eq_true zA
          have q202 : x24_2 < (t196.length : Int) := of_decide_eq_true zA
          obtain ⟨ad202, e202, hx202_0, hx202_1⟩ := at_T25 (Kd.R_reads' HO_22.out).2.2 x24_2 p202 q202
          cases e202
          replace p202 := eq_true p202
          replace q202 := eq_true q202
          go_upto_if 48 with (first | ((with_reducible refine gate_dst (N := 9) rfl ?_); refine box_event ?hg (N := 9) ?hd (cs := #[.int .i64 0, .int .i64 0]) (t := 25) ?hr ?_; (case hd => rfl); (case hg => rfl); (case hr => first | (go_simp; done) | (go_simp; rfl)); intro gb203 hg w16 hbox hb; have n0_ := am (Kd.R_below (Kd.R_elderB (zR HO_7.out) gb203 (Nat.le_of_eq hg.symm)) hb); have n1_ := am (Kd.R_below (Kd.R_elderB (zR HO_22.out) gb203 (Nat.le_of_eq hg.symm)) hb); have n2_ := am (below_step (zB HB) hb); have n3_ := am (hbox); have n4_ := am ((by rw [hg]; exact (below_size (zB HB)) : w.heap.size ≤ gb203)); have n5_ := am ((by rw [hg]; exact (below_size (zB HB)) : w.heap.size ≤ gb203)); clear HO_7; clear HO_22; clear HB; have HO_7 := n0_; have HO_22 := n1_; have HB := n2_; have BK203 := n3_; have GW203 := n4_; have GE203 := n5_; clear n0_ n1_ n2_ n3_ n4_ n5_; clear hb hbox hg; have hcz17_0 : w16.cell? ⟨gb203, 0, none⟩ = some (.int .i64 0) := (blk_cell BK203.out 0).trans rfl; have hcz17_1 : w16.cell? ⟨gb203, 1, none⟩ = some (.int .i64 0) := (blk_cell BK203.out 1).trans rfl; have hfz17_0 := blk_frozen BK203.out 0; have hfz17_1 := blk_frozen BK203.out 1))
          repeat (go_quiet (first | ((with_reducible refine gate_dst (N := 9) rfl ?_); refine box_event ?hg (N := 9) ?hd (cs := #[.int .i64 0, .int .i64 0]) (t := 25) ?hr ?_; (case hd => rfl); (case hg => rfl); (case hr => first | (go_simp; done) | (go_simp; rfl)); intro gb203 hg w16 hbox hb; have n0_ := am (Kd.R_below (Kd.R_elderB (zR HO_7.out) gb203 (Nat.le_of_eq hg.symm)) hb); have n1_ := am (Kd.R_below (Kd.R_elderB (zR HO_22.out) gb203 (Nat.le_of_eq hg.symm)) hb); have n2_ := am (below_step (zB HB) hb); have n3_ := am (hbox); have n4_ := am ((by rw [hg]; exact (below_size (zB HB)) : w.heap.size ≤ gb203)); have n5_ := am ((by rw [hg]; exact (below_size (zB HB)) : w.heap.size ≤ gb203)); clear HO_7; clear HO_22; clear HB; have HO_7 := n0_; have HO_22 := n1_; have HB := n2_; have BK203 := n3_; have GW203 := n4_; have GE203 := n5_; clear n0_ n1_ n2_ n3_ n4_ n5_; clear hb hbox hg; have hcz17_0 : w16.cell? ⟨gb203, 0, none⟩ = some (.int .i64 0) := (blk_cell BK203.out 0).trans rfl; have hcz17_1 : w16.cell? ⟨gb203, 1, none⟩ = some (.int .i64 0) := (blk_cell BK203.out 1).trans rfl; have hfz17_0 := blk_frozen BK203.out 0; have hfz17_1 := blk_frozen BK203.out 1)); go_upto_if 48 with (first | ((with_reducible refine gate_dst (N := 9) rfl ?_); refine box_event ?hg (N := 9) ?hd (cs := #[.int .i64 0, .int .i64 0]) (t := 25) ?hr ?_; (case hd => rfl); (case hg => rfl); (case hr => first | (go_simp; done) | (go_simp; rfl)); intro gb203 hg w16 hbox hb; have n0_ := am (Kd.R_below (Kd.R_elderB (zR HO_7.out) gb203 (Nat.le_of_eq hg.symm)) hb); have n1_ := am (Kd.R_below (Kd.R_elderB (zR HO_22.out) gb203 (Nat.le_of_eq hg.symm)) hb); have n2_ := am (below_step (zB HB) hb); have n3_ := am (hbox); have n4_ := am ((by rw [hg]; exact (below_size (zB HB)) : w.heap.size ≤ gb203)); have n5_ := am ((by rw [hg]; exact (below_size (zB HB)) : w.heap.size ≤ gb203)); clear HO_7; clear HO_22; clear HB; have HO_7 := n0_; have HO_22 := n1_; have HB := n2_; have BK203 := n3_; have GW203 := n4_; have GE203 := n5_; clear n0_ n1_ n2_ n3_ n4_ n5_; clear hb hbox hg; have hcz17_0 : w16.cell? ⟨gb203, 0, none⟩ = some (.int .i64 0) := (blk_cell BK203.out 0).trans rfl; have hcz17_1 : w16.cell? ⟨gb203, 1, none⟩ = some (.int .i64 0) := (blk_cell BK203.out 1).trans rfl; have hfz17_0 := blk_frozen BK203.out 0; have hfz17_1 := blk_frozen BK203.out 1)))
          (try simp only [Act.put, List.setIfInBounds_toArray, List.set_cons_zero, List.set_cons_succ])
          go_cut [11] (fun v11 wc => ∃ (kq : Nat) (x11_14 : Int), v11 = .int .i64 x11_14 ∧ Aside0 (extent_Align.j2 kq a1 ji7 x7_2 (wrap64 (((rd_T25 t196 x24_2).f0) - (Int.tmod ((rd_T25 t196 x24_2).f0) a1))) x11_14 t196 (t196.length : Int) x24_2 = some r) ∧ Aside0 (kq ≤ k2) ∧ Aside0 (Kd.R k25 25 wc w.heap.size (fun k_ => some k_ ≠ ((.slice (some ad202) t196.length co10) : Value).ownBlock ∧ k_ ≠ gb203) u7 x7_2) ∧ Aside0 (Kd.R k25 25 wc w.heap.size (fun k_ => some k_ ≠ (u7 : Value).ownBlock ∧ k_ ≠ gb203) (.slice (some ad202) t196.length co10) t196) ∧ Aside0 (wc.heap[gb203]? = some (.cells #[.int .i64 ((rd_T25 t196 x24_2).f0), .int .i64 ((rd_T25 t196 x24_2).f1)] 25 (0, 0))) ∧ Aside0 (Below w.heap.size w wc))
          case first =>
           have H := HC15.out
           clear HC15
           by_cases c18 : (wrap64 (Int.tdiv (wrap64 ((wrap64 (((rd_T25 t196 x24_2).f0) + ((rd_T25 t196 x24_2).f1))) - 1)) a1)) < (wrap64 (Int.tdiv ji7 a1))
           ·rw [if_pos c18] at H
            have c18b0 : decide ((wrap64 (Int.tdiv (wrap64 ((wrap64 (((rd_T25 t196 x24_2).f0) + ((rd_T25 t196 x24_2).f1))) - 1)) a1)) < (wrap64 (Int.tdiv ji7 a1))) = true := decide_eq_true c18
            clear c18
            (first | rw [c18b0] | (simp only [i64_w, i32_w]; rw [c18b0]) | skip)
            have H' := am H
            clear H
            go_wp2
            repeat (go_quiet (fail); try go_wp2)
            go_meet
            case rel => exact ⟨_, (wrap64 ((wrap64 ((wrap64 (Int.tdiv (wrap64 ((wrap64 (((rd_T25 t196 x24_2).f0) + ((rd_T25 t196 x24_2).f1))) - 1)) a1)) + 1)) * a1)), zS, H', ⟨by have := HJ3.out; have := HK2.out; first | omega | exact Nat.le_refl _⟩, ⟨by refine zR ?_; exact Kd.R_mono (Kd.R_far (p := ⟨gb203, 1, none⟩) (Kd.R_far (p := ⟨gb203, 0, none⟩) (Kd.R_mono HO_7.out (fun k_ hk => (⟨hk, hk.2⟩ : _ ∧ k_ ≠ gb203))) (fun _ hk => hk.2) (.int .i64 ((rd_T25 t196 x24_2).f0))) (fun _ hk => hk.2) (.int .i64 ((rd_T25 t196 x24_2).f1))) (fun _ hk => ⟨hk.1.1, hk.1.2⟩)⟩, ⟨by refine zR ?_; exact Kd.R_mono (Kd.R_far (p := ⟨gb203, 1, none⟩) (Kd.R_far (p := ⟨gb203, 0, none⟩) (Kd.R_mono HO_22.out (fun k_ hk => (⟨hk, hk.2⟩ : _ ∧ k_ ≠ gb203))) (fun _ hk => hk.2) (.int .i64 ((rd_T25 t196 x24_2).f0))) (fun _ hk => hk.2) (.int .i64 ((rd_T25 t196 x24_2).f1))) (fun _ hk => ⟨hk.1.1, hk.1.2⟩)⟩, ⟨by refine zL ?_; refine blk_put (cs := #[.int .i64 ((rd_T25 t196 x24_2).f0), .int .i64 0]) ?_ 1 _ rfl; refine zL ?_; refine blk_put (cs := #[.int .i64 0, .int .i64 0]) ?_ 0 _ rfl; refine zL ?_; exact BK203.out⟩, ⟨zG HB GE203⟩⟩
           ·rw [if_neg c18] at H
            have c18b0 : decide ((wrap64 (Int.tdiv (wrap64 ((wrap64 (((rd_T25 t196 x24_2).f0) + ((rd_T25 t196 x24_2).f1))) - 1)) a1)) < (wrap64 (Int.tdiv ji7 a1))) = false := decide_eq_false c18
            clear c18
            (first | rw [c18b0] | (simp only [i64_w, i32_w]; rw [c18b0]) | skip)
            have H' := am H
            clear H
            go_wp2
            repeat (go_quiet (fail); try go_wp2)
            go_meet
            case rel => exact ⟨_, (ji7), (by first | rfl | (simp; done) | (simp only [← hji7] <;> (first | rfl | simp)) | (simp [*]; done)), H', ⟨by have := HJ3.out; have := HK2.out; first | omega | exact Nat.le_refl _⟩, ⟨by refine zR ?_; exact Kd.R_mono (Kd.R_far (p := ⟨gb203, 1, none⟩) (Kd.R_far (p := ⟨gb203, 0, none⟩) (Kd.R_mono HO_7.out (fun k_ hk => (⟨hk, hk.2⟩ : _ ∧ k_ ≠ gb203))) (fun _ hk => hk.2) (.int .i64 ((rd_T25 t196 x24_2).f0))) (fun _ hk => hk.2) (.int .i64 ((rd_T25 t196 x24_2).f1))) (fun _ hk => ⟨hk.1.1, hk.1.2⟩)⟩, ⟨by refine zR ?_; exact Kd.R_mono (Kd.R_far (p := ⟨gb203, 1, none⟩) (Kd.R_far (p := ⟨gb203, 0, none⟩) (Kd.R_mono HO_22.out (fun k_ hk => (⟨hk, hk.2⟩ : _ ∧ k_ ≠ gb203))) (fun _ hk => hk.2) (.int .i64 ((rd_T25 t196 x24_2).f0))) (fun _ hk => hk.2) (.int .i64 ((rd_T25 t196 x24_2).f1))) (fun _ hk => ⟨hk.1.1, hk.1.2⟩)⟩, ⟨by refine zL ?_; refine blk_put (cs := #[.int .i64 ((rd_T25 t196 x24_2).f0), .int .i64 0]) ?_ 1 _ rfl; refine zL ?_; refine blk_put (cs := #[.int .i64 0, .int .i64 0]) ?_ 0 _ rfl; refine zL ?_; exact BK203.out⟩, ⟨zG HB GE203⟩⟩
          case rest =>
           clear HC15
           try clear c1
           try clear c2
           try clear p2
           try clear q2
           try clear hx2
           try clear c5
           try clear c5b0
           try clear c6
           try clear p6
           try clear c11
           try clear c11b0
           try clear c12
           try clear c12b0
           try clear c13
           try clear c13b0
           try clear c14
           try clear c14b0
           try clear c14b1
           try clear c18
           try clear c18b0
           try clear hcz17_0
           try clear hcz17_1
           try clear hfz17_0
           try clear hfz17_1
           try clear hx202_0
           try clear hx202_1
           try clear p2
           try clear p202
           try clear q202
           obtain ⟨kq, x11_14, rfl, HA, HJ14, HO_7, HO_22, BK203, HB⟩ := hcut
           cases kq with
           | zero => exact absurd HA.out (by simp [extent_Align.j2])
           | succ kj14 =>
            have H := HA.out
            clear HA
            simp only [extent_Align.j2] at H
            by_cases c19 : (wrap64 (((rd_T25 t196 x24_2).f0) - (Int.tmod ((rd_T25 t196 x24_2).f0) a1))) < x11_14
            ·rw [if_pos c19] at H
             have c19b0 : decide ((wrap64 (((rd_T25 t196 x24_2).f0) - (Int.tmod ((rd_T25 t196 x24_2).f0) a1))) < x11_14) = true := decide_eq_true c19
             clear c19
             by_cases c20 : x7_2.length < 8796093022208
             ·rw [if_pos c20] at H
              have LMc20 := am c20
              clear c20
              obtain ⟨y204, hy204⟩ : ∃ y_ : List (S25), y_ = (x7_2 ++ [(⟨(wrap64 (((rd_T25 t196 x24_2).f0) - (Int.tmod ((rd_T25 t196 x24_2).f0) a1))), wrap64 (x11_14 - (wrap64 (((rd_T25 t196 x24_2).f0) - (Int.tmod ((rd_T25 t196 x24_2).f0) a1))))⟩ : S25)]) := ⟨_, rfl⟩
              replace H : (extent_Align.l0 kj14 a1 ji7 y204 t196 (t196.length : Int) (wrap64 (x24_2 + 1))) = some r := by first | (rw [hy204]; with_reducible exact H) | (have H2_ := (Option.bind_some _ _).symm.trans H; rw [hy204]; with_reducible exact H2_) | (have H2_ := (Option.bind_some _ _).symm.trans H; with_reducible exact H2_) | with_reducible exact H | (rw [hy204]; exact H) | exact H
              have Ny204 := am hy204
              clear hy204
              have H' := am H
              clear H
              go_wp2_with (first | ((with_reducible refine gate_builtin (b := .append) (xs := #[.tmp 58, .tmp 64]) rfl ?_); at_builtin; refine Kd.R_append k25 (w0 := w) w.heap.size rfl (.tmp 58) (.tmp 64) 38 25 (.agg #[(.int .i64 0), (.int .i64 0)]) 16 rfl Try.underlying38 info25 rfl (by decide) (by omega) u7 x7_2 (⟨(wrap64 (((rd_T25 t196 x24_2).f0) - (Int.tmod ((rd_T25 t196 x24_2).f0) a1))), wrap64 (x11_14 - (wrap64 (((rd_T25 t196 x24_2).f0) - (Int.tmod ((rd_T25 t196 x24_2).f0) a1))))⟩ : S25) [.int .i64 (wrap64 (((rd_T25 t196 x24_2).f0) - (Int.tmod ((rd_T25 t196 x24_2).f0) a1))), .int .i64 (wrap64 (x11_14 - (wrap64 (((rd_T25 t196 x24_2).f0) - (Int.tmod ((rd_T25 t196 x24_2).f0) a1)))))] (fun k_ => some k_ ≠ (.slice (some ad202) t196.length co10 : Value).ownBlock ∧ k_ ≠ gb203) (fun _ => False) rfl rfl ?aP (fun _ hk => hk.elim) ?aF ?aO ?aB ?aS ?aL ?_; (case aP => exact k25_mkM _ _ _ (⟨(wrap64 (((rd_T25 t196 x24_2).f0) - (Int.tmod ((rd_T25 t196 x24_2).f0) a1))), wrap64 (x11_14 - (wrap64 (((rd_T25 t196 x24_2).f0) - (Int.tmod ((rd_T25 t196 x24_2).f0) a1))))⟩ : S25)); (case aB => exact (zG HB GE203)); (case aF => exact (fun k_ hk => ⟨Kd.fresh' (Kd.R_lt (zR HO_22.out)) k_ hk, Kd.freshB (g := gb203) (o := .cells #[.int .i64 ((rd_T25 t196 x24_2).f0), .int .i64 ((rd_T25 t196 x24_2).f1)] 25 (0, 0)) (zL BK203.out) k_ hk⟩)); (case aO => exact (zR HO_7.out)); (case aS => exact (below_size (zG HB GE203))); (case aL => have := LMc20.out; omega); intro v205 w21 ho hb hg hat; rw [← Ny204.out] at ho; have n0_ := am (Kd.R_after (ok := (fun k_ => k_ ≠ gb203)) (by refine zR ?_; exact Kd.R_mono HO_22.out (fun _ hk => ⟨hk.2, hk.1⟩)) hg hat); have n1_ := am (blk_grown (g := gb203) (o := .cells #[.int .i64 ((rd_T25 t196 x24_2).f0), .int .i64 ((rd_T25 t196 x24_2).f1)] 25 (0, 0)) (zL BK203.out) hg (Kd.R_away HO_7.out (fun _ hk => hk.2))); have n2_ := am (hb); have n3_ := am (ho); clear HO_22; clear BK203; clear HB; clear HO_7; have HO_22 := n0_; have BK203 := n1_; have HB := n2_; have HO206 := n3_; clear n0_ n1_ n2_ n3_; clear ho hb hg hat))
              repeat (go_quiet (first | ((with_reducible refine gate_builtin (b := .append) (xs := #[.tmp 58, .tmp 64]) rfl ?_); at_builtin; refine Kd.R_append k25 (w0 := w) w.heap.size rfl (.tmp 58) (.tmp 64) 38 25 (.agg #[(.int .i64 0), (.int .i64 0)]) 16 rfl Try.underlying38 info25 rfl (by decide) (by omega) u7 x7_2 (⟨(wrap64 (((rd_T25 t196 x24_2).f0) - (Int.tmod ((rd_T25 t196 x24_2).f0) a1))), wrap64 (x11_14 - (wrap64 (((rd_T25 t196 x24_2).f0) - (Int.tmod ((rd_T25 t196 x24_2).f0) a1))))⟩ : S25) [.int .i64 (wrap64 (((rd_T25 t196 x24_2).f0) - (Int.tmod ((rd_T25 t196 x24_2).f0) a1))), .int .i64 (wrap64 (x11_14 - (wrap64 (((rd_T25 t196 x24_2).f0) - (Int.tmod ((rd_T25 t196 x24_2).f0) a1)))))] (fun k_ => some k_ ≠ (.slice (some ad202) t196.length co10 : Value).ownBlock ∧ k_ ≠ gb203) (fun _ => False) rfl rfl ?aP (fun _ hk => hk.elim) ?aF ?aO ?aB ?aS ?aL ?_; (case aP => exact k25_mkM _ _ _ (⟨(wrap64 (((rd_T25 t196 x24_2).f0) - (Int.tmod ((rd_T25 t196 x24_2).f0) a1))), wrap64 (x11_14 - (wrap64 (((rd_T25 t196 x24_2).f0) - (Int.tmod ((rd_T25 t196 x24_2).f0) a1))))⟩ : S25)); (case aB => exact (zG HB GE203)); (case aF => exact (fun k_ hk => ⟨Kd.fresh' (Kd.R_lt (zR HO_22.out)) k_ hk, Kd.freshB (g := gb203) (o := .cells #[.int .i64 ((rd_T25 t196 x24_2).f0), .int .i64 ((rd_T25 t196 x24_2).f1)] 25 (0, 0)) (zL BK203.out) k_ hk⟩)); (case aO => exact (zR HO_7.out)); (case aS => exact (below_size (zG HB GE203))); (case aL => have := LMc20.out; omega); intro v205 w21 ho hb hg hat; rw [← Ny204.out] at ho; have n0_ := am (Kd.R_after (ok := (fun k_ => k_ ≠ gb203)) (by refine zR ?_; exact Kd.R_mono HO_22.out (fun _ hk => ⟨hk.2, hk.1⟩)) hg hat); have n1_ := am (blk_grown (g := gb203) (o := .cells #[.int .i64 ((rd_T25 t196 x24_2).f0), .int .i64 ((rd_T25 t196 x24_2).f1)] 25 (0, 0)) (zL BK203.out) hg (Kd.R_away HO_7.out (fun _ hk => hk.2))); have n2_ := am (hb); have n3_ := am (ho); clear HO_22; clear BK203; clear HB; clear HO_7; have HO_22 := n0_; have BK203 := n1_; have HB := n2_; have HO206 := n3_; clear n0_ n1_ n2_ n3_; clear ho hb hg hat)); try go_wp2_with (first | ((with_reducible refine gate_builtin (b := .append) (xs := #[.tmp 58, .tmp 64]) rfl ?_); at_builtin; refine Kd.R_append k25 (w0 := w) w.heap.size rfl (.tmp 58) (.tmp 64) 38 25 (.agg #[(.int .i64 0), (.int .i64 0)]) 16 rfl Try.underlying38 info25 rfl (by decide) (by omega) u7 x7_2 (⟨(wrap64 (((rd_T25 t196 x24_2).f0) - (Int.tmod ((rd_T25 t196 x24_2).f0) a1))), wrap64 (x11_14 - (wrap64 (((rd_T25 t196 x24_2).f0) - (Int.tmod ((rd_T25 t196 x24_2).f0) a1))))⟩ : S25) [.int .i64 (wrap64 (((rd_T25 t196 x24_2).f0) - (Int.tmod ((rd_T25 t196 x24_2).f0) a1))), .int .i64 (wrap64 (x11_14 - (wrap64 (((rd_T25 t196 x24_2).f0) - (Int.tmod ((rd_T25 t196 x24_2).f0) a1)))))] (fun k_ => some k_ ≠ (.slice (some ad202) t196.length co10 : Value).ownBlock ∧ k_ ≠ gb203) (fun _ => False) rfl rfl ?aP (fun _ hk => hk.elim) ?aF ?aO ?aB ?aS ?aL ?_; (case aP => exact k25_mkM _ _ _ (⟨(wrap64 (((rd_T25 t196 x24_2).f0) - (Int.tmod ((rd_T25 t196 x24_2).f0) a1))), wrap64 (x11_14 - (wrap64 (((rd_T25 t196 x24_2).f0) - (Int.tmod ((rd_T25 t196 x24_2).f0) a1))))⟩ : S25)); (case aB => exact (zG HB GE203)); (case aF => exact (fun k_ hk => ⟨Kd.fresh' (Kd.R_lt (zR HO_22.out)) k_ hk, Kd.freshB (g := gb203) (o := .cells #[.int .i64 ((rd_T25 t196 x24_2).f0), .int .i64 ((rd_T25 t196 x24_2).f1)] 25 (0, 0)) (zL BK203.out) k_ hk⟩)); (case aO => exact (zR HO_7.out)); (case aS => exact (below_size (zG HB GE203))); (case aL => have := LMc20.out; omega); intro v205 w21 ho hb hg hat; rw [← Ny204.out] at ho; have n0_ := am (Kd.R_after (ok := (fun k_ => k_ ≠ gb203)) (by refine zR ?_; exact Kd.R_mono HO_22.out (fun _ hk => ⟨hk.2, hk.1⟩)) hg hat); have n1_ := am (blk_grown (g := gb203) (o := .cells #[.int .i64 ((rd_T25 t196 x24_2).f0), .int .i64 ((rd_T25 t196 x24_2).f1)] 25 (0, 0)) (zL BK203.out) hg (Kd.R_away HO_7.out (fun _ hk => hk.2))); have n2_ := am (hb); have n3_ := am (ho); clear HO_22; clear BK203; clear HB; clear HO_7; have HO_22 := n0_; have BK203 := n1_; have HB := n2_; have HO206 := n3_; clear n0_ n1_ n2_ n3_; clear ho hb hg hat)))
              go_roundg kj14
              case measure => have := HJ3.out; have := HK2.out; have := HJ14.out; omega
              case rel => exact ⟨(y204), (wrap64 (x24_2 + 1)), zS, H', ⟨by have := HJ3.out; have := HK2.out; have := HJ14.out; omega⟩, ⟨by refine zR ?_; exact Kd.R_mono HO206.out (fun _ hk => hk.1)⟩, ⟨by refine zR ?_; exact Kd.R_mono HO_22.out (fun _ hk => hk.2)⟩, ⟨zG HB GE203⟩⟩
             ·rw [if_neg c20] at H
              exact absurd H (by simp)
            ·rw [if_neg c19] at H
             have c19b0 : decide ((wrap64 (((rd_T25 t196 x24_2).f0) - (Int.tmod ((rd_T25 t196 x24_2).f0) a1))) < x11_14) = false := decide_eq_false c19
             clear c19
             have H' := am H
             clear H
             go_wp2
             repeat (go_quiet (fail); try go_wp2)
             go_roundg kj14
             case measure => have := HJ3.out; have := HK2.out; have := HJ14.out; omega
             case rel => exact ⟨(x7_2), (wrap64 (x24_2 + 1)), zS, H', ⟨by have := HJ3.out; have := HK2.out; have := HJ14.out; omega⟩, ⟨by refine zR ?_; exact Kd.R_mono HO_7.out (fun _ hk => hk.1)⟩, ⟨by refine zR ?_; exact Kd.R_mono HO_22.out (fun _ hk => hk.1)⟩, ⟨zG HB GE203⟩⟩
        ·rw [if_neg c13] at H
         exact absurd H (by simp)
       ·rw [if_neg c12] at H
        exact absurd H (by simp)
      ·rw [if_neg c11] at H
       have c11b0 : decide (x24_2 < (t196.length : Int)) = false := decide_eq_false c11
       clear c11
       replace H := Option.bind_eq_some_iff.mp H
       obtain ⟨t199, A220, H⟩ := H
       replace H : (some t199) = some r := H
       have A22 := am A220
       clear A220
       obtain rfl := Option.some.inj H
       obtain ⟨Ao23, co23, eo23⟩ := Kd.R_slice HO_7.out
       subst eo23
       go_wp2_with (first | (go_at_call 41; (with_reducible refine (extent_Normal.calls _ _ x7_2 t199 _ ?side1 ?side2 A22.out).mono ?_); (case side1 => exact zC (Kd.R_reads' HO_7.out).2.2); (case side2 => exact (Kd.R_reads' HO_7.out).2.1); rintro e w24 ⟨v200, rfl, ho0, hb⟩; have n0_ := am (Kd.R_elder' (zR HO_7.out) (Kd.R_base ho0) hb); have n1_ := am (Kd.R_elder' (zR HO_22.out) (Kd.R_base ho0) hb); have n2_ := am (Kd.R_lower (Kd.R_new' (Kd.R_new' ho0 (Kd.R_lt (zR HO_7.out))) (Kd.R_lt (zR HO_22.out))) (below_size (zB HB))); have n3_ := am (below_step (zB HB) hb); clear HO_7; clear HO_22; clear HB; have HO_7 := n0_; have HO_22 := n1_; have HO201 := n2_; have HB := n3_; clear n0_ n1_ n2_ n3_; (try clear hb); (try clear hb2); (try clear hk); (try clear hi); (try clear ho0)))
       repeat (go_quiet (first | (go_at_call 41; (with_reducible refine (extent_Normal.calls _ _ x7_2 t199 _ ?side1 ?side2 A22.out).mono ?_); (case side1 => exact zC (Kd.R_reads' HO_7.out).2.2); (case side2 => exact (Kd.R_reads' HO_7.out).2.1); rintro e w24 ⟨v200, rfl, ho0, hb⟩; have n0_ := am (Kd.R_elder' (zR HO_7.out) (Kd.R_base ho0) hb); have n1_ := am (Kd.R_elder' (zR HO_22.out) (Kd.R_base ho0) hb); have n2_ := am (Kd.R_lower (Kd.R_new' (Kd.R_new' ho0 (Kd.R_lt (zR HO_7.out))) (Kd.R_lt (zR HO_22.out))) (below_size (zB HB))); have n3_ := am (below_step (zB HB) hb); clear HO_7; clear HO_22; clear HB; have HO_7 := n0_; have HO_22 := n1_; have HO201 := n2_; have HB := n3_; clear n0_ n1_ n2_ n3_; (try clear hb); (try clear hb2); (try clear hk); (try clear hi); (try clear ho0))); try go_wp2_with (first | (go_at_call 41; (with_reducible refine (extent_Normal.calls _ _ x7_2 t199 _ ?side1 ?side2 A22.out).mono ?_); (case side1 => exact zC (Kd.R_reads' HO_7.out).2.2); (case side2 => exact (Kd.R_reads' HO_7.out).2.1); rintro e w24 ⟨v200, rfl, ho0, hb⟩; have n0_ := am (Kd.R_elder' (zR HO_7.out) (Kd.R_base ho0) hb); have n1_ := am (Kd.R_elder' (zR HO_22.out) (Kd.R_base ho0) hb); have n2_ := am (Kd.R_lower (Kd.R_new' (Kd.R_new' ho0 (Kd.R_lt (zR HO_7.out))) (Kd.R_lt (zR HO_22.out))) (below_size (zB HB))); have n3_ := am (below_step (zB HB) hb); clear HO_7; clear HO_22; clear HB; have HO_7 := n0_; have HO_22 := n1_; have HO201 := n2_; have HB := n3_; clear n0_ n1_ n2_ n3_; (try clear hb); (try clear hb2); (try clear hk); (try clear hi); (try clear ho0))))
       go_ret
       exact ⟨_, by first | rfl | (simp [errW_none, errW_some] <;> rfl) | (simp only [← hji7]; first | rfl | (simp [errW_none, errW_some] <;> rfl)) | (simp [*, errW_none, errW_some] <;> rfl), by refine zR ?_; exact Kd.R_mono HO201.out (fun _ hk => trivial), by repeat (first | (with_reducible first | exact HB.out | apply below_alloc | apply pw_below_drewN | apply below_drew1) | exact HB.out)⟩

/-! ### prefetch_Requests: function 14 -/
def prefetch_Requests.f (k : Nat) (l0 : List (S25)) (a1_0 : Int) (a1_1 : Int) (a2 : Int) (a3 : Int) : Option ((List (S25))) := (extent_Union.f l0 (([(⟨a1_0, a1_1⟩ : S25)] : List (S25)))).bind fun t211 => ((extent_Align.f k t211 64 a2).bind fun t214 => ((extent_Gaps.f k t214 a3).bind fun t217 => (some t217)))
theorem prefetch_Requests.mono : ∀ a0 a1 a2 a3 a4 k, LeO (prefetch_Requests.f k a0 a1 a2 a3 a4) (prefetch_Requests.f (k + 1) a0 a1 a2 a3 a4) := by
 intro a0 a1 a2 a3 a4 k
 unfold prefetch_Requests.f
 repeat' first
   | (with_reducible exact extent_Align.mono _ _ _ _)
   | (with_reducible exact extent_Gaps.mono _ _ _)
   | (with_reducible exact LeO.refl _)
   | (with_reducible exact LeO.none _)
   | (with_reducible refine LeO.ite ?_ ?_)
   | (with_reducible refine LeO.bind ?_ (fun _ => ?_))
   | exact extent_Align.mono _ _ _ _
   | exact extent_Gaps.mono _ _ _
   | exact LeO.none _
   | refine LeO.ite ?_ ?_
   | refine LeO.bind ?_ (fun _ => ?_)
set_option maxHeartbeats 8000000 in
set_option maxRecDepth 100000 in
theorem prefetch_Requests.calls (k : Nat) (A0 : Option Addr) (c0 : Nat) (l0 : List (S25)) (a1_0 : Int) (a1_1 : Int) (a2 : Int) (a3 : Int) (r : List (S25)) (w : World) (hr0 : Kd.C k25 w A0 l0.length l0) (hc0 : l0.length ≤ c0) (h : prefetch_Requests.f k l0 a1_0 a1_1 a2 a3 = some r) :
  Calls Try.prog 14 #[.slice A0 l0.length c0, .agg #[.int .i64 a1_0, .int .i64 a1_1], .int .i64 a2, .int .i64 a3] w fun e w' => ∃ v0_ : Value, e = .returned (v0_) ∧ Kd.R k25 25 w' w.heap.size (fun _ => True) v0_ r ∧ Below w.heap.size w w' := by
 have hu25 := Try.underlying25
 have HR0 := am hr0
 have HC0 := am hc0
 clear hr0 hc0
 have HB := am (Below.refl w.heap.size w)
 have H : ((extent_Union.f l0 (([(⟨a1_0, a1_1⟩ : S25)] : List (S25)))).bind fun t211 => ((extent_Align.f k t211 64 a2).bind fun t214 => ((extent_Gaps.f k t214 a3).bind fun t217 => (some t217)))) = some r := h
 clear h
 obtain ⟨y208, hy208⟩ : ∃ y_ : List (S25), y_ = (([(⟨a1_0, a1_1⟩ : S25)] : List (S25))) := ⟨_, rfl⟩
 replace H : ((extent_Union.f l0 y208).bind fun t211 => ((extent_Align.f k t211 64 a2).bind fun t214 => ((extent_Gaps.f k t214 a3).bind fun t217 => (some t217)))) = some r := by first | (rw [hy208]; with_reducible exact H) | (have H2_ := (Option.bind_some _ _).symm.trans H; rw [hy208]; with_reducible exact H2_) | (have H2_ := (Option.bind_some _ _).symm.trans H; with_reducible exact H2_) | with_reducible exact H | (rw [hy208]; exact H) | exact H
 have Ny208 := am hy208
 clear hy208
 replace H := Option.bind_eq_some_iff.mp H
 obtain ⟨t211, A50, H⟩ := H
 replace H : ((extent_Align.f k t211 64 a2).bind fun t214 => ((extent_Gaps.f k t214 a3).bind fun t217 => (some t217))) = some r := H
 have A5 := am A50
 clear A50
 replace H := Option.bind_eq_some_iff.mp H
 obtain ⟨t214, A60, H⟩ := H
 replace H : ((extent_Gaps.f k t214 a3).bind fun t217 => (some t217)) = some r := H
 have A6 := am A60
 clear A60
 replace H := Option.bind_eq_some_iff.mp H
 obtain ⟨t217, A70, H⟩ := H
 replace H : (some t217) = some r := H
 have A7 := am A70
 clear A70
 obtain rfl := Option.some.inj H
 go_enter Try.func14, Try.ntmps14
 go_wp2_with (first | ((with_reducible refine gate_dst (N := 5) rfl ?_); refine box_event ?hg (N := 5) ?hd (cs := #[.int .i64 a1_0, .int .i64 a1_1]) (t := 25) ?hr ?_; (case hd => rfl); (case hg => rfl); (case hr => first | (go_simp; done) | (go_simp; rfl)); intro gb207 hg w8 hbox hb; have n0_ := am (below_step (zB HB) hb); have n1_ := am (hbox); have n2_ := am ((by rw [hg]; exact (below_size (zB HB)) : w.heap.size ≤ gb207)); have n3_ := am ((by rw [hg]; exact (below_size (zB HB)) : w.heap.size ≤ gb207)); clear HB; have HB := n0_; have BK207 := n1_; have GW207 := n2_; have GE207 := n3_; clear n0_ n1_ n2_ n3_; clear hb hbox hg; have hcz9_0 : w8.cell? ⟨gb207, 0, none⟩ = some (.int .i64 a1_0) := (blk_cell BK207.out 0).trans rfl; have hcz9_1 : w8.cell? ⟨gb207, 1, none⟩ = some (.int .i64 a1_1) := (blk_cell BK207.out 1).trans rfl; have hfz9_0 := blk_frozen BK207.out 0; have hfz9_1 := blk_frozen BK207.out 1) | ((with_reducible refine gate_dst (N := 12) rfl ?_); refine Kd.R_lit k25 _ 25 ?hg (N := 12) ?hd (xs := ([(⟨a1_0, a1_1⟩ : S25)] : List (S25))) (inner := [.int .i64 a1_0, .int .i64 a1_1]) (ok := fun _ => True) (okp := fun _ => True) ?hr ?hp (fun _ hk => hk) trivial (Below.refl _ _) (Nat.le_refl _) (by simp) ?_; (case hd => rfl); (case hg => rfl); (case hr => first | (go_simp; done) | (go_simp; rfl)); (case hp => exact (Reps.c2 (show Kd.M k25 _ _ _ (⟨a1_0, a1_1⟩ : S25) [.int .i64 a1_0, .int .i64 a1_1] from (k25_mkM _ _ _ (⟨a1_0, a1_1⟩ : S25) )) (Reps.none _ _))); intro v209 w10 ho11 hb hg_ hnew_; clear hg_ hnew_; (first | rw [← Ny208.out] at ho11 | (simp only [Int.reduceToNat] at ho11; rw [← Ny208.out] at ho11)); have n0_ := am (Kd.R_lower (Kd.R_newB ho11 (g := gb207) (o := .cells #[.int .i64 a1_0, .int .i64 a1_1] 25 (0, 0)) (zL BK207.out)) (below_size (zG HB GE207))); have n1_ := am (blk_below (g := gb207) (o := .cells #[.int .i64 a1_0, .int .i64 a1_1] 25 (0, 0)) (zL BK207.out) hb); have n2_ := am (below_step (zG HB GE207) hb); clear BK207; clear HB; have HO210 := n0_; have BK207 := n1_; have HB := n2_; clear n0_ n1_ n2_; clear hb ho11; obtain ⟨Ao12, co12, eo12⟩ := Kd.R_slice HO210.out; subst eo12) | ((with_reducible refine gate_callee (f := 27) rfl ?_); refine goesL_ (some 13) rfl rfl Try.func27 (by kernel_rfl) rfl #[.slice A0 l0.length c0, .slice Ao12 y208.length co12] rfl zM ?_; (with_reducible refine (extent_Union.calls _ _ l0 _ _ y208 t211 _ ?side1 ?side2 ?side3 ?side4 A5.out).mono ?_); (case side1 => exact zC (Kd.C_below HR0.out HB.out)); (case side2 => exact HC0.out); (case side3 => exact zC (Kd.R_reads' HO210.out).2.2); (case side4 => exact (Kd.R_reads' HO210.out).2.1); rintro e w13 ⟨v212, rfl, ho0, hb⟩; refine ⟨_, rfl, ?_⟩; have n0_ := am (Kd.R_elder' (zR HO210.out) (Kd.R_base ho0) hb); have n1_ := am (Kd.R_lower (Kd.R_newB (Kd.R_new' ho0 (Kd.R_lt (zR HO210.out))) (g := gb207) (o := .cells #[.int .i64 a1_0, .int .i64 a1_1] 25 (0, 0)) (zL BK207.out)) (below_size (zG HB GE207))); have n2_ := am (blk_below (g := gb207) (o := .cells #[.int .i64 a1_0, .int .i64 a1_1] 25 (0, 0)) (zL BK207.out) hb); have n3_ := am (below_step (zG HB GE207) hb); clear HO210; clear BK207; clear HB; have HO210 := n0_; have HO213 := n1_; have BK207 := n2_; have HB := n3_; clear n0_ n1_ n2_ n3_; (try clear hb); (try clear hb2); (try clear hk); (try clear hi); (try clear ho0); obtain ⟨Ao14, co14, eo14⟩ := Kd.R_slice HO213.out; subst eo14) | ((with_reducible refine gate_callee (f := 29) rfl ?_); refine goesL_ (some 16) rfl rfl Try.func29 (by kernel_rfl) rfl #[.slice Ao14 t211.length co14, .int .i64 64, .int .i64 a2] rfl zM ?_; (with_reducible refine (extent_Align.calls k _ _ t211 64 a2 t214 _ ?side1 ?side2 A6.out).mono ?_); (case side1 => exact zC (Kd.R_reads' HO213.out).2.2); (case side2 => exact (Kd.R_reads' HO213.out).2.1); rintro e w15 ⟨v215, rfl, ho0, hb⟩; refine ⟨_, rfl, ?_⟩; have n0_ := am (Kd.R_elder' (zR HO210.out) (Kd.R_base ho0) hb); have n1_ := am (Kd.R_elder' (zR HO213.out) (Kd.R_base ho0) hb); have n2_ := am (Kd.R_lower (Kd.R_newB (Kd.R_new' (Kd.R_new' ho0 (Kd.R_lt (zR HO210.out))) (Kd.R_lt (zR HO213.out))) (g := gb207) (o := .cells #[.int .i64 a1_0, .int .i64 a1_1] 25 (0, 0)) (zL BK207.out)) (below_size (zG HB GE207))); have n3_ := am (blk_below (g := gb207) (o := .cells #[.int .i64 a1_0, .int .i64 a1_1] 25 (0, 0)) (zL BK207.out) hb); have n4_ := am (below_step (zG HB GE207) hb); clear HO210; clear HO213; clear BK207; clear HB; have HO210 := n0_; have HO213 := n1_; have HO216 := n2_; have BK207 := n3_; have HB := n4_; clear n0_ n1_ n2_ n3_ n4_; (try clear hb); (try clear hb2); (try clear hk); (try clear hi); (try clear ho0); obtain ⟨Ao16, co16, eo16⟩ := Kd.R_slice HO216.out; subst eo16) | ((with_reducible refine gate_callee (f := 28) rfl ?_); refine goesL_ (some 18) rfl rfl Try.func28 (by kernel_rfl) rfl #[.slice Ao16 t214.length co16, .int .i64 a3] rfl zM ?_; (with_reducible refine (extent_Gaps.calls k _ _ t214 a3 t217 _ ?side1 ?side2 A7.out).mono ?_); (case side1 => exact zC (Kd.R_reads' HO216.out).2.2); (case side2 => exact (Kd.R_reads' HO216.out).2.1); rintro e w17 ⟨v218, rfl, ho0, hb⟩; refine ⟨_, rfl, ?_⟩; have n0_ := am (Kd.R_elder' (zR HO210.out) (Kd.R_base ho0) hb); have n1_ := am (Kd.R_elder' (zR HO213.out) (Kd.R_base ho0) hb); have n2_ := am (Kd.R_elder' (zR HO216.out) (Kd.R_base ho0) hb); have n3_ := am (Kd.R_lower (Kd.R_newB (Kd.R_new' (Kd.R_new' (Kd.R_new' ho0 (Kd.R_lt (zR HO210.out))) (Kd.R_lt (zR HO213.out))) (Kd.R_lt (zR HO216.out))) (g := gb207) (o := .cells #[.int .i64 a1_0, .int .i64 a1_1] 25 (0, 0)) (zL BK207.out)) (below_size (zG HB GE207))); have n4_ := am (blk_below (g := gb207) (o := .cells #[.int .i64 a1_0, .int .i64 a1_1] 25 (0, 0)) (zL BK207.out) hb); have n5_ := am (below_step (zG HB GE207) hb); clear HO210; clear HO213; clear HO216; clear BK207; clear HB; have HO210 := n0_; have HO213 := n1_; have HO216 := n2_; have HO219 := n3_; have BK207 := n4_; have HB := n5_; clear n0_ n1_ n2_ n3_ n4_ n5_; (try clear hb); (try clear hb2); (try clear hk); (try clear hi); (try clear ho0)))
 go_ret
 exact ⟨_, by first | rfl | (simp [errW_none, errW_some] <;> rfl) | (simp [*, errW_none, errW_some] <;> rfl), by refine zR ?_; exact Kd.R_mono HO219.out (fun _ hk => trivial), zG HB GE207⟩

/-! ### extent_Total: function 33 -/
def extent_Total.l0 : Nat → Int → List (S25) → Int → Int → Option (Int)
 | 0, _, _, _, _ => none
 | k + 1, x3, x7, x8, x9 => if x9 < x8 then (if 0 ≤ x9 then (if x9 < (x7.length : Int) then (extent_Total.l0 k (wrap64 (x3 + ((rd_T25 x7 x9).f1))) x7 x8 (wrap64 (x9 + 1))) else (none)) else (none)) else (some x3)
def extent_Total.f (k : Nat) (l0 : List (S25)) : Option (Int) := (extent_Normal.f l0).bind fun t220 => (extent_Total.l0 k 0 t220 (t220.length : Int) 0)
theorem extent_Total.mono_l : ∀ k, (∀ y0 y1 y2 y3, LeO (extent_Total.l0 k y0 y1 y2 y3) (extent_Total.l0 (k + 1) y0 y1 y2 y3))
 | 0 => fun _ _ _ _ r h => by simp [extent_Total.l0] at h
 | k + 1 => by
  have ih0 := extent_Total.mono_l k
  ·intro y0 y1 y2 y3
   unfold extent_Total.l0
   repeat' first
   | (with_reducible exact ih0 _ _ _ _)
   | (with_reducible exact LeO.refl _)
   | (with_reducible exact LeO.none _)
   | (with_reducible refine LeO.ite ?_ ?_)
   | (with_reducible refine LeO.bind ?_ (fun _ => ?_))
   | exact ih0 _ _ _ _
   | exact LeO.none _
   | refine LeO.ite ?_ ?_
   | refine LeO.bind ?_ (fun _ => ?_)
theorem extent_Total.mono : ∀ a0 k, LeO (extent_Total.f k a0) (extent_Total.f (k + 1) a0) := by
 intro a0 k
 have ih0 := extent_Total.mono_l k
 unfold extent_Total.f
 repeat' first
   | (with_reducible exact ih0 _ _ _ _)
   | (with_reducible exact LeO.refl _)
   | (with_reducible exact LeO.none _)
   | (with_reducible refine LeO.ite ?_ ?_)
   | (with_reducible refine LeO.bind ?_ (fun _ => ?_))
   | exact ih0 _ _ _ _
   | exact LeO.none _
   | refine LeO.ite ?_ ?_
   | refine LeO.bind ?_ (fun _ => ?_)
set_option maxHeartbeats 8000000 in
set_option maxRecDepth 100000 in
theorem extent_Total.calls (k : Nat) (A0 : Option Addr) (c0 : Nat) (l0 : List (S25)) (r : Int) (w : World) (hr0 : Kd.C k25 w A0 l0.length l0) (hc0 : l0.length ≤ c0) (h : extent_Total.f k l0 = some r) :
  Calls Try.prog 33 #[.slice A0 l0.length c0] w fun e w' => e = .returned (.int .i64 r) ∧ Below w.heap.size w w' := by
 have hu25 := Try.underlying25
 have HR0 := am hr0
 have HC0 := am hc0
 clear hr0 hc0
 have HB := am (Below.refl w.heap.size w)
 have H : ((extent_Normal.f l0).bind fun t220 => (extent_Total.l0 k 0 t220 (t220.length : Int) 0)) = some r := h
 clear h
 replace H := Option.bind_eq_some_iff.mp H
 obtain ⟨t220, A20, H⟩ := H
 replace H : (extent_Total.l0 k 0 t220 (t220.length : Int) 0) = some r := H
 have A2 := am A20
 clear A20
 have H' := am H
 clear H
 go_enter Try.func33, Try.ntmps33
 go_wp2_with (first | ((with_reducible refine gate_callee (f := 41) rfl ?_); refine goesL_ (some 7) rfl rfl Try.func41 (by kernel_rfl) rfl #[.slice A0 l0.length c0] rfl zM ?_; (with_reducible refine (extent_Normal.calls _ _ l0 t220 _ ?side1 ?side2 A2.out).mono ?_); (case side1 => repeat (first | exact HR0.out | (with_reducible refine Kd.C_alloc ?_ _) | (with_reducible refine Kd.C_drewN ?_ _) | (with_reducible refine Kd.C_drew ?_))); (case side2 => exact HC0.out); rintro e w3 ⟨v221, rfl, ho0, hb⟩; refine ⟨_, rfl, ?_⟩; have n0_ := am (Kd.R_lower ho0 (below_size (zB HB))); have n1_ := am (below_step (zB HB) hb); clear HB; have HO222 := n0_; have HB := n1_; clear n0_ n1_; (try clear hb); (try clear hb2); (try clear hk); (try clear hi); (try clear ho0); obtain ⟨Ao4, co4, eo4⟩ := Kd.R_slice HO222.out; subst eo4))
 go_loopg [3, 9] k (fun kq v3 v9 w' => ∃ (x3_1 : Int) (x9_1 : Int), v3 = .int .i64 x3_1 ∧ v9 = .int .i64 x9_1 ∧ Aside0 (extent_Total.l0 kq x3_1 t220 (t220.length : Int) x9_1 = some r) ∧ Aside0 (kq ≤ k) ∧ Aside0 (Kd.R k25 25 w' w.heap.size (fun _ => True) (.slice Ao4 t220.length co4) t220) ∧ Aside0 (Below w.heap.size w w'))
 case atStart => exact ⟨(0), (0), zS, zS, H', ⟨Nat.le_refl _⟩, ⟨zR HO222.out⟩, ⟨zB HB⟩⟩
 case round =>
  clear H'
  try clear p2
  try clear c3
  try clear c4
  obtain ⟨x3_1, x9_1, rfl, rfl, HA, HK1, HO_7, HB⟩ := hrel
  cases gk with
  | zero => exact absurd HA.out (by simp [extent_Total.l0])
  | succ k1 =>
   have H := HA.out
   clear HA
   simp only [extent_Total.l0] at H
   by_cases c5 : x9_1 < (t220.length : Int)
   ·rw [if_pos c5] at H
    have c5b0 : decide (x9_1 < (t220.length : Int)) = true := decide_eq_true c5
    clear c5
    by_cases c6 : 0 ≤ x9_1
    ·rw [if_pos c6] at H
     have c6b0 : decide (0 ≤ x9_1) = true := decide_eq_true c6
     clear c6
     by_cases c7 : x9_1 < (t220.length : Int)
     ·rw [if_pos c7] at H
      have c7b0 : decide (x9_1 < (t220.length : Int)) = true := decide_eq_true c7
      clear c7
      have H' := am H
      clear H
      have p223 : 0 ≤ (x9_1 : Int) := of_decide_eq_true zA
      have q223 : x9_1 < (t220.length : Int) := of_decide_eq_true zA
      obtain ⟨ad223, e223, hx223_0, hx223_1⟩ := at_T25 (Kd.R_reads' HO_7.out).2.2 x9_1 p223 q223
      cases e223
      replace p223 := eq_true p223
      replace q223 := eq_true q223
      go_wp2_with (first | ((with_reducible refine gate_dst (N := 5) rfl ?_); refine box_event ?hg (N := 5) ?hd (cs := #[.int .i64 0, .int .i64 0]) (t := 25) ?hr ?_; (case hd => rfl); (case hg => rfl); (case hr => first | (go_simp; done) | (go_simp; rfl)); intro gb224 hg w8 hbox hb; have n0_ := am (Kd.R_below (Kd.R_elderB (zR HO_7.out) gb224 (Nat.le_of_eq hg.symm)) hb); have n1_ := am (below_step (zB HB) hb); have n2_ := am (hbox); have n3_ := am ((by rw [hg]; exact (below_size (zB HB)) : w.heap.size ≤ gb224)); have n4_ := am ((by rw [hg]; exact (below_size (zB HB)) : w.heap.size ≤ gb224)); clear HO_7; clear HB; have HO_7 := n0_; have HB := n1_; have BK224 := n2_; have GW224 := n3_; have GE224 := n4_; clear n0_ n1_ n2_ n3_ n4_; clear hb hbox hg; have hcz9_0 : w8.cell? ⟨gb224, 0, none⟩ = some (.int .i64 0) := (blk_cell BK224.out 0).trans rfl; have hcz9_1 : w8.cell? ⟨gb224, 1, none⟩ = some (.int .i64 0) := (blk_cell BK224.out 1).trans rfl; have hfz9_0 := blk_frozen BK224.out 0; have hfz9_1 := blk_frozen BK224.out 1))
      go_roundg k1
      case measure => have := HK1.out; omega
      case rel => exact ⟨(wrap64 (x3_1 + ((rd_T25 t220 x9_1).f1))), (wrap64 (x9_1 + 1)), zS, zS, H', ⟨by have := HK1.out; omega⟩, ⟨by refine zR ?_; exact Kd.R_mono (Kd.R_far (p := ⟨gb224, 1, none⟩) (Kd.R_far (p := ⟨gb224, 0, none⟩) (Kd.R_mono HO_7.out (fun k_ hk => (⟨hk, hk.2⟩ : _ ∧ k_ ≠ gb224))) (fun _ hk => hk.2) (.int .i64 ((rd_T25 t220 x9_1).f0))) (fun _ hk => hk.2) (.int .i64 ((rd_T25 t220 x9_1).f1))) (fun _ hk => trivial)⟩, ⟨zG HB GE224⟩⟩
     ·rw [if_neg c7] at H
      exact absurd H (by simp)
    ·rw [if_neg c6] at H
     exact absurd H (by simp)
   ·rw [if_neg c5] at H
    have c5b0 : decide (x9_1 < (t220.length : Int)) = false := decide_eq_false c5
    clear c5
    obtain rfl := Option.some.inj H
    go_wp2
    go_ret
    exact ⟨by first | rfl | (simp [errW_none, errW_some] <;> rfl) | (simp [*, errW_none, errW_some] <;> rfl), by repeat (first | (with_reducible first | exact HB.out | apply below_alloc | apply pw_below_drewN | apply below_drew1) | exact HB.out)⟩

end
end Go.Proofs.Ytapbmkcncjkanaa.P
