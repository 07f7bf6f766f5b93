-- Written by this session's wip/tools/px.py out of the translation. Lean checks it.
import Derived.Test.YtcckacamocaofaaP0
import Derived.Test.YtcckacamocaofaaP6
import Derived.Test.YtcckacamocaofaaP7
import Derived.Test.YtcckacamocaofaaP9
import Derived.Test.YtcckacamocaofaaP20
import Derived.Test.YtcckacamocaofaaExtE
import Derived.Test.YtcckacamocaofaaLives
namespace Go.Proofs.Ytcckacamocaofaa.P
noncomputable section
open Go.RowKit Go.Proofs.YtcckacamocaofaaW.PrintWords Go.Proofs.YtcckacamocaofaaW.PrintLast Go.Proofs.YtcckacamocaofaaW.PrintMore
attribute [local go_sem] max2_int min2_int max_two min_two max_three min_three max_four min_four   -- for this text's walks alone
set_option linter.unusedVariables false
set_option linter.unusedSimpArgs false

/-! ### tapearchivelaw34_ExtentContains: function 5 -/
mutual
def tapearchivelaw34_ExtentContains.j0 : Nat → List (S30) → Int → Int → Bool → Option (Bool)
 | 0, _, _, _, _ => none
 | k + 1, x0, x1, x2, x25 => if x25 = true then (some true) else ((extent_Align.f k x0 (wrap64 (x1)) 1125899906842624).bind fun t461 => ((extent_Gaps.f k x0 x2).bind fun t464 => ((tapearchivelaw34_normal.f k t461).bind fun t467 => (if t467 = true then ((tapearchivelaw34_normal.f k t464).bind fun t468 => (if t468 = true then ((extent_Subtract.f x0 t461).bind fun t469 => (if (t469.length : Int) = 0 then ((extent_Subtract.f x0 t464).bind fun t472 => (tapearchivelaw34_ExtentContains.j1 k x2 (wrap64 (x1)) t461 t464 ((t472.length : Int) != 0))) else (tapearchivelaw34_ExtentContains.j1 k x2 (wrap64 (x1)) t461 t464 true))) else (tapearchivelaw34_ExtentContains.j1 k x2 (wrap64 (x1)) t461 t464 true))) else (tapearchivelaw34_ExtentContains.j1 k x2 (wrap64 (x1)) t461 t464 true)))))
def tapearchivelaw34_ExtentContains.j1 : Nat → Int → Int → List (S30) → List (S30) → Bool → Option (Bool)
 | 0, _, _, _, _, _ => none
 | k + 1, x2, x7, x8, x9, x55 => if x55 = true then (some false) else (tapearchivelaw34_ExtentContains.l0 k x2 x7 x8 x9 0)
def tapearchivelaw34_ExtentContains.l0 : Nat → Int → Int → List (S30) → List (S30) → Int → Option (Bool)
 | 0, _, _, _, _, _ => none
 | k + 1, x2, x7, x8, x9, x10 => if x10 < (x8.length : Int) then (if 0 ≤ x10 then (if x7 = 0 then (none) else (if (Int.tmod ((rd_T30 x8 x10).f0) x7) = 0 then (if (Int.tmod (wrap64 (((rd_T30 x8 x10).f0) + ((rd_T30 x8 x10).f1))) x7) = 0 then (tapearchivelaw34_ExtentContains.j3 k x2 x7 x8 x9 x10 false) else (tapearchivelaw34_ExtentContains.j3 k x2 x7 x8 x9 x10 ((wrap64 (((rd_T30 x8 x10).f0) + ((rd_T30 x8 x10).f1))) != 1125899906842624))) else (tapearchivelaw34_ExtentContains.j3 k x2 x7 x8 x9 x10 true))) else (none)) else (tapearchivelaw34_ExtentContains.l1 k x2 x9 1)
def tapearchivelaw34_ExtentContains.j3 : Nat → Int → Int → List (S30) → List (S30) → Int → Bool → Option (Bool)
 | 0, _, _, _, _, _, _ => none
 | k + 1, x2, x7, x8, x9, x10, x90 => if x90 = true then (some false) else (tapearchivelaw34_ExtentContains.l0 k x2 x7 x8 x9 (wrap64 (x10 + 1)))
def tapearchivelaw34_ExtentContains.l1 : Nat → Int → List (S30) → Int → Option (Bool)
 | 0, _, _, _ => none
 | k + 1, x2, x9, x12 => if x12 < (x9.length : Int) then (if 0 ≤ x12 then (if 0 ≤ (wrap64 (x12 - 1)) then (if (wrap64 (x12 - 1)) < (x9.length : Int) then (if (wrap64 ((wrap64 (((rd_T30 x9 x12).f0) - ((rd_T30 x9 (wrap64 (x12 - 1))).f0))) - ((rd_T30 x9 (wrap64 (x12 - 1))).f1))) ≤ x2 then (some false) else (tapearchivelaw34_ExtentContains.l1 k x2 x9 (wrap64 (x12 + 1)))) else (none)) else (none)) else (none)) else (some true)
end
def tapearchivelaw34_ExtentContains.f (k : Nat) (l0 : List (S30)) (a1 : Int) (a2 : Int) : Option (Bool) := (tapearchivelaw34_lives_s.f).bind fun t459 => (if t459 = true then ((tapearchivelaw34_few.f l0 ([] : List (S30))).bind fun t460 => (if t460 = true then (if a1 = 0 then (tapearchivelaw34_ExtentContains.j0 k l0 a1 a2 true) else (tapearchivelaw34_ExtentContains.j0 k l0 a1 a2 (decide (a2 < 0)))) else (tapearchivelaw34_ExtentContains.j0 k l0 a1 a2 true))) else (some false))
theorem tapearchivelaw34_ExtentContains.mono_l : ∀ k, (∀ y0 y1 y2 y3, LeO (tapearchivelaw34_ExtentContains.j0 k y0 y1 y2 y3) (tapearchivelaw34_ExtentContains.j0 (k + 1) y0 y1 y2 y3)) ∧ (∀ y0 y1 y2 y3 y4, LeO (tapearchivelaw34_ExtentContains.j1 k y0 y1 y2 y3 y4) (tapearchivelaw34_ExtentContains.j1 (k + 1) y0 y1 y2 y3 y4)) ∧ (∀ y0 y1 y2 y3 y4, LeO (tapearchivelaw34_ExtentContains.l0 k y0 y1 y2 y3 y4) (tapearchivelaw34_ExtentContains.l0 (k + 1) y0 y1 y2 y3 y4)) ∧ (∀ y0 y1 y2 y3 y4 y5, LeO (tapearchivelaw34_ExtentContains.j3 k y0 y1 y2 y3 y4 y5) (tapearchivelaw34_ExtentContains.j3 (k + 1) y0 y1 y2 y3 y4 y5)) ∧ (∀ y0 y1 y2, LeO (tapearchivelaw34_ExtentContains.l1 k y0 y1 y2) (tapearchivelaw34_ExtentContains.l1 (k + 1) y0 y1 y2))
 | 0 => ⟨fun _ _ _ _ r h => by simp [tapearchivelaw34_ExtentContains.j0] at h, fun _ _ _ _ _ r h => by simp [tapearchivelaw34_ExtentContains.j1] at h, fun _ _ _ _ _ r h => by simp [tapearchivelaw34_ExtentContains.l0] at h, fun _ _ _ _ _ _ r h => by simp [tapearchivelaw34_ExtentContains.j3] at h, fun _ _ _ r h => by simp [tapearchivelaw34_ExtentContains.l1] at h⟩
 | k + 1 => by
  obtain ⟨ih0, ih1, ih2, ih3, ih4⟩ := tapearchivelaw34_ExtentContains.mono_l k
  refine ⟨?_, ?_, ?_, ?_, ?_⟩
  ·intro y0 y1 y2 y3
   unfold tapearchivelaw34_ExtentContains.j0
   repeat' first
   | (with_reducible exact ih0 _ _ _ _)
   | (with_reducible exact ih1 _ _ _ _ _)
   | (with_reducible exact ih2 _ _ _ _ _)
   | (with_reducible exact ih3 _ _ _ _ _ _)
   | (with_reducible exact ih4 _ _ _)
   | (with_reducible exact extent_Align.mono _ _ _ _)
   | (with_reducible exact extent_Gaps.mono _ _ _)
   | (with_reducible exact tapearchivelaw34_normal.mono _ _)
   | (with_reducible exact LeO.refl _)
   | (with_reducible exact LeO.none _)
   | (with_reducible refine LeO.ite ?_ ?_)
   | (with_reducible refine LeO.bind ?_ (fun _ => ?_))
   | exact ih0 _ _ _ _
   | exact ih1 _ _ _ _ _
   | exact ih2 _ _ _ _ _
   | exact ih3 _ _ _ _ _ _
   | exact ih4 _ _ _
   | exact extent_Align.mono _ _ _ _
   | exact extent_Gaps.mono _ _ _
   | exact tapearchivelaw34_normal.mono _ _
   | exact LeO.none _
   | refine LeO.ite ?_ ?_
   | refine LeO.bind ?_ (fun _ => ?_)
  ·intro y0 y1 y2 y3 y4
   unfold tapearchivelaw34_ExtentContains.j1
   repeat' first
   | (with_reducible exact ih0 _ _ _ _)
   | (with_reducible exact ih1 _ _ _ _ _)
   | (with_reducible exact ih2 _ _ _ _ _)
   | (with_reducible exact ih3 _ _ _ _ _ _)
   | (with_reducible exact ih4 _ _ _)
   | (with_reducible exact extent_Align.mono _ _ _ _)
   | (with_reducible exact extent_Gaps.mono _ _ _)
   | (with_reducible exact tapearchivelaw34_normal.mono _ _)
   | (with_reducible exact LeO.refl _)
   | (with_reducible exact LeO.none _)
   | (with_reducible refine LeO.ite ?_ ?_)
   | (with_reducible refine LeO.bind ?_ (fun _ => ?_))
   | exact ih0 _ _ _ _
   | exact ih1 _ _ _ _ _
   | exact ih2 _ _ _ _ _
   | exact ih3 _ _ _ _ _ _
   | exact ih4 _ _ _
   | exact extent_Align.mono _ _ _ _
   | exact extent_Gaps.mono _ _ _
   | exact tapearchivelaw34_normal.mono _ _
   | exact LeO.none _
   | refine LeO.ite ?_ ?_
   | refine LeO.bind ?_ (fun _ => ?_)
  ·intro y0 y1 y2 y3 y4
   unfold tapearchivelaw34_ExtentContains.l0
   repeat' first
   | (with_reducible exact ih0 _ _ _ _)
   | (with_reducible exact ih1 _ _ _ _ _)
   | (with_reducible exact ih2 _ _ _ _ _)
   | (with_reducible exact ih3 _ _ _ _ _ _)
   | (with_reducible exact ih4 _ _ _)
   | (with_reducible exact extent_Align.mono _ _ _ _)
   | (with_reducible exact extent_Gaps.mono _ _ _)
   | (with_reducible exact tapearchivelaw34_normal.mono _ _)
   | (with_reducible exact LeO.refl _)
   | (with_reducible exact LeO.none _)
   | (with_reducible refine LeO.ite ?_ ?_)
   | (with_reducible refine LeO.bind ?_ (fun _ => ?_))
   | exact ih0 _ _ _ _
   | exact ih1 _ _ _ _ _
   | exact ih2 _ _ _ _ _
   | exact ih3 _ _ _ _ _ _
   | exact ih4 _ _ _
   | exact extent_Align.mono _ _ _ _
   | exact extent_Gaps.mono _ _ _
   | exact tapearchivelaw34_normal.mono _ _
   | exact LeO.none _
   | refine LeO.ite ?_ ?_
   | refine LeO.bind ?_ (fun _ => ?_)
  ·intro y0 y1 y2 y3 y4 y5
   unfold tapearchivelaw34_ExtentContains.j3
   repeat' first
   | (with_reducible exact ih0 _ _ _ _)
   | (with_reducible exact ih1 _ _ _ _ _)
   | (with_reducible exact ih2 _ _ _ _ _)
   | (with_reducible exact ih3 _ _ _ _ _ _)
   | (with_reducible exact ih4 _ _ _)
   | (with_reducible exact extent_Align.mono _ _ _ _)
   | (with_reducible exact extent_Gaps.mono _ _ _)
   | (with_reducible exact tapearchivelaw34_normal.mono _ _)
   | (with_reducible exact LeO.refl _)
   | (with_reducible exact LeO.none _)
   | (with_reducible refine LeO.ite ?_ ?_)
   | (with_reducible refine LeO.bind ?_ (fun _ => ?_))
   | exact ih0 _ _ _ _
   | exact ih1 _ _ _ _ _
   | exact ih2 _ _ _ _ _
   | exact ih3 _ _ _ _ _ _
   | exact ih4 _ _ _
   | exact extent_Align.mono _ _ _ _
   | exact extent_Gaps.mono _ _ _
   | exact tapearchivelaw34_normal.mono _ _
   | exact LeO.none _
   | refine LeO.ite ?_ ?_
   | refine LeO.bind ?_ (fun _ => ?_)
  ·intro y0 y1 y2
   unfold tapearchivelaw34_ExtentContains.l1
   repeat' first
   | (with_reducible exact ih0 _ _ _ _)
   | (with_reducible exact ih1 _ _ _ _ _)
   | (with_reducible exact ih2 _ _ _ _ _)
   | (with_reducible exact ih3 _ _ _ _ _ _)
   | (with_reducible exact ih4 _ _ _)
   | (with_reducible exact extent_Align.mono _ _ _ _)
   | (with_reducible exact extent_Gaps.mono _ _ _)
   | (with_reducible exact tapearchivelaw34_normal.mono _ _)
   | (with_reducible exact LeO.refl _)
   | (with_reducible exact LeO.none _)
   | (with_reducible refine LeO.ite ?_ ?_)
   | (with_reducible refine LeO.bind ?_ (fun _ => ?_))
   | exact ih0 _ _ _ _
   | exact ih1 _ _ _ _ _
   | exact ih2 _ _ _ _ _
   | exact ih3 _ _ _ _ _ _
   | exact ih4 _ _ _
   | exact extent_Align.mono _ _ _ _
   | exact extent_Gaps.mono _ _ _
   | exact tapearchivelaw34_normal.mono _ _
   | exact LeO.none _
   | refine LeO.ite ?_ ?_
   | refine LeO.bind ?_ (fun _ => ?_)
theorem tapearchivelaw34_ExtentContains.mono : ∀ a0 a1 a2 k, LeO (tapearchivelaw34_ExtentContains.f k a0 a1 a2) (tapearchivelaw34_ExtentContains.f (k + 1) a0 a1 a2) := by
 intro a0 a1 a2 k
 obtain ⟨ih0, ih1, ih2, ih3, ih4⟩ := tapearchivelaw34_ExtentContains.mono_l k
 unfold tapearchivelaw34_ExtentContains.f
 repeat' first
   | (with_reducible exact ih0 _ _ _ _)
   | (with_reducible exact ih1 _ _ _ _ _)
   | (with_reducible exact ih2 _ _ _ _ _)
   | (with_reducible exact ih3 _ _ _ _ _ _)
   | (with_reducible exact ih4 _ _ _)
   | (with_reducible exact extent_Align.mono _ _ _ _)
   | (with_reducible exact extent_Gaps.mono _ _ _)
   | (with_reducible exact tapearchivelaw34_normal.mono _ _)
   | (with_reducible exact LeO.refl _)
   | (with_reducible exact LeO.none _)
   | (with_reducible refine LeO.ite ?_ ?_)
   | (with_reducible refine LeO.bind ?_ (fun _ => ?_))
   | exact ih0 _ _ _ _
   | exact ih1 _ _ _ _ _
   | exact ih2 _ _ _ _ _
   | exact ih3 _ _ _ _ _ _
   | exact ih4 _ _ _
   | exact extent_Align.mono _ _ _ _
   | exact extent_Gaps.mono _ _ _
   | exact tapearchivelaw34_normal.mono _ _
   | exact LeO.none _
   | refine LeO.ite ?_ ?_
   | refine LeO.bind ?_ (fun _ => ?_)
set_option maxHeartbeats 8000000 in
set_option maxRecDepth 100000 in
theorem tapearchivelaw34_ExtentContains.calls (k : Nat) (A0 : Option Addr) (c0 : Nat) (l0 : List (S30)) (a1 : Int) (a2 : Int) (r : Bool) (w : World) (hr0 : Kd.C k30 w A0 l0.length l0) (hc0 : l0.length ≤ c0) (ht_ : Aside0 (r = true)) (h : tapearchivelaw34_ExtentContains.f k l0 a1 a2 = some r) :
  Calls Try.prog 5 #[.slice A0 l0.length c0, .int .u16 a1, .int .i64 a2] w fun e w' => e = .returned (.bool r) ∧ Below w.heap.size w w' := by
 have HR0 := Aside0.mk hr0
 have HC0 := Aside0.mk hc0
 clear hr0 hc0
 have HB := Aside0.mk (Below.refl w.heap.size w)
 have H : ((tapearchivelaw34_lives_s.f).bind fun t459 => (if t459 = true then ((tapearchivelaw34_few.f l0 ([] : List (S30))).bind fun t460 => (if t460 = true then (if a1 = 0 then (tapearchivelaw34_ExtentContains.j0 k l0 a1 a2 true) else (tapearchivelaw34_ExtentContains.j0 k l0 a1 a2 (decide (a2 < 0)))) else (tapearchivelaw34_ExtentContains.j0 k l0 a1 a2 true))) else (some false))) = some r := h
 clear h
 replace H := Option.bind_eq_some_iff.mp H
 obtain ⟨t459, A40, H⟩ := H
 replace H : (if t459 = true then ((tapearchivelaw34_few.f l0 ([] : List (S30))).bind fun t460 => (if t460 = true then (if a1 = 0 then (tapearchivelaw34_ExtentContains.j0 k l0 a1 a2 true) else (tapearchivelaw34_ExtentContains.j0 k l0 a1 a2 (decide (a2 < 0)))) else (tapearchivelaw34_ExtentContains.j0 k l0 a1 a2 true))) else (some false)) = some r := H
 have A4 := Aside0.mk A40
 clear A40
 by_cases c5 : t459 = true
 ·subst c5
  have H1 : ((tapearchivelaw34_few.f l0 ([] : List (S30))).bind fun t460 => (if t460 = true then (if a1 = 0 then (tapearchivelaw34_ExtentContains.j0 k l0 a1 a2 true) else (tapearchivelaw34_ExtentContains.j0 k l0 a1 a2 (decide (a2 < 0)))) else (tapearchivelaw34_ExtentContains.j0 k l0 a1 a2 true))) = some r := by rw [if_pos rfl] at H; exact H
  clear H
  have H := H1
  clear H1
  have HC6 := Aside0.mk H
  clear H
  go_enter Try.func5, Try.ntmps5
  go_upto_region 3 with (first | (go_at_call 8; (with_reducible refine (tapearchivelaw34_lives_s.calls  true _ A4.out).mono ?_); rintro e w7 ⟨rfl, hb⟩; have n0_ := Aside0.mk (below_step (zB HB) hb); clear HB; have HB := n0_; clear n0_; (try clear hb); (try clear hb2); (try clear hk); (try clear hi)))
  repeat (go_quiet (first | (go_at_call 8; (with_reducible refine (tapearchivelaw34_lives_s.calls  true _ A4.out).mono ?_); rintro e w7 ⟨rfl, hb⟩; have n0_ := Aside0.mk (below_step (zB HB) hb); clear HB; have HB := n0_; clear n0_; (try clear hb); (try clear hb2); (try clear hk); (try clear hi))); go_upto_region 3 with (first | (go_at_call 8; (with_reducible refine (tapearchivelaw34_lives_s.calls  true _ A4.out).mono ?_); rintro e w7 ⟨rfl, hb⟩; have n0_ := Aside0.mk (below_step (zB HB) hb); clear HB; have HB := n0_; clear n0_; (try clear hb); (try clear hb2); (try clear hk); (try clear hi))))
  (try simp only [Act.put, List.setIfInBounds_toArray, List.set_cons_zero, List.set_cons_succ])
  go_cut [25] (fun v25 wc => ∃ (kq : Nat) (x25_5 : Bool), v25 = .bool x25_5 ∧ Aside0 (tapearchivelaw34_ExtentContains.j0 kq l0 a1 a2 x25_5 = some r) ∧ Aside0 (kq ≤ k) ∧ Aside0 (Below w.heap.size w wc))
  case first =>
   have H := HC6.out
   clear HC6
   replace H := Option.bind_eq_some_iff.mp H
   obtain ⟨t460, A80, H⟩ := H
   replace H : (if t460 = true then (if a1 = 0 then (tapearchivelaw34_ExtentContains.j0 k l0 a1 a2 true) else (tapearchivelaw34_ExtentContains.j0 k l0 a1 a2 (decide (a2 < 0)))) else (tapearchivelaw34_ExtentContains.j0 k l0 a1 a2 true)) = some r := H
   have A8 := Aside0.mk A80
   clear A80
   by_cases c9 : t460 = true
   ·subst c9
    have H1 : (if a1 = 0 then (tapearchivelaw34_ExtentContains.j0 k l0 a1 a2 true) else (tapearchivelaw34_ExtentContains.j0 k l0 a1 a2 (decide (a2 < 0)))) = some r := by rw [if_pos rfl] at H; exact H
    clear H
    have H := H1
    clear H1
    by_cases c10 : a1 = 0
    ·rw [if_pos c10] at H
     have c10b0 : (a1 == 0) = true := beq_iff_eq.mpr c10
     have c10b1 : (a1 != 0) = false := bne_eq_false_iff_eq.mpr c10
     clear c10
     (first | rw [c10b0] | (simp only [i64_w, i32_w]; rw [c10b0]) | skip)
     have H' := Aside0.mk H
     clear H
     go_wp2_with (first | (go_at_call 9; (refine (tapearchivelaw34_few.calls _ _ l0 _ _ ([] : List (S30)) true _ ?side1 ?side2 ?side3 ?side4 A8.out).mono ?_); (case side1 => exact zC (Kd.C_below HR0.out HB.out)); (case side2 => exact HC0.out); (case side3 => exact Kd.C_nil _ _); (case side4 => exact Nat.le_refl _); rintro e w' ⟨rfl, ⟨nd, rfl⟩⟩; (try first | exact ⟨rfl, _, World.drewN_drewN _ _ _⟩ | exact ⟨rfl, _, Eq.trans (World.drewN_drewN _ _ _) (congrArg (World.drewN _) (Nat.add_assoc _ _ _))⟩)))
     repeat (go_quiet (first | (go_at_call 9; (refine (tapearchivelaw34_few.calls _ _ l0 _ _ ([] : List (S30)) true _ ?side1 ?side2 ?side3 ?side4 A8.out).mono ?_); (case side1 => exact zC (Kd.C_below HR0.out HB.out)); (case side2 => exact HC0.out); (case side3 => exact Kd.C_nil _ _); (case side4 => exact Nat.le_refl _); rintro e w' ⟨rfl, ⟨nd, rfl⟩⟩; (try first | exact ⟨rfl, _, World.drewN_drewN _ _ _⟩ | exact ⟨rfl, _, Eq.trans (World.drewN_drewN _ _ _) (congrArg (World.drewN _) (Nat.add_assoc _ _ _))⟩))); try go_wp2_with (first | (go_at_call 9; (refine (tapearchivelaw34_few.calls _ _ l0 _ _ ([] : List (S30)) true _ ?side1 ?side2 ?side3 ?side4 A8.out).mono ?_); (case side1 => exact zC (Kd.C_below HR0.out HB.out)); (case side2 => exact HC0.out); (case side3 => exact Kd.C_nil _ _); (case side4 => exact Nat.le_refl _); rintro e w' ⟨rfl, ⟨nd, rfl⟩⟩; (try first | exact ⟨rfl, _, World.drewN_drewN _ _ _⟩ | exact ⟨rfl, _, Eq.trans (World.drewN_drewN _ _ _) (congrArg (World.drewN _) (Nat.add_assoc _ _ _))⟩))))
     go_meet
     case rel => exact ⟨_, (true), zS, H', ⟨by first | omega | exact Nat.le_refl _⟩, ⟨zB HB⟩⟩
    ·rw [if_neg c10] at H
     have c10b0 : (a1 == 0) = false := beq_eq_false_iff_ne.mpr c10
     have c10b1 : (a1 != 0) = true := bne_iff_ne.mpr c10
     (first | rw [c10b0] | (simp only [i64_w, i32_w]; rw [c10b0]) | skip)
     have H' := Aside0.mk H
     clear H
     go_wp2_with (first | (go_at_call 9; (refine (tapearchivelaw34_few.calls _ _ l0 _ _ ([] : List (S30)) true _ ?side1 ?side2 ?side3 ?side4 A8.out).mono ?_); (case side1 => exact zC (Kd.C_below HR0.out HB.out)); (case side2 => exact HC0.out); (case side3 => exact Kd.C_nil _ _); (case side4 => exact Nat.le_refl _); rintro e w' ⟨rfl, ⟨nd, rfl⟩⟩; (try first | exact ⟨rfl, _, World.drewN_drewN _ _ _⟩ | exact ⟨rfl, _, Eq.trans (World.drewN_drewN _ _ _) (congrArg (World.drewN _) (Nat.add_assoc _ _ _))⟩)))
     repeat (go_quiet (first | (go_at_call 9; (refine (tapearchivelaw34_few.calls _ _ l0 _ _ ([] : List (S30)) true _ ?side1 ?side2 ?side3 ?side4 A8.out).mono ?_); (case side1 => exact zC (Kd.C_below HR0.out HB.out)); (case side2 => exact HC0.out); (case side3 => exact Kd.C_nil _ _); (case side4 => exact Nat.le_refl _); rintro e w' ⟨rfl, ⟨nd, rfl⟩⟩; (try first | exact ⟨rfl, _, World.drewN_drewN _ _ _⟩ | exact ⟨rfl, _, Eq.trans (World.drewN_drewN _ _ _) (congrArg (World.drewN _) (Nat.add_assoc _ _ _))⟩))); try go_wp2_with (first | (go_at_call 9; (refine (tapearchivelaw34_few.calls _ _ l0 _ _ ([] : List (S30)) true _ ?side1 ?side2 ?side3 ?side4 A8.out).mono ?_); (case side1 => exact zC (Kd.C_below HR0.out HB.out)); (case side2 => exact HC0.out); (case side3 => exact Kd.C_nil _ _); (case side4 => exact Nat.le_refl _); rintro e w' ⟨rfl, ⟨nd, rfl⟩⟩; (try first | exact ⟨rfl, _, World.drewN_drewN _ _ _⟩ | exact ⟨rfl, _, Eq.trans (World.drewN_drewN _ _ _) (congrArg (World.drewN _) (Nat.add_assoc _ _ _))⟩))))
     go_meet
     case rel => exact ⟨_, (decide (a2 < 0)), zS, H', ⟨by first | omega | exact Nat.le_refl _⟩, ⟨zB HB⟩⟩
   ·replace c9 := Bool.eq_false_iff.mpr c9
    subst c9
    have H1 : (tapearchivelaw34_ExtentContains.j0 k l0 a1 a2 true) = some r := by rw [if_neg (show ¬ (false = true) by decide)] at H; exact H
    clear H
    have H := H1
    clear H1
    have H' := Aside0.mk H
    clear H
    go_wp2_with (first | (go_at_call 9; (refine (tapearchivelaw34_few.calls _ _ l0 _ _ ([] : List (S30)) false _ ?side1 ?side2 ?side3 ?side4 A8.out).mono ?_); (case side1 => exact zC (Kd.C_below HR0.out HB.out)); (case side2 => exact HC0.out); (case side3 => exact Kd.C_nil _ _); (case side4 => exact Nat.le_refl _); rintro e w' ⟨rfl, ⟨nd, rfl⟩⟩; (try first | exact ⟨rfl, _, World.drewN_drewN _ _ _⟩ | exact ⟨rfl, _, Eq.trans (World.drewN_drewN _ _ _) (congrArg (World.drewN _) (Nat.add_assoc _ _ _))⟩)))
    repeat (go_quiet (first | (go_at_call 9; (refine (tapearchivelaw34_few.calls _ _ l0 _ _ ([] : List (S30)) false _ ?side1 ?side2 ?side3 ?side4 A8.out).mono ?_); (case side1 => exact zC (Kd.C_below HR0.out HB.out)); (case side2 => exact HC0.out); (case side3 => exact Kd.C_nil _ _); (case side4 => exact Nat.le_refl _); rintro e w' ⟨rfl, ⟨nd, rfl⟩⟩; (try first | exact ⟨rfl, _, World.drewN_drewN _ _ _⟩ | exact ⟨rfl, _, Eq.trans (World.drewN_drewN _ _ _) (congrArg (World.drewN _) (Nat.add_assoc _ _ _))⟩))); try go_wp2_with (first | (go_at_call 9; (refine (tapearchivelaw34_few.calls _ _ l0 _ _ ([] : List (S30)) false _ ?side1 ?side2 ?side3 ?side4 A8.out).mono ?_); (case side1 => exact zC (Kd.C_below HR0.out HB.out)); (case side2 => exact HC0.out); (case side3 => exact Kd.C_nil _ _); (case side4 => exact Nat.le_refl _); rintro e w' ⟨rfl, ⟨nd, rfl⟩⟩; (try first | exact ⟨rfl, _, World.drewN_drewN _ _ _⟩ | exact ⟨rfl, _, Eq.trans (World.drewN_drewN _ _ _) (congrArg (World.drewN _) (Nat.add_assoc _ _ _))⟩))))
    go_meet
    case rel => exact ⟨_, (true), zS, H', ⟨by first | omega | exact Nat.le_refl _⟩, ⟨zB HB⟩⟩
  case rest =>
   clear HC6
   try clear c1
   try clear p2
   try clear c5
   try clear c9
   try clear c10
   try clear c10b0
   try clear c10b1
   obtain ⟨kq, x25_5, rfl, HA, HJ5, HB⟩ := hcut
   cases kq with
   | zero => exact absurd HA.out (by simp [tapearchivelaw34_ExtentContains.j0])
   | succ kj5 =>
    have H := HA.out
    clear HA
    simp only [tapearchivelaw34_ExtentContains.j0] at H
    by_cases c11 : x25_5 = true
    ·subst c11
     have H1 : (some true) = some r := by rw [if_pos rfl] at H; exact H
     clear H
     have H := H1
     clear H1
     obtain rfl := Option.some.inj H
     go_wp2
     repeat (go_quiet (fail); try go_wp2)
     go_ret
     exact ⟨by first | rfl | (simp [errW_none, errW_some] <;> rfl) | (simp [*, errW_none, errW_some] <;> rfl), by repeat (first | (with_reducible first | exact HB.out | apply below_alloc | apply pw_below_drewN | apply below_drew1) | exact HB.out)⟩
    ·replace c11 := Bool.eq_false_iff.mpr c11
     subst c11
     have H1 : ((extent_Align.f kj5 l0 (wrap64 (a1)) 1125899906842624).bind fun t461 => ((extent_Gaps.f kj5 l0 a2).bind fun t464 => ((tapearchivelaw34_normal.f kj5 t461).bind fun t467 => (if t467 = true then ((tapearchivelaw34_normal.f kj5 t464).bind fun t468 => (if t468 = true then ((extent_Subtract.f l0 t461).bind fun t469 => (if (t469.length : Int) = 0 then ((extent_Subtract.f l0 t464).bind fun t472 => (tapearchivelaw34_ExtentContains.j1 kj5 a2 (wrap64 (a1)) t461 t464 ((t472.length : Int) != 0))) else (tapearchivelaw34_ExtentContains.j1 kj5 a2 (wrap64 (a1)) t461 t464 true))) else (tapearchivelaw34_ExtentContains.j1 kj5 a2 (wrap64 (a1)) t461 t464 true))) else (tapearchivelaw34_ExtentContains.j1 kj5 a2 (wrap64 (a1)) t461 t464 true))))) = some r := by rw [if_neg (show ¬ (false = true) by decide)] at H; exact H
     clear H
     have H := H1
     clear H1
     replace H := Option.bind_eq_some_iff.mp H
     obtain ⟨t461, A120, H⟩ := H
     replace H : ((extent_Gaps.f kj5 l0 a2).bind fun t464 => ((tapearchivelaw34_normal.f kj5 t461).bind fun t467 => (if t467 = true then ((tapearchivelaw34_normal.f kj5 t464).bind fun t468 => (if t468 = true then ((extent_Subtract.f l0 t461).bind fun t469 => (if (t469.length : Int) = 0 then ((extent_Subtract.f l0 t464).bind fun t472 => (tapearchivelaw34_ExtentContains.j1 kj5 a2 (wrap64 (a1)) t461 t464 ((t472.length : Int) != 0))) else (tapearchivelaw34_ExtentContains.j1 kj5 a2 (wrap64 (a1)) t461 t464 true))) else (tapearchivelaw34_ExtentContains.j1 kj5 a2 (wrap64 (a1)) t461 t464 true))) else (tapearchivelaw34_ExtentContains.j1 kj5 a2 (wrap64 (a1)) t461 t464 true)))) = some r := H
     have A12 := Aside0.mk A120
     clear A120
     replace H := Option.bind_eq_some_iff.mp H
     obtain ⟨t464, A130, H⟩ := H
     replace H : ((tapearchivelaw34_normal.f kj5 t461).bind fun t467 => (if t467 = true then ((tapearchivelaw34_normal.f kj5 t464).bind fun t468 => (if t468 = true then ((extent_Subtract.f l0 t461).bind fun t469 => (if (t469.length : Int) = 0 then ((extent_Subtract.f l0 t464).bind fun t472 => (tapearchivelaw34_ExtentContains.j1 kj5 a2 (wrap64 (a1)) t461 t464 ((t472.length : Int) != 0))) else (tapearchivelaw34_ExtentContains.j1 kj5 a2 (wrap64 (a1)) t461 t464 true))) else (tapearchivelaw34_ExtentContains.j1 kj5 a2 (wrap64 (a1)) t461 t464 true))) else (tapearchivelaw34_ExtentContains.j1 kj5 a2 (wrap64 (a1)) t461 t464 true))) = some r := H
     have A13 := Aside0.mk A130
     clear A130
     have HC14 := Aside0.mk H
     clear H
     go_upto_region 7 with (first | (go_at_call 11; (with_reducible refine (extent_Align.calls kj5 _ _ l0 (wrap64 (a1)) 1125899906842624 t461 _ ?side1 ?side2 A12.out).mono ?_); (case side1 => exact zC (Kd.C_below HR0.out HB.out)); (case side2 => exact HC0.out); rintro e w15 ⟨v462, rfl, ho0, hb⟩; have n0_ := Aside0.mk (Kd.R_lower ho0 (below_size (zB HB))); have n1_ := Aside0.mk (below_step (zB HB) hb); clear HB; have HO463 := n0_; have HB := n1_; clear n0_ n1_; (try clear hb); (try clear hb2); (try clear hk); (try clear hi); (try clear ho0)) | (go_at_call 13; (with_reducible refine (extent_Gaps.calls kj5 _ _ l0 a2 t464 _ ?side1 ?side2 A13.out).mono ?_); (case side1 => exact zC (Kd.C_below HR0.out HB.out)); (case side2 => exact HC0.out); rintro e w16 ⟨v465, rfl, ho0, hb⟩; have n0_ := Aside0.mk (Kd.R_elder' (zR HO463.out) (Kd.R_base ho0) hb); have n1_ := Aside0.mk (Kd.R_lower (Kd.R_new' ho0 (Kd.R_lt (zR HO463.out))) (below_size (zB HB))); have n2_ := Aside0.mk (below_step (zB HB) hb); clear HO463; clear HB; have HO463 := n0_; have HO466 := n1_; have HB := n2_; clear n0_ n1_ n2_; (try clear hb); (try clear hb2); (try clear hk); (try clear hi); (try clear ho0)))
     repeat (go_quiet (first | (go_at_call 11; (with_reducible refine (extent_Align.calls kj5 _ _ l0 (wrap64 (a1)) 1125899906842624 t461 _ ?side1 ?side2 A12.out).mono ?_); (case side1 => exact zC (Kd.C_below HR0.out HB.out)); (case side2 => exact HC0.out); rintro e w15 ⟨v462, rfl, ho0, hb⟩; have n0_ := Aside0.mk (Kd.R_lower ho0 (below_size (zB HB))); have n1_ := Aside0.mk (below_step (zB HB) hb); clear HB; have HO463 := n0_; have HB := n1_; clear n0_ n1_; (try clear hb); (try clear hb2); (try clear hk); (try clear hi); (try clear ho0)) | (go_at_call 13; (with_reducible refine (extent_Gaps.calls kj5 _ _ l0 a2 t464 _ ?side1 ?side2 A13.out).mono ?_); (case side1 => exact zC (Kd.C_below HR0.out HB.out)); (case side2 => exact HC0.out); rintro e w16 ⟨v465, rfl, ho0, hb⟩; have n0_ := Aside0.mk (Kd.R_elder' (zR HO463.out) (Kd.R_base ho0) hb); have n1_ := Aside0.mk (Kd.R_lower (Kd.R_new' ho0 (Kd.R_lt (zR HO463.out))) (below_size (zB HB))); have n2_ := Aside0.mk (below_step (zB HB) hb); clear HO463; clear HB; have HO463 := n0_; have HO466 := n1_; have HB := n2_; clear n0_ n1_ n2_; (try clear hb); (try clear hb2); (try clear hk); (try clear hi); (try clear ho0))); go_upto_region 7 with (first | (go_at_call 11; (with_reducible refine (extent_Align.calls kj5 _ _ l0 (wrap64 (a1)) 1125899906842624 t461 _ ?side1 ?side2 A12.out).mono ?_); (case side1 => exact zC (Kd.C_below HR0.out HB.out)); (case side2 => exact HC0.out); rintro e w15 ⟨v462, rfl, ho0, hb⟩; have n0_ := Aside0.mk (Kd.R_lower ho0 (below_size (zB HB))); have n1_ := Aside0.mk (below_step (zB HB) hb); clear HB; have HO463 := n0_; have HB := n1_; clear n0_ n1_; (try clear hb); (try clear hb2); (try clear hk); (try clear hi); (try clear ho0)) | (go_at_call 13; (with_reducible refine (extent_Gaps.calls kj5 _ _ l0 a2 t464 _ ?side1 ?side2 A13.out).mono ?_); (case side1 => exact zC (Kd.C_below HR0.out HB.out)); (case side2 => exact HC0.out); rintro e w16 ⟨v465, rfl, ho0, hb⟩; have n0_ := Aside0.mk (Kd.R_elder' (zR HO463.out) (Kd.R_base ho0) hb); have n1_ := Aside0.mk (Kd.R_lower (Kd.R_new' ho0 (Kd.R_lt (zR HO463.out))) (below_size (zB HB))); have n2_ := Aside0.mk (below_step (zB HB) hb); clear HO463; clear HB; have HO463 := n0_; have HO466 := n1_; have HB := n2_; clear n0_ n1_ n2_; (try clear hb); (try clear hb2); (try clear hk); (try clear hi); (try clear ho0))))
     (try simp only [Act.put, List.setIfInBounds_toArray, List.set_cons_zero, List.set_cons_succ])
     go_cut [55] (fun v55 wc => ∃ (kq : Nat) (x55_13 : Bool), v55 = .bool x55_13 ∧ Aside0 (tapearchivelaw34_ExtentContains.j1 kq a2 (wrap64 (a1)) t461 t464 x55_13 = some r) ∧ Aside0 (kq ≤ kj5) ∧ Aside0 (Kd.R k30 30 wc w.heap.size (fun k_ => some k_ ≠ (v465 : Value).ownBlock) v462 t461) ∧ Aside0 (Kd.R k30 30 wc w.heap.size (fun k_ => some k_ ≠ (v462 : Value).ownBlock) v465 t464) ∧ Aside0 (Below w.heap.size w wc))
     case first =>
      have H := HC14.out
      clear HC14
      replace H := Option.bind_eq_some_iff.mp H
      obtain ⟨t467, A170, H⟩ := H
      replace H : (if t467 = true then ((tapearchivelaw34_normal.f kj5 t464).bind fun t468 => (if t468 = true then ((extent_Subtract.f l0 t461).bind fun t469 => (if (t469.length : Int) = 0 then ((extent_Subtract.f l0 t464).bind fun t472 => (tapearchivelaw34_ExtentContains.j1 kj5 a2 (wrap64 (a1)) t461 t464 ((t472.length : Int) != 0))) else (tapearchivelaw34_ExtentContains.j1 kj5 a2 (wrap64 (a1)) t461 t464 true))) else (tapearchivelaw34_ExtentContains.j1 kj5 a2 (wrap64 (a1)) t461 t464 true))) else (tapearchivelaw34_ExtentContains.j1 kj5 a2 (wrap64 (a1)) t461 t464 true)) = some r := H
      have A17 := Aside0.mk A170
      clear A170
      by_cases c18 : t467 = true
      ·subst c18
       have H1 : ((tapearchivelaw34_normal.f kj5 t464).bind fun t468 => (if t468 = true then ((extent_Subtract.f l0 t461).bind fun t469 => (if (t469.length : Int) = 0 then ((extent_Subtract.f l0 t464).bind fun t472 => (tapearchivelaw34_ExtentContains.j1 kj5 a2 (wrap64 (a1)) t461 t464 ((t472.length : Int) != 0))) else (tapearchivelaw34_ExtentContains.j1 kj5 a2 (wrap64 (a1)) t461 t464 true))) else (tapearchivelaw34_ExtentContains.j1 kj5 a2 (wrap64 (a1)) t461 t464 true))) = some r := by rw [if_pos rfl] at H; exact H
       clear H
       have H := H1
       clear H1
       replace H := Option.bind_eq_some_iff.mp H
       obtain ⟨t468, A190, H⟩ := H
       replace H : (if t468 = true then ((extent_Subtract.f l0 t461).bind fun t469 => (if (t469.length : Int) = 0 then ((extent_Subtract.f l0 t464).bind fun t472 => (tapearchivelaw34_ExtentContains.j1 kj5 a2 (wrap64 (a1)) t461 t464 ((t472.length : Int) != 0))) else (tapearchivelaw34_ExtentContains.j1 kj5 a2 (wrap64 (a1)) t461 t464 true))) else (tapearchivelaw34_ExtentContains.j1 kj5 a2 (wrap64 (a1)) t461 t464 true)) = some r := H
       have A19 := Aside0.mk A190
       clear A190
       by_cases c20 : t468 = true
       ·subst c20
        have H1 : ((extent_Subtract.f l0 t461).bind fun t469 => (if (t469.length : Int) = 0 then ((extent_Subtract.f l0 t464).bind fun t472 => (tapearchivelaw34_ExtentContains.j1 kj5 a2 (wrap64 (a1)) t461 t464 ((t472.length : Int) != 0))) else (tapearchivelaw34_ExtentContains.j1 kj5 a2 (wrap64 (a1)) t461 t464 true))) = some r := by rw [if_pos rfl] at H; exact H
        clear H
        have H := H1
        clear H1
        replace H := Option.bind_eq_some_iff.mp H
        obtain ⟨t469, A210, H⟩ := H
        replace H : (if (t469.length : Int) = 0 then ((extent_Subtract.f l0 t464).bind fun t472 => (tapearchivelaw34_ExtentContains.j1 kj5 a2 (wrap64 (a1)) t461 t464 ((t472.length : Int) != 0))) else (tapearchivelaw34_ExtentContains.j1 kj5 a2 (wrap64 (a1)) t461 t464 true)) = some r := H
        have A21 := Aside0.mk A210
        clear A210
        by_cases c22 : (t469.length : Int) = 0
        ·rw [if_pos c22] at H
         have c22b0 : ((t469.length : Int) == 0) = true := beq_iff_eq.mpr c22
         have c22b1 : ((t469.length : Int) != 0) = false := bne_eq_false_iff_eq.mpr c22
         clear c22
         (first | rw [c22b0] | (simp only [i64_w, i32_w]; rw [c22b0]) | skip)
         replace H := Option.bind_eq_some_iff.mp H
         obtain ⟨t472, A230, H⟩ := H
         replace H : (tapearchivelaw34_ExtentContains.j1 kj5 a2 (wrap64 (a1)) t461 t464 ((t472.length : Int) != 0)) = some r := H
         have A23 := Aside0.mk A230
         clear A230
         have H' := Aside0.mk H
         clear H
         obtain ⟨Ao24, co24, eo24⟩ := Kd.R_slice HO463.out
         subst eo24
         go_wp2_with (first | (go_at_call 16; (with_reducible refine (tapearchivelaw34_normal.calls kj5 _ _ t461 true _ ?side1 ?side2 A17.out).mono ?_); (case side1 => exact zC (Kd.R_reads' HO463.out).2.2); (case side2 => exact (Kd.R_reads' HO463.out).2.1); rintro e w25 ⟨rfl, hb⟩; have n0_ := Aside0.mk (Kd.R_below (zR HO463.out) hb); have n1_ := Aside0.mk (Kd.R_below (zR HO466.out) hb); have n2_ := Aside0.mk (below_step (zB HB) hb); clear HO463; clear HO466; clear HB; have HO463 := n0_; have HO466 := n1_; have HB := n2_; clear n0_ n1_ n2_; (try clear hb); (try clear hb2); (try clear hk); (try clear hi); obtain ⟨Ao26, co26, eo26⟩ := Kd.R_slice HO466.out; subst eo26) | (go_at_call 16; (with_reducible refine (tapearchivelaw34_normal.calls kj5 _ _ t464 true _ ?side1 ?side2 A19.out).mono ?_); (case side1 => exact zC (Kd.R_reads' HO466.out).2.2); (case side2 => exact (Kd.R_reads' HO466.out).2.1); rintro e w27 ⟨rfl, hb⟩; have n0_ := Aside0.mk (Kd.R_below (zR HO463.out) hb); have n1_ := Aside0.mk (Kd.R_below (zR HO466.out) hb); have n2_ := Aside0.mk (below_step (zB HB) hb); clear HO463; clear HO466; clear HB; have HO463 := n0_; have HO466 := n1_; have HB := n2_; clear n0_ n1_ n2_; (try clear hb); (try clear hb2); (try clear hk); (try clear hi)) | (go_at_call 17; (with_reducible refine (extent_Subtract.calls _ _ l0 _ _ t461 t469 _ ?side1 ?side2 ?side3 ?side4 A21.out).mono ?_); (case side1 => exact zC (Kd.C_below HR0.out HB.out)); (case side2 => exact HC0.out); (case side3 => exact zC (Kd.R_reads' HO463.out).2.2); (case side4 => exact (Kd.R_reads' HO463.out).2.1); rintro e w28 ⟨v470, rfl, ho0, hb⟩; have n0_ := Aside0.mk (Kd.R_elder' (zR HO463.out) (Kd.R_base ho0) hb); have n1_ := Aside0.mk (Kd.R_elder' (zR HO466.out) (Kd.R_base ho0) hb); have n2_ := Aside0.mk (Kd.R_lower (Kd.R_new' (Kd.R_new' ho0 (Kd.R_lt (zR HO463.out))) (Kd.R_lt (zR HO466.out))) (below_size (zB HB))); have n3_ := Aside0.mk (below_step (zB HB) hb); clear HO463; clear HO466; clear HB; have HO463 := n0_; have HO466 := n1_; have HO471 := n2_; have HB := n3_; clear n0_ n1_ n2_ n3_; (try clear hb); (try clear hb2); (try clear hk); (try clear hi); (try clear ho0); obtain ⟨Ao29, co29, eo29⟩ := Kd.R_slice HO471.out; subst eo29) | (go_at_call 17; (with_reducible refine (extent_Subtract.calls _ _ l0 _ _ t464 t472 _ ?side1 ?side2 ?side3 ?side4 A23.out).mono ?_); (case side1 => exact zC (Kd.C_below HR0.out HB.out)); (case side2 => exact HC0.out); (case side3 => exact zC (Kd.R_reads' HO466.out).2.2); (case side4 => exact (Kd.R_reads' HO466.out).2.1); rintro e w30 ⟨v473, rfl, ho0, hb⟩; have n0_ := Aside0.mk (Kd.R_elder' (zR HO463.out) (Kd.R_base ho0) hb); have n1_ := Aside0.mk (Kd.R_elder' (zR HO466.out) (Kd.R_base ho0) hb); have n2_ := Aside0.mk (Kd.R_elder' (zR HO471.out) (Kd.R_base ho0) hb); have n3_ := Aside0.mk (Kd.R_lower (Kd.R_new' (Kd.R_new' (Kd.R_new' ho0 (Kd.R_lt (zR HO463.out))) (Kd.R_lt (zR HO466.out))) (Kd.R_lt (zR HO471.out))) (below_size (zB HB))); have n4_ := Aside0.mk (below_step (zB HB) hb); clear HO463; clear HO466; clear HO471; clear HB; have HO463 := n0_; have HO466 := n1_; have HO471 := n2_; have HO474 := n3_; have HB := n4_; clear n0_ n1_ n2_ n3_ n4_; (try clear hb); (try clear hb2); (try clear hk); (try clear hi); (try clear ho0); obtain ⟨Ao31, co31, eo31⟩ := Kd.R_slice HO474.out; subst eo31))
         repeat (go_quiet (first | (go_at_call 16; (with_reducible refine (tapearchivelaw34_normal.calls kj5 _ _ t461 true _ ?side1 ?side2 A17.out).mono ?_); (case side1 => exact zC (Kd.R_reads' HO463.out).2.2); (case side2 => exact (Kd.R_reads' HO463.out).2.1); rintro e w25 ⟨rfl, hb⟩; have n0_ := Aside0.mk (Kd.R_below (zR HO463.out) hb); have n1_ := Aside0.mk (Kd.R_below (zR HO466.out) hb); have n2_ := Aside0.mk (below_step (zB HB) hb); clear HO463; clear HO466; clear HB; have HO463 := n0_; have HO466 := n1_; have HB := n2_; clear n0_ n1_ n2_; (try clear hb); (try clear hb2); (try clear hk); (try clear hi); obtain ⟨Ao26, co26, eo26⟩ := Kd.R_slice HO466.out; subst eo26) | (go_at_call 16; (with_reducible refine (tapearchivelaw34_normal.calls kj5 _ _ t464 true _ ?side1 ?side2 A19.out).mono ?_); (case side1 => exact zC (Kd.R_reads' HO466.out).2.2); (case side2 => exact (Kd.R_reads' HO466.out).2.1); rintro e w27 ⟨rfl, hb⟩; have n0_ := Aside0.mk (Kd.R_below (zR HO463.out) hb); have n1_ := Aside0.mk (Kd.R_below (zR HO466.out) hb); have n2_ := Aside0.mk (below_step (zB HB) hb); clear HO463; clear HO466; clear HB; have HO463 := n0_; have HO466 := n1_; have HB := n2_; clear n0_ n1_ n2_; (try clear hb); (try clear hb2); (try clear hk); (try clear hi)) | (go_at_call 17; (with_reducible refine (extent_Subtract.calls _ _ l0 _ _ t461 t469 _ ?side1 ?side2 ?side3 ?side4 A21.out).mono ?_); (case side1 => exact zC (Kd.C_below HR0.out HB.out)); (case side2 => exact HC0.out); (case side3 => exact zC (Kd.R_reads' HO463.out).2.2); (case side4 => exact (Kd.R_reads' HO463.out).2.1); rintro e w28 ⟨v470, rfl, ho0, hb⟩; have n0_ := Aside0.mk (Kd.R_elder' (zR HO463.out) (Kd.R_base ho0) hb); have n1_ := Aside0.mk (Kd.R_elder' (zR HO466.out) (Kd.R_base ho0) hb); have n2_ := Aside0.mk (Kd.R_lower (Kd.R_new' (Kd.R_new' ho0 (Kd.R_lt (zR HO463.out))) (Kd.R_lt (zR HO466.out))) (below_size (zB HB))); have n3_ := Aside0.mk (below_step (zB HB) hb); clear HO463; clear HO466; clear HB; have HO463 := n0_; have HO466 := n1_; have HO471 := n2_; have HB := n3_; clear n0_ n1_ n2_ n3_; (try clear hb); (try clear hb2); (try clear hk); (try clear hi); (try clear ho0); obtain ⟨Ao29, co29, eo29⟩ := Kd.R_slice HO471.out; subst eo29) | (go_at_call 17; (with_reducible refine (extent_Subtract.calls _ _ l0 _ _ t464 t472 _ ?side1 ?side2 ?side3 ?side4 A23.out).mono ?_); (case side1 => exact zC (Kd.C_below HR0.out HB.out)); (case side2 => exact HC0.out); (case side3 => exact zC (Kd.R_reads' HO466.out).2.2); (case side4 => exact (Kd.R_reads' HO466.out).2.1); rintro e w30 ⟨v473, rfl, ho0, hb⟩; have n0_ := Aside0.mk (Kd.R_elder' (zR HO463.out) (Kd.R_base ho0) hb); have n1_ := Aside0.mk (Kd.R_elder' (zR HO466.out) (Kd.R_base ho0) hb); have n2_ := Aside0.mk (Kd.R_elder' (zR HO471.out) (Kd.R_base ho0) hb); have n3_ := Aside0.mk (Kd.R_lower (Kd.R_new' (Kd.R_new' (Kd.R_new' ho0 (Kd.R_lt (zR HO463.out))) (Kd.R_lt (zR HO466.out))) (Kd.R_lt (zR HO471.out))) (below_size (zB HB))); have n4_ := Aside0.mk (below_step (zB HB) hb); clear HO463; clear HO466; clear HO471; clear HB; have HO463 := n0_; have HO466 := n1_; have HO471 := n2_; have HO474 := n3_; have HB := n4_; clear n0_ n1_ n2_ n3_ n4_; (try clear hb); (try clear hb2); (try clear hk); (try clear hi); (try clear ho0); obtain ⟨Ao31, co31, eo31⟩ := Kd.R_slice HO474.out; subst eo31)); try go_wp2_with (first | (go_at_call 16; (with_reducible refine (tapearchivelaw34_normal.calls kj5 _ _ t461 true _ ?side1 ?side2 A17.out).mono ?_); (case side1 => exact zC (Kd.R_reads' HO463.out).2.2); (case side2 => exact (Kd.R_reads' HO463.out).2.1); rintro e w25 ⟨rfl, hb⟩; have n0_ := Aside0.mk (Kd.R_below (zR HO463.out) hb); have n1_ := Aside0.mk (Kd.R_below (zR HO466.out) hb); have n2_ := Aside0.mk (below_step (zB HB) hb); clear HO463; clear HO466; clear HB; have HO463 := n0_; have HO466 := n1_; have HB := n2_; clear n0_ n1_ n2_; (try clear hb); (try clear hb2); (try clear hk); (try clear hi); obtain ⟨Ao26, co26, eo26⟩ := Kd.R_slice HO466.out; subst eo26) | (go_at_call 16; (with_reducible refine (tapearchivelaw34_normal.calls kj5 _ _ t464 true _ ?side1 ?side2 A19.out).mono ?_); (case side1 => exact zC (Kd.R_reads' HO466.out).2.2); (case side2 => exact (Kd.R_reads' HO466.out).2.1); rintro e w27 ⟨rfl, hb⟩; have n0_ := Aside0.mk (Kd.R_below (zR HO463.out) hb); have n1_ := Aside0.mk (Kd.R_below (zR HO466.out) hb); have n2_ := Aside0.mk (below_step (zB HB) hb); clear HO463; clear HO466; clear HB; have HO463 := n0_; have HO466 := n1_; have HB := n2_; clear n0_ n1_ n2_; (try clear hb); (try clear hb2); (try clear hk); (try clear hi)) | (go_at_call 17; (with_reducible refine (extent_Subtract.calls _ _ l0 _ _ t461 t469 _ ?side1 ?side2 ?side3 ?side4 A21.out).mono ?_); (case side1 => exact zC (Kd.C_below HR0.out HB.out)); (case side2 => exact HC0.out); (case side3 => exact zC (Kd.R_reads' HO463.out).2.2); (case side4 => exact (Kd.R_reads' HO463.out).2.1); rintro e w28 ⟨v470, rfl, ho0, hb⟩; have n0_ := Aside0.mk (Kd.R_elder' (zR HO463.out) (Kd.R_base ho0) hb); have n1_ := Aside0.mk (Kd.R_elder' (zR HO466.out) (Kd.R_base ho0) hb); have n2_ := Aside0.mk (Kd.R_lower (Kd.R_new' (Kd.R_new' ho0 (Kd.R_lt (zR HO463.out))) (Kd.R_lt (zR HO466.out))) (below_size (zB HB))); have n3_ := Aside0.mk (below_step (zB HB) hb); clear HO463; clear HO466; clear HB; have HO463 := n0_; have HO466 := n1_; have HO471 := n2_; have HB := n3_; clear n0_ n1_ n2_ n3_; (try clear hb); (try clear hb2); (try clear hk); (try clear hi); (try clear ho0); obtain ⟨Ao29, co29, eo29⟩ := Kd.R_slice HO471.out; subst eo29) | (go_at_call 17; (with_reducible refine (extent_Subtract.calls _ _ l0 _ _ t464 t472 _ ?side1 ?side2 ?side3 ?side4 A23.out).mono ?_); (case side1 => exact zC (Kd.C_below HR0.out HB.out)); (case side2 => exact HC0.out); (case side3 => exact zC (Kd.R_reads' HO466.out).2.2); (case side4 => exact (Kd.R_reads' HO466.out).2.1); rintro e w30 ⟨v473, rfl, ho0, hb⟩; have n0_ := Aside0.mk (Kd.R_elder' (zR HO463.out) (Kd.R_base ho0) hb); have n1_ := Aside0.mk (Kd.R_elder' (zR HO466.out) (Kd.R_base ho0) hb); have n2_ := Aside0.mk (Kd.R_elder' (zR HO471.out) (Kd.R_base ho0) hb); have n3_ := Aside0.mk (Kd.R_lower (Kd.R_new' (Kd.R_new' (Kd.R_new' ho0 (Kd.R_lt (zR HO463.out))) (Kd.R_lt (zR HO466.out))) (Kd.R_lt (zR HO471.out))) (below_size (zB HB))); have n4_ := Aside0.mk (below_step (zB HB) hb); clear HO463; clear HO466; clear HO471; clear HB; have HO463 := n0_; have HO466 := n1_; have HO471 := n2_; have HO474 := n3_; have HB := n4_; clear n0_ n1_ n2_ n3_ n4_; (try clear hb); (try clear hb2); (try clear hk); (try clear hi); (try clear ho0); obtain ⟨Ao31, co31, eo31⟩ := Kd.R_slice HO474.out; subst eo31)))
         go_meet
         case rel => exact ⟨_, (((t472.length : Int) != 0)), zS, H', ⟨by have := HJ5.out; first | omega | exact Nat.le_refl _⟩, ⟨by (with_reducible repeat (first | apply Kd.R_alloc | apply Kd.R_drewN | apply Kd.R_drew)); exact Kd.R_mono HO463.out (fun _ hk => hk.1.1.2)⟩, ⟨by (with_reducible repeat (first | apply Kd.R_alloc | apply Kd.R_drewN | apply Kd.R_drew)); exact Kd.R_mono HO466.out (fun _ hk => hk.1.1.2)⟩, ⟨zB HB⟩⟩
        ·rw [if_neg c22] at H
         have c22b0 : ((t469.length : Int) == 0) = false := beq_eq_false_iff_ne.mpr c22
         have c22b1 : ((t469.length : Int) != 0) = true := bne_iff_ne.mpr c22
         have c22b2 : ¬ (t469 = []) := fun h_ => c22 (by rw [h_]; rfl)
         (first | rw [c22b0] | (simp only [i64_w, i32_w]; rw [c22b0]) | skip)
         have H' := Aside0.mk H
         clear H
         obtain ⟨Ao32, co32, eo32⟩ := Kd.R_slice HO463.out
         subst eo32
         go_wp2_with (first | (go_at_call 16; (with_reducible refine (tapearchivelaw34_normal.calls kj5 _ _ t461 true _ ?side1 ?side2 A17.out).mono ?_); (case side1 => exact zC (Kd.R_reads' HO463.out).2.2); (case side2 => exact (Kd.R_reads' HO463.out).2.1); rintro e w33 ⟨rfl, hb⟩; have n0_ := Aside0.mk (Kd.R_below (zR HO463.out) hb); have n1_ := Aside0.mk (Kd.R_below (zR HO466.out) hb); have n2_ := Aside0.mk (below_step (zB HB) hb); clear HO463; clear HO466; clear HB; have HO463 := n0_; have HO466 := n1_; have HB := n2_; clear n0_ n1_ n2_; (try clear hb); (try clear hb2); (try clear hk); (try clear hi); obtain ⟨Ao34, co34, eo34⟩ := Kd.R_slice HO466.out; subst eo34) | (go_at_call 16; (with_reducible refine (tapearchivelaw34_normal.calls kj5 _ _ t464 true _ ?side1 ?side2 A19.out).mono ?_); (case side1 => exact zC (Kd.R_reads' HO466.out).2.2); (case side2 => exact (Kd.R_reads' HO466.out).2.1); rintro e w35 ⟨rfl, hb⟩; have n0_ := Aside0.mk (Kd.R_below (zR HO463.out) hb); have n1_ := Aside0.mk (Kd.R_below (zR HO466.out) hb); have n2_ := Aside0.mk (below_step (zB HB) hb); clear HO463; clear HO466; clear HB; have HO463 := n0_; have HO466 := n1_; have HB := n2_; clear n0_ n1_ n2_; (try clear hb); (try clear hb2); (try clear hk); (try clear hi)) | (go_at_call 17; (with_reducible refine (extent_Subtract.calls _ _ l0 _ _ t461 t469 _ ?side1 ?side2 ?side3 ?side4 A21.out).mono ?_); (case side1 => exact zC (Kd.C_below HR0.out HB.out)); (case side2 => exact HC0.out); (case side3 => exact zC (Kd.R_reads' HO463.out).2.2); (case side4 => exact (Kd.R_reads' HO463.out).2.1); rintro e w36 ⟨v470, rfl, ho0, hb⟩; have n0_ := Aside0.mk (Kd.R_elder' (zR HO463.out) (Kd.R_base ho0) hb); have n1_ := Aside0.mk (Kd.R_elder' (zR HO466.out) (Kd.R_base ho0) hb); have n2_ := Aside0.mk (Kd.R_lower (Kd.R_new' (Kd.R_new' ho0 (Kd.R_lt (zR HO463.out))) (Kd.R_lt (zR HO466.out))) (below_size (zB HB))); have n3_ := Aside0.mk (below_step (zB HB) hb); clear HO463; clear HO466; clear HB; have HO463 := n0_; have HO466 := n1_; have HO471 := n2_; have HB := n3_; clear n0_ n1_ n2_ n3_; (try clear hb); (try clear hb2); (try clear hk); (try clear hi); (try clear ho0); obtain ⟨Ao37, co37, eo37⟩ := Kd.R_slice HO471.out; subst eo37))
         repeat (go_quiet (first | (go_at_call 16; (with_reducible refine (tapearchivelaw34_normal.calls kj5 _ _ t461 true _ ?side1 ?side2 A17.out).mono ?_); (case side1 => exact zC (Kd.R_reads' HO463.out).2.2); (case side2 => exact (Kd.R_reads' HO463.out).2.1); rintro e w33 ⟨rfl, hb⟩; have n0_ := Aside0.mk (Kd.R_below (zR HO463.out) hb); have n1_ := Aside0.mk (Kd.R_below (zR HO466.out) hb); have n2_ := Aside0.mk (below_step (zB HB) hb); clear HO463; clear HO466; clear HB; have HO463 := n0_; have HO466 := n1_; have HB := n2_; clear n0_ n1_ n2_; (try clear hb); (try clear hb2); (try clear hk); (try clear hi); obtain ⟨Ao34, co34, eo34⟩ := Kd.R_slice HO466.out; subst eo34) | (go_at_call 16; (with_reducible refine (tapearchivelaw34_normal.calls kj5 _ _ t464 true _ ?side1 ?side2 A19.out).mono ?_); (case side1 => exact zC (Kd.R_reads' HO466.out).2.2); (case side2 => exact (Kd.R_reads' HO466.out).2.1); rintro e w35 ⟨rfl, hb⟩; have n0_ := Aside0.mk (Kd.R_below (zR HO463.out) hb); have n1_ := Aside0.mk (Kd.R_below (zR HO466.out) hb); have n2_ := Aside0.mk (below_step (zB HB) hb); clear HO463; clear HO466; clear HB; have HO463 := n0_; have HO466 := n1_; have HB := n2_; clear n0_ n1_ n2_; (try clear hb); (try clear hb2); (try clear hk); (try clear hi)) | (go_at_call 17; (with_reducible refine (extent_Subtract.calls _ _ l0 _ _ t461 t469 _ ?side1 ?side2 ?side3 ?side4 A21.out).mono ?_); (case side1 => exact zC (Kd.C_below HR0.out HB.out)); (case side2 => exact HC0.out); (case side3 => exact zC (Kd.R_reads' HO463.out).2.2); (case side4 => exact (Kd.R_reads' HO463.out).2.1); rintro e w36 ⟨v470, rfl, ho0, hb⟩; have n0_ := Aside0.mk (Kd.R_elder' (zR HO463.out) (Kd.R_base ho0) hb); have n1_ := Aside0.mk (Kd.R_elder' (zR HO466.out) (Kd.R_base ho0) hb); have n2_ := Aside0.mk (Kd.R_lower (Kd.R_new' (Kd.R_new' ho0 (Kd.R_lt (zR HO463.out))) (Kd.R_lt (zR HO466.out))) (below_size (zB HB))); have n3_ := Aside0.mk (below_step (zB HB) hb); clear HO463; clear HO466; clear HB; have HO463 := n0_; have HO466 := n1_; have HO471 := n2_; have HB := n3_; clear n0_ n1_ n2_ n3_; (try clear hb); (try clear hb2); (try clear hk); (try clear hi); (try clear ho0); obtain ⟨Ao37, co37, eo37⟩ := Kd.R_slice HO471.out; subst eo37)); try go_wp2_with (first | (go_at_call 16; (with_reducible refine (tapearchivelaw34_normal.calls kj5 _ _ t461 true _ ?side1 ?side2 A17.out).mono ?_); (case side1 => exact zC (Kd.R_reads' HO463.out).2.2); (case side2 => exact (Kd.R_reads' HO463.out).2.1); rintro e w33 ⟨rfl, hb⟩; have n0_ := Aside0.mk (Kd.R_below (zR HO463.out) hb); have n1_ := Aside0.mk (Kd.R_below (zR HO466.out) hb); have n2_ := Aside0.mk (below_step (zB HB) hb); clear HO463; clear HO466; clear HB; have HO463 := n0_; have HO466 := n1_; have HB := n2_; clear n0_ n1_ n2_; (try clear hb); (try clear hb2); (try clear hk); (try clear hi); obtain ⟨Ao34, co34, eo34⟩ := Kd.R_slice HO466.out; subst eo34) | (go_at_call 16; (with_reducible refine (tapearchivelaw34_normal.calls kj5 _ _ t464 true _ ?side1 ?side2 A19.out).mono ?_); (case side1 => exact zC (Kd.R_reads' HO466.out).2.2); (case side2 => exact (Kd.R_reads' HO466.out).2.1); rintro e w35 ⟨rfl, hb⟩; have n0_ := Aside0.mk (Kd.R_below (zR HO463.out) hb); have n1_ := Aside0.mk (Kd.R_below (zR HO466.out) hb); have n2_ := Aside0.mk (below_step (zB HB) hb); clear HO463; clear HO466; clear HB; have HO463 := n0_; have HO466 := n1_; have HB := n2_; clear n0_ n1_ n2_; (try clear hb); (try clear hb2); (try clear hk); (try clear hi)) | (go_at_call 17; (with_reducible refine (extent_Subtract.calls _ _ l0 _ _ t461 t469 _ ?side1 ?side2 ?side3 ?side4 A21.out).mono ?_); (case side1 => exact zC (Kd.C_below HR0.out HB.out)); (case side2 => exact HC0.out); (case side3 => exact zC (Kd.R_reads' HO463.out).2.2); (case side4 => exact (Kd.R_reads' HO463.out).2.1); rintro e w36 ⟨v470, rfl, ho0, hb⟩; have n0_ := Aside0.mk (Kd.R_elder' (zR HO463.out) (Kd.R_base ho0) hb); have n1_ := Aside0.mk (Kd.R_elder' (zR HO466.out) (Kd.R_base ho0) hb); have n2_ := Aside0.mk (Kd.R_lower (Kd.R_new' (Kd.R_new' ho0 (Kd.R_lt (zR HO463.out))) (Kd.R_lt (zR HO466.out))) (below_size (zB HB))); have n3_ := Aside0.mk (below_step (zB HB) hb); clear HO463; clear HO466; clear HB; have HO463 := n0_; have HO466 := n1_; have HO471 := n2_; have HB := n3_; clear n0_ n1_ n2_ n3_; (try clear hb); (try clear hb2); (try clear hk); (try clear hi); (try clear ho0); obtain ⟨Ao37, co37, eo37⟩ := Kd.R_slice HO471.out; subst eo37)))
         go_meet
         case rel => exact ⟨_, (true), zS, H', ⟨by have := HJ5.out; first | omega | exact Nat.le_refl _⟩, ⟨by (with_reducible repeat (first | apply Kd.R_alloc | apply Kd.R_drewN | apply Kd.R_drew)); exact Kd.R_mono HO463.out (fun _ hk => hk.1.2)⟩, ⟨by (with_reducible repeat (first | apply Kd.R_alloc | apply Kd.R_drewN | apply Kd.R_drew)); exact Kd.R_mono HO466.out (fun _ hk => hk.1.2)⟩, ⟨zB HB⟩⟩
       ·replace c20 := Bool.eq_false_iff.mpr c20
        subst c20
        have H1 : (tapearchivelaw34_ExtentContains.j1 kj5 a2 (wrap64 (a1)) t461 t464 true) = some r := by rw [if_neg (show ¬ (false = true) by decide)] at H; exact H
        clear H
        have H := H1
        clear H1
        have H' := Aside0.mk H
        clear H
        obtain ⟨Ao38, co38, eo38⟩ := Kd.R_slice HO463.out
        subst eo38
        go_wp2_with (first | (go_at_call 16; (with_reducible refine (tapearchivelaw34_normal.calls kj5 _ _ t461 true _ ?side1 ?side2 A17.out).mono ?_); (case side1 => exact zC (Kd.R_reads' HO463.out).2.2); (case side2 => exact (Kd.R_reads' HO463.out).2.1); rintro e w39 ⟨rfl, hb⟩; have n0_ := Aside0.mk (Kd.R_below (zR HO463.out) hb); have n1_ := Aside0.mk (Kd.R_below (zR HO466.out) hb); have n2_ := Aside0.mk (below_step (zB HB) hb); clear HO463; clear HO466; clear HB; have HO463 := n0_; have HO466 := n1_; have HB := n2_; clear n0_ n1_ n2_; (try clear hb); (try clear hb2); (try clear hk); (try clear hi); obtain ⟨Ao40, co40, eo40⟩ := Kd.R_slice HO466.out; subst eo40) | (go_at_call 16; (with_reducible refine (tapearchivelaw34_normal.calls kj5 _ _ t464 false _ ?side1 ?side2 A19.out).mono ?_); (case side1 => exact zC (Kd.R_reads' HO466.out).2.2); (case side2 => exact (Kd.R_reads' HO466.out).2.1); rintro e w41 ⟨rfl, hb⟩; have n0_ := Aside0.mk (Kd.R_below (zR HO463.out) hb); have n1_ := Aside0.mk (Kd.R_below (zR HO466.out) hb); have n2_ := Aside0.mk (below_step (zB HB) hb); clear HO463; clear HO466; clear HB; have HO463 := n0_; have HO466 := n1_; have HB := n2_; clear n0_ n1_ n2_; (try clear hb); (try clear hb2); (try clear hk); (try clear hi)))
        repeat (go_quiet (first | (go_at_call 16; (with_reducible refine (tapearchivelaw34_normal.calls kj5 _ _ t461 true _ ?side1 ?side2 A17.out).mono ?_); (case side1 => exact zC (Kd.R_reads' HO463.out).2.2); (case side2 => exact (Kd.R_reads' HO463.out).2.1); rintro e w39 ⟨rfl, hb⟩; have n0_ := Aside0.mk (Kd.R_below (zR HO463.out) hb); have n1_ := Aside0.mk (Kd.R_below (zR HO466.out) hb); have n2_ := Aside0.mk (below_step (zB HB) hb); clear HO463; clear HO466; clear HB; have HO463 := n0_; have HO466 := n1_; have HB := n2_; clear n0_ n1_ n2_; (try clear hb); (try clear hb2); (try clear hk); (try clear hi); obtain ⟨Ao40, co40, eo40⟩ := Kd.R_slice HO466.out; subst eo40) | (go_at_call 16; (with_reducible refine (tapearchivelaw34_normal.calls kj5 _ _ t464 false _ ?side1 ?side2 A19.out).mono ?_); (case side1 => exact zC (Kd.R_reads' HO466.out).2.2); (case side2 => exact (Kd.R_reads' HO466.out).2.1); rintro e w41 ⟨rfl, hb⟩; have n0_ := Aside0.mk (Kd.R_below (zR HO463.out) hb); have n1_ := Aside0.mk (Kd.R_below (zR HO466.out) hb); have n2_ := Aside0.mk (below_step (zB HB) hb); clear HO463; clear HO466; clear HB; have HO463 := n0_; have HO466 := n1_; have HB := n2_; clear n0_ n1_ n2_; (try clear hb); (try clear hb2); (try clear hk); (try clear hi))); try go_wp2_with (first | (go_at_call 16; (with_reducible refine (tapearchivelaw34_normal.calls kj5 _ _ t461 true _ ?side1 ?side2 A17.out).mono ?_); (case side1 => exact zC (Kd.R_reads' HO463.out).2.2); (case side2 => exact (Kd.R_reads' HO463.out).2.1); rintro e w39 ⟨rfl, hb⟩; have n0_ := Aside0.mk (Kd.R_below (zR HO463.out) hb); have n1_ := Aside0.mk (Kd.R_below (zR HO466.out) hb); have n2_ := Aside0.mk (below_step (zB HB) hb); clear HO463; clear HO466; clear HB; have HO463 := n0_; have HO466 := n1_; have HB := n2_; clear n0_ n1_ n2_; (try clear hb); (try clear hb2); (try clear hk); (try clear hi); obtain ⟨Ao40, co40, eo40⟩ := Kd.R_slice HO466.out; subst eo40) | (go_at_call 16; (with_reducible refine (tapearchivelaw34_normal.calls kj5 _ _ t464 false _ ?side1 ?side2 A19.out).mono ?_); (case side1 => exact zC (Kd.R_reads' HO466.out).2.2); (case side2 => exact (Kd.R_reads' HO466.out).2.1); rintro e w41 ⟨rfl, hb⟩; have n0_ := Aside0.mk (Kd.R_below (zR HO463.out) hb); have n1_ := Aside0.mk (Kd.R_below (zR HO466.out) hb); have n2_ := Aside0.mk (below_step (zB HB) hb); clear HO463; clear HO466; clear HB; have HO463 := n0_; have HO466 := n1_; have HB := n2_; clear n0_ n1_ n2_; (try clear hb); (try clear hb2); (try clear hk); (try clear hi))))
        go_meet
        case rel => exact ⟨_, (true), zS, H', ⟨by have := HJ5.out; first | omega | exact Nat.le_refl _⟩, ⟨by (with_reducible repeat (first | apply Kd.R_alloc | apply Kd.R_drewN | apply Kd.R_drew)); exact Kd.R_mono HO463.out (fun _ hk => hk.2)⟩, ⟨by (with_reducible repeat (first | apply Kd.R_alloc | apply Kd.R_drewN | apply Kd.R_drew)); exact Kd.R_mono HO466.out (fun _ hk => hk.2)⟩, ⟨zB HB⟩⟩
      ·replace c18 := Bool.eq_false_iff.mpr c18
       subst c18
       have H1 : (tapearchivelaw34_ExtentContains.j1 kj5 a2 (wrap64 (a1)) t461 t464 true) = some r := by rw [if_neg (show ¬ (false = true) by decide)] at H; exact H
       clear H
       have H := H1
       clear H1
       have H' := Aside0.mk H
       clear H
       obtain ⟨Ao42, co42, eo42⟩ := Kd.R_slice HO463.out
       subst eo42
       go_wp2_with (first | (go_at_call 16; (with_reducible refine (tapearchivelaw34_normal.calls kj5 _ _ t461 false _ ?side1 ?side2 A17.out).mono ?_); (case side1 => exact zC (Kd.R_reads' HO463.out).2.2); (case side2 => exact (Kd.R_reads' HO463.out).2.1); rintro e w43 ⟨rfl, hb⟩; have n0_ := Aside0.mk (Kd.R_below (zR HO463.out) hb); have n1_ := Aside0.mk (Kd.R_below (zR HO466.out) hb); have n2_ := Aside0.mk (below_step (zB HB) hb); clear HO463; clear HO466; clear HB; have HO463 := n0_; have HO466 := n1_; have HB := n2_; clear n0_ n1_ n2_; (try clear hb); (try clear hb2); (try clear hk); (try clear hi)))
       repeat (go_quiet (first | (go_at_call 16; (with_reducible refine (tapearchivelaw34_normal.calls kj5 _ _ t461 false _ ?side1 ?side2 A17.out).mono ?_); (case side1 => exact zC (Kd.R_reads' HO463.out).2.2); (case side2 => exact (Kd.R_reads' HO463.out).2.1); rintro e w43 ⟨rfl, hb⟩; have n0_ := Aside0.mk (Kd.R_below (zR HO463.out) hb); have n1_ := Aside0.mk (Kd.R_below (zR HO466.out) hb); have n2_ := Aside0.mk (below_step (zB HB) hb); clear HO463; clear HO466; clear HB; have HO463 := n0_; have HO466 := n1_; have HB := n2_; clear n0_ n1_ n2_; (try clear hb); (try clear hb2); (try clear hk); (try clear hi))); try go_wp2_with (first | (go_at_call 16; (with_reducible refine (tapearchivelaw34_normal.calls kj5 _ _ t461 false _ ?side1 ?side2 A17.out).mono ?_); (case side1 => exact zC (Kd.R_reads' HO463.out).2.2); (case side2 => exact (Kd.R_reads' HO463.out).2.1); rintro e w43 ⟨rfl, hb⟩; have n0_ := Aside0.mk (Kd.R_below (zR HO463.out) hb); have n1_ := Aside0.mk (Kd.R_below (zR HO466.out) hb); have n2_ := Aside0.mk (below_step (zB HB) hb); clear HO463; clear HO466; clear HB; have HO463 := n0_; have HO466 := n1_; have HB := n2_; clear n0_ n1_ n2_; (try clear hb); (try clear hb2); (try clear hk); (try clear hi))))
       go_meet
       case rel => exact ⟨_, (true), zS, H', ⟨by have := HJ5.out; first | omega | exact Nat.le_refl _⟩, ⟨by (with_reducible repeat (first | apply Kd.R_alloc | apply Kd.R_drewN | apply Kd.R_drew)); exact Kd.R_mono HO463.out (fun _ hk => hk.2)⟩, ⟨by (with_reducible repeat (first | apply Kd.R_alloc | apply Kd.R_drewN | apply Kd.R_drew)); exact Kd.R_mono HO466.out (fun _ hk => hk.2)⟩, ⟨zB HB⟩⟩
     case rest =>
      clear HC14
      try clear c1
      try clear c2
      try clear p2
      try clear c5
      try clear p6
      try clear c9
      try clear c10
      try clear c10b0
      try clear c10b1
      try clear c11
      try clear c18
      try clear c20
      try clear c22
      try clear c22b0
      try clear c22b1
      try clear c22b2
      try clear p2
      obtain ⟨kq, x55_13, rfl, HA, HJ13, HO_8, HO_9, HB⟩ := hcut
      cases kq with
      | zero => exact absurd HA.out (by simp [tapearchivelaw34_ExtentContains.j1])
      | succ kj13 =>
       have H := HA.out
       clear HA
       simp only [tapearchivelaw34_ExtentContains.j1] at H
       by_cases c44 : x55_13 = true
       ·subst c44
        have H1 : (some false) = some r := by rw [if_pos rfl] at H; exact H
        clear H
        have H := H1
        clear H1
        exact absurd (Option.some.inj H) (by rw [ht_.out]; simp)
       ·replace c44 := Bool.eq_false_iff.mpr c44
        subst c44
        have H1 : (tapearchivelaw34_ExtentContains.l0 kj13 a2 (wrap64 (a1)) t461 t464 0) = some r := by rw [if_neg (show ¬ (false = true) by decide)] at H; exact H
        clear H
        have H := H1
        clear H1
        have H' := Aside0.mk H
        clear H
        go_wp2
        repeat (go_quiet (fail); try go_wp2)
        go_loopg [10] kj13 (fun kq v10 w' => ∃ (x10_3 : Int), v10 = .int .i64 x10_3 ∧ Aside0 (tapearchivelaw34_ExtentContains.l0 kq a2 (wrap64 (a1)) t461 t464 x10_3 = some r) ∧ Aside0 (kq ≤ kj13) ∧ Aside0 (Kd.R k30 30 w' w.heap.size (fun k_ => some k_ ≠ (v465 : Value).ownBlock) v462 t461) ∧ Aside0 (Kd.R k30 30 w' w.heap.size (fun k_ => some k_ ≠ (v462 : Value).ownBlock) v465 t464) ∧ Aside0 (Below w.heap.size w w'))
        case atStart => exact ⟨(0), zS, H', ⟨Nat.le_refl _⟩, ⟨zR HO_8.out⟩, ⟨zR HO_9.out⟩, ⟨zB HB⟩⟩
        case round =>
         clear H'
         try clear c1
         try clear c2
         try clear p2
         try clear c4
         try clear c5
         try clear p6
         try clear c9
         try clear c10
         try clear c10b0
         try clear c10b1
         try clear c11
         try clear c18
         try clear c20
         try clear c22
         try clear c22b0
         try clear c22b1
         try clear c22b2
         try clear c44
         try clear p2
         try clear p6
         obtain ⟨x10_3, rfl, HA, HK3, HO_8, HO_9, HB⟩ := hrel
         cases gk with
         | zero => exact absurd HA.out (by simp [tapearchivelaw34_ExtentContains.l0])
         | succ k3 =>
          have H := HA.out
          clear HA
          simp only [tapearchivelaw34_ExtentContains.l0] at H
          by_cases c45 : x10_3 < (t461.length : Int)
          ·rw [if_pos c45] at H
           have c45b0 : decide (x10_3 < (t461.length : Int)) = true := decide_eq_true c45
           clear c45
           by_cases c46 : 0 ≤ x10_3
           ·rw [if_pos c46] at H
            have c46b0 : decide (0 ≤ x10_3) = true := decide_eq_true c46
            clear c46
            have HC47 := Aside0.mk H
            clear H
            obtain ⟨Ao48, co48, eo48⟩ := Kd.R_slice HO_8.out
            subst eo48
            have p475 : 0 ≤ (x10_3 : Int) := of_decide_eq_true zA
            have q475 : x10_3 < (t461.length : Int) := of_decide_eq_true zA
            obtain ⟨ad475, e475, hx475_0, hx475_1⟩ := at_T30 (Kd.R_reads' HO_8.out).2.2 x10_3 p475 q475
            cases e475
            replace p475 := eq_true p475
            replace q475 := eq_true q475
            have p476 : 0 ≤ (x10_3 : Int) := of_decide_eq_true zA
            have q476 : x10_3 < (t461.length : Int) := of_decide_eq_true zA
            obtain ⟨ad476, e476, hx476_0, hx476_1⟩ := at_T30 (Kd.R_reads' HO_8.out).2.2 x10_3 p476 q476
            obtain rfl : ad475 = ad476 := (by injection e476)
            replace p476 := eq_true p476
            replace q476 := eq_true q476
            go_upto_region 13 with (fail)
            repeat (go_quiet (fail); go_upto_region 13 with (fail))
            go_cut [90] (fun v90 wc => ∃ (kq : Nat) (x90_46 : Bool), v90 = .bool x90_46 ∧ Aside0 (tapearchivelaw34_ExtentContains.j3 kq a2 (wrap64 (a1)) t461 t464 x10_3 x90_46 = some r) ∧ Aside0 (kq ≤ k3) ∧ Aside0 (Kd.R k30 30 wc w.heap.size (fun k_ => some k_ ≠ (v465 : Value).ownBlock) (.slice (some ad475) t461.length co48) t461) ∧ Aside0 (Kd.R k30 30 wc w.heap.size (fun k_ => some k_ ≠ ((.slice (some ad475) t461.length co48) : Value).ownBlock) v465 t464) ∧ Aside0 (Below w.heap.size w wc))
            case first =>
             have H := HC47.out
             clear HC47
             by_cases c49 : (wrap64 (a1)) = 0
             ·rw [if_pos c49] at H
              exact absurd H (by simp)
             ·rw [if_neg c49] at H
              have c49b0 : ((wrap64 (a1)) == 0) = false := beq_eq_false_iff_ne.mpr c49
              have c49b1 : ((wrap64 (a1)) != 0) = true := bne_iff_ne.mpr c49
              (first | rw [c49b0] | (simp only [i64_w, i32_w]; rw [c49b0]) | skip)
              by_cases c50 : (Int.tmod ((rd_T30 t461 x10_3).f0) (wrap64 (a1))) = 0
              ·rw [if_pos c50] at H
               have c50b0 : ((Int.tmod ((rd_T30 t461 x10_3).f0) (wrap64 (a1))) == 0) = true := beq_iff_eq.mpr c50
               have c50b1 : ((Int.tmod ((rd_T30 t461 x10_3).f0) (wrap64 (a1))) != 0) = false := bne_eq_false_iff_eq.mpr c50
               clear c50
               by_cases c51 : (Int.tmod (wrap64 (((rd_T30 t461 x10_3).f0) + ((rd_T30 t461 x10_3).f1))) (wrap64 (a1))) = 0
               ·rw [if_pos c51] at H
                have c51b0 : ((Int.tmod (wrap64 (((rd_T30 t461 x10_3).f0) + ((rd_T30 t461 x10_3).f1))) (wrap64 (a1))) == 0) = true := beq_iff_eq.mpr c51
                have c51b1 : ((Int.tmod (wrap64 (((rd_T30 t461 x10_3).f0) + ((rd_T30 t461 x10_3).f1))) (wrap64 (a1))) != 0) = false := bne_eq_false_iff_eq.mpr c51
                clear c51
                have H' := Aside0.mk H
                clear H
                have p477 : 0 ≤ (x10_3 : Int) := of_decide_eq_true zA
                have q477 : x10_3 < (t461.length : Int) := of_decide_eq_true zA
                obtain ⟨ad477, e477, hx477_0, hx477_1⟩ := at_T30 (Kd.R_reads' HO_8.out).2.2 x10_3 p477 q477
                obtain rfl : ad475 = ad477 := (by injection e477)
                replace p477 := eq_true p477
                replace q477 := eq_true q477
                go_wp2
                repeat (go_quiet (fail); try go_wp2)
                go_meet
                case rel => exact ⟨_, (false), zS, H', ⟨by have := HJ5.out; have := HJ13.out; have := HK3.out; first | omega | exact Nat.le_refl _⟩, ⟨zR HO_8.out⟩, ⟨zR HO_9.out⟩, ⟨zB HB⟩⟩
               ·rw [if_neg c51] at H
                have c51b0 : ((Int.tmod (wrap64 (((rd_T30 t461 x10_3).f0) + ((rd_T30 t461 x10_3).f1))) (wrap64 (a1))) == 0) = false := beq_eq_false_iff_ne.mpr c51
                have c51b1 : ((Int.tmod (wrap64 (((rd_T30 t461 x10_3).f0) + ((rd_T30 t461 x10_3).f1))) (wrap64 (a1))) != 0) = true := bne_iff_ne.mpr c51
                have H' := Aside0.mk H
                clear H
                have p477 : 0 ≤ (x10_3 : Int) := of_decide_eq_true zA
                have q477 : x10_3 < (t461.length : Int) := of_decide_eq_true zA
                obtain ⟨ad477, e477, hx477_0, hx477_1⟩ := at_T30 (Kd.R_reads' HO_8.out).2.2 x10_3 p477 q477
                obtain rfl : ad475 = ad477 := (by injection e477)
                replace p477 := eq_true p477
                replace q477 := eq_true q477
                go_wp2
                repeat (go_quiet (fail); try go_wp2)
                go_meet
                case rel => exact ⟨_, (((wrap64 (((rd_T30 t461 x10_3).f0) + ((rd_T30 t461 x10_3).f1))) != 1125899906842624)), zS, H', ⟨by have := HJ5.out; have := HJ13.out; have := HK3.out; first | omega | exact Nat.le_refl _⟩, ⟨zR HO_8.out⟩, ⟨zR HO_9.out⟩, ⟨zB HB⟩⟩
              ·rw [if_neg c50] at H
               have c50b0 : ((Int.tmod ((rd_T30 t461 x10_3).f0) (wrap64 (a1))) == 0) = false := beq_eq_false_iff_ne.mpr c50
               have c50b1 : ((Int.tmod ((rd_T30 t461 x10_3).f0) (wrap64 (a1))) != 0) = true := bne_iff_ne.mpr c50
               have H' := Aside0.mk H
               clear H
               have p477 : 0 ≤ (x10_3 : Int) := of_decide_eq_true zA
               have q477 : x10_3 < (t461.length : Int) := of_decide_eq_true zA
               obtain ⟨ad477, e477, hx477_0, hx477_1⟩ := at_T30 (Kd.R_reads' HO_8.out).2.2 x10_3 p477 q477
               obtain rfl : ad475 = ad477 := (by injection e477)
               replace p477 := eq_true p477
               replace q477 := eq_true q477
               go_wp2
               repeat (go_quiet (fail); try go_wp2)
               go_meet
               case rel => exact ⟨_, (true), zS, H', ⟨by have := HJ5.out; have := HJ13.out; have := HK3.out; first | omega | exact Nat.le_refl _⟩, ⟨zR HO_8.out⟩, ⟨zR HO_9.out⟩, ⟨zB HB⟩⟩
            case rest =>
             clear HC47
             try clear c1
             try clear c2
             try clear p2
             try clear c4
             try clear p4
             try clear q4
             try clear hx4
             try clear c5
             try clear p6
             try clear c9
             try clear c10
             try clear c10b0
             try clear c10b1
             try clear c11
             try clear c18
             try clear c20
             try clear c22
             try clear c22b0
             try clear c22b1
             try clear c22b2
             try clear c44
             try clear c45
             try clear c45b0
             try clear c46
             try clear c46b0
             try clear p47
             try clear q47
             try clear hx47
             try clear c49
             try clear c49b0
             try clear c49b1
             try clear c50
             try clear c50b0
             try clear c50b1
             try clear c51
             try clear c51b0
             try clear c51b1
             try clear hx475_0
             try clear hx475_1
             try clear hx476_0
             try clear hx476_1
             try clear hx477_0
             try clear hx477_1
             try clear p2
             try clear p475
             try clear p476
             try clear p477
             try clear p6
             try clear q475
             try clear q476
             try clear q477
             obtain ⟨kq, x90_46, rfl, HA, HJ46, HO_8, HO_9, HB⟩ := hcut
             cases kq with
             | zero => exact absurd HA.out (by simp [tapearchivelaw34_ExtentContains.j3])
             | succ kj46 =>
              have H := HA.out
              clear HA
              simp only [tapearchivelaw34_ExtentContains.j3] at H
              by_cases c52 : x90_46 = true
              ·subst c52
               have H1 : (some false) = some r := by rw [if_pos rfl] at H; exact H
               clear H
               have H := H1
               clear H1
               exact absurd (Option.some.inj H) (by rw [ht_.out]; simp)
              ·replace c52 := Bool.eq_false_iff.mpr c52
               subst c52
               have H1 : (tapearchivelaw34_ExtentContains.l0 kj46 a2 (wrap64 (a1)) t461 t464 (wrap64 (x10_3 + 1))) = some r := by rw [if_neg (show ¬ (false = true) by decide)] at H; exact H
               clear H
               have H := H1
               clear H1
               have H' := Aside0.mk H
               clear H
               go_wp2
               repeat (go_quiet (fail); try go_wp2)
               go_roundg kj46
               case measure => have := HJ5.out; have := HJ13.out; have := HK3.out; have := HJ46.out; omega
               case rel => exact ⟨(wrap64 (x10_3 + 1)), zS, H', ⟨by have := HJ5.out; have := HJ13.out; have := HK3.out; have := HJ46.out; omega⟩, ⟨zR HO_8.out⟩, ⟨zR HO_9.out⟩, ⟨zB HB⟩⟩
           ·rw [if_neg c46] at H
            exact absurd H (by simp)
          ·rw [if_neg c45] at H
           have c45b0 : decide (x10_3 < (t461.length : Int)) = false := decide_eq_false c45
           clear c45
           have H' := Aside0.mk H
           clear H
           obtain ⟨Ao53, co53, eo53⟩ := Kd.R_slice HO_8.out
           subst eo53
           go_wp2
           repeat (go_quiet (fail); try go_wp2)
           go_loopg [12] k3 (fun kq v12 w' => ∃ (x12_4 : Int), v12 = .int .i64 x12_4 ∧ Aside0 (tapearchivelaw34_ExtentContains.l1 kq a2 t464 x12_4 = some r) ∧ Aside0 (kq ≤ k3) ∧ Aside0 (Kd.R k30 30 w' w.heap.size (fun _ => True) v465 t464) ∧ Aside0 (Below w.heap.size w w'))
           case atStart => exact ⟨(1), zS, H', ⟨Nat.le_refl _⟩, ⟨by (with_reducible repeat (first | apply Kd.R_alloc | apply Kd.R_drewN | apply Kd.R_drew)); exact Kd.R_mono HO_9.out (fun _ hk => trivial)⟩, ⟨zB HB⟩⟩
           case round =>
            clear H'
            try clear c1
            try clear c2
            try clear p2
            try clear c4
            try clear p4
            try clear q4
            try clear hx4
            try clear c5
            try clear p6
            try clear c9
            try clear c10
            try clear c10b0
            try clear c10b1
            try clear c11
            try clear c18
            try clear c20
            try clear c22
            try clear c22b0
            try clear c22b1
            try clear c22b2
            try clear c44
            try clear c45
            try clear c45b0
            try clear c46
            try clear c46b0
            try clear p47
            try clear q47
            try clear hx47
            try clear c49
            try clear c49b0
            try clear c49b1
            try clear c50
            try clear c50b0
            try clear c50b1
            try clear c51
            try clear c51b0
            try clear c51b1
            try clear c52
            try clear hx475_0
            try clear hx475_1
            try clear hx476_0
            try clear hx476_1
            try clear hx477_0
            try clear hx477_1
            try clear p2
            try clear p4
            try clear p47
            try clear p475
            try clear p476
            try clear p477
            try clear p6
            try clear q4
            try clear q47
            try clear q475
            try clear q476
            try clear q477
            obtain ⟨x12_4, rfl, HA, HK4, HO_9, HB⟩ := hrel
            cases gk with
            | zero => exact absurd HA.out (by simp [tapearchivelaw34_ExtentContains.l1])
            | succ k4 =>
             have H := HA.out
             clear HA
             simp only [tapearchivelaw34_ExtentContains.l1] at H
             by_cases c54 : x12_4 < (t464.length : Int)
             ·rw [if_pos c54] at H
              have c54b0 : decide (x12_4 < (t464.length : Int)) = true := decide_eq_true c54
              clear c54
              by_cases c55 : 0 ≤ x12_4
              ·rw [if_pos c55] at H
               have c55b0 : decide (0 ≤ x12_4) = true := decide_eq_true c55
               clear c55
               obtain ⟨ji56, hji56⟩ : ∃ j_ : Int, (wrap64 (x12_4 - 1)) = j_ := ⟨_, rfl⟩
               replace H : (if 0 ≤ (ji56) then (if (ji56) < (t464.length : Int) then (if (wrap64 ((wrap64 (((rd_T30 t464 x12_4).f0) - ((rd_T30 t464 (ji56)).f0))) - ((rd_T30 t464 (ji56)).f1))) ≤ a2 then (some false) else (tapearchivelaw34_ExtentContains.l1 k4 a2 t464 (wrap64 (x12_4 + 1)))) else (none)) else (none)) = some r := by first | (rw [hji56] at H; exact H) | (simp only [hji56] at H ⊢; exact H)
               have hji56w : (IntKind.i64.wrap (x12_4 - 1)) = ji56 := (i64_w _).trans hji56
               by_cases c57 : 0 ≤ (ji56)
               ·rw [if_pos c57] at H
                have c57b0 : decide (0 ≤ (ji56)) = true := decide_eq_true c57
                clear c57
                by_cases c58 : (ji56) < (t464.length : Int)
                ·rw [if_pos c58] at H
                 have c58b0 : decide ((ji56) < (t464.length : Int)) = true := decide_eq_true c58
                 clear c58
                 by_cases c59 : (wrap64 ((wrap64 (((rd_T30 t464 x12_4).f0) - ((rd_T30 t464 (ji56)).f0))) - ((rd_T30 t464 (ji56)).f1))) ≤ a2
                 ·rw [if_pos c59] at H
                  have c59b0 : decide ((wrap64 ((wrap64 (((rd_T30 t464 x12_4).f0) - ((rd_T30 t464 (ji56)).f0))) - ((rd_T30 t464 (ji56)).f1))) ≤ a2) = true := decide_eq_true c59
                  clear c59
                  exact absurd (Option.some.inj H) (by rw [ht_.out]; simp)
                 ·rw [if_neg c59] at H
                  have c59b0 : decide ((wrap64 ((wrap64 (((rd_T30 t464 x12_4).f0) - ((rd_T30 t464 (ji56)).f0))) - ((rd_T30 t464 (ji56)).f1))) ≤ a2) = false := decide_eq_false c59
                  clear c59
                  have H' := Aside0.mk H
                  clear H
                  obtain ⟨Ao60, co60, eo60⟩ := Kd.R_slice HO_9.out
                  subst eo60
                  have p478 : 0 ≤ (x12_4 : Int) := of_decide_eq_true zA
                  have q478 : x12_4 < (t464.length : Int) := of_decide_eq_true zA
                  obtain ⟨ad478, e478, hx478_0, hx478_1⟩ := at_T30 (Kd.R_reads' HO_9.out).2.2 x12_4 p478 q478
                  cases e478
                  replace p478 := eq_true p478
                  replace q478 := eq_true q478
                  have p479 : 0 ≤ ((ji56) : Int) := of_decide_eq_true zA
                  have q479 : (ji56) < (t464.length : Int) := of_decide_eq_true zA
                  obtain ⟨ad479, e479, hx479_0, hx479_1⟩ := at_T30 (Kd.R_reads' HO_9.out).2.2 (ji56) p479 q479
                  obtain rfl : ad478 = ad479 := (by injection e479)
                  replace p479 := eq_true p479
                  replace q479 := eq_true q479
                  have p480 : 0 ≤ ((ji56) : Int) := of_decide_eq_true zA
                  have q480 : (ji56) < (t464.length : Int) := of_decide_eq_true zA
                  obtain ⟨ad480, e480, hx480_0, hx480_1⟩ := at_T30 (Kd.R_reads' HO_9.out).2.2 (ji56) p480 q480
                  obtain rfl : ad478 = ad480 := (by injection e480)
                  replace p480 := eq_true p480
                  replace q480 := eq_true q480
                  go_wp2
                  repeat (go_quiet (fail); try go_wp2)
                  go_roundg k4
                  case measure => have := HJ5.out; have := HJ13.out; have := HK3.out; have := HK4.out; omega
                  case rel => exact ⟨(wrap64 (x12_4 + 1)), zS, H', ⟨by have := HJ5.out; have := HJ13.out; have := HK3.out; have := HK4.out; omega⟩, ⟨zR HO_9.out⟩, ⟨zB HB⟩⟩
                ·rw [if_neg c58] at H
                 exact absurd H (by simp)
               ·rw [if_neg c57] at H
                exact absurd H (by simp)
              ·rw [if_neg c55] at H
               exact absurd H (by simp)
             ·rw [if_neg c54] at H
              have c54b0 : decide (x12_4 < (t464.length : Int)) = false := decide_eq_false c54
              clear c54
              obtain rfl := Option.some.inj H
              obtain ⟨Ao61, co61, eo61⟩ := Kd.R_slice HO_9.out
              subst eo61
              go_wp2
              repeat (go_quiet (fail); try go_wp2)
              go_ret
              exact ⟨by first | rfl | (simp [errW_none, errW_some] <;> rfl) | (simp [*, errW_none, errW_some] <;> rfl), by repeat (first | (with_reducible first | exact HB.out | apply below_alloc | apply pw_below_drewN | apply below_drew1) | exact HB.out)⟩
 ·replace c5 := Bool.eq_false_iff.mpr c5
  subst c5
  have H1 : (some false) = some r := by rw [if_neg (show ¬ (false = true) by decide)] at H; exact H
  clear H
  have H := H1
  clear H1
  exact absurd (Option.some.inj H) (by rw [ht_.out]; simp)

end
end Go.Proofs.Ytcckacamocaofaa.P
