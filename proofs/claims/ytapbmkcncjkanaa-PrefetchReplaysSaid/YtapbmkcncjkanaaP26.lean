-- Written by this session's wip/tools/px.py out of the translation. Lean checks it.
import Derived.Test.YtapbmkcncjkanaaP0
import Derived.Test.YtapbmkcncjkanaaP4
import Derived.Test.YtapbmkcncjkanaaP10
import Derived.Test.YtapbmkcncjkanaaP13
import Derived.Test.YtapbmkcncjkanaaP22
import Derived.Test.YtapbmkcncjkanaaP24
import Derived.Test.YtapbmkcncjkanaaP25
import Derived.Test.YtapbmkcncjkanaaAwake
namespace Go.Proofs.Ytapbmkcncjkanaa.P
noncomputable section
open Go.RowKit Go.Proofs.YtapbmkcncjkanaaW.PrintWords Go.Proofs.YtapbmkcncjkanaaW.PrintLast Go.Proofs.YtapbmkcncjkanaaW.PrintMore
attribute [local go_sem] max2_int min2_int max_two min_two max_three min_three max_four min_four   -- for this text's walks alone
set_option linter.unusedVariables false
set_option linter.unusedSimpArgs false

/-! ### w36_PrefetchReplays: function 6 -/
mutual
def w36_PrefetchReplays.j0 : Nat → List (S25) → Int → Int → Bool → Option (Bool)
 | 0, _, _, _, _ => none
 | k + 1, x0, x1, x2, x28 => if x28 = true then ((w36_awake_s.f).bind fun t537 => (some t537)) else ((prefetch_Replay.f k x0 x1 x2).bind fun t538 => ((r36_Replay.f k x0 x1 x2).bind fun t541 => ((r34_Same.f k t538 t541).bind fun t544 => (if t544 = true then (w36_PrefetchReplays.l0 k x0 x1 x2 t538 0) else (some false)))))
def w36_PrefetchReplays.l0 : Nat → List (S25) → Int → Int → List (S25) → Int → Option (Bool)
 | 0, _, _, _, _, _ => none
 | k + 1, x0, x1, x2, x7, x8 => if x8 < (x0.length : Int) then (if 0 ≤ x8 then ((r36_Valid.f k 0 0 0 0 ((rd_T25 x0 x8).f0) ((rd_T25 x0 x8).f1) x1 x2).bind fun t546 => (if t546 = true then ((r34_Covers.f k x7 ((rd_T25 x0 x8).f0) ((rd_T25 x0 x8).f1)).bind fun t548 => (w36_PrefetchReplays.j2 k x0 x1 x2 x7 x8 (!t548))) else (w36_PrefetchReplays.j2 k x0 x1 x2 x7 x8 false))) else (none)) else (w36_PrefetchReplays.l1 k x1 x7 0)
def w36_PrefetchReplays.j2 : Nat → List (S25) → Int → Int → List (S25) → Int → Bool → Option (Bool)
 | 0, _, _, _, _, _, _ => none
 | k + 1, x0, x1, x2, x7, x8, x63 => if x63 = true then (some false) else (w36_PrefetchReplays.l0 k x0 x1 x2 x7 (wrap64 (x8 + 1)))
def w36_PrefetchReplays.l1 : Nat → Int → List (S25) → Int → Option (Bool)
 | 0, _, _, _ => none
 | k + 1, x1, x7, x9 => if x9 < (x7.length : Int) then (if 0 ≤ x9 then (if (Int.tmod ((rd_T25 x7 x9).f0) 64) = 0 then (if ((rd_T25 x7 x9).f1) < 1 then (w36_PrefetchReplays.j4 k x1 x7 x9 true) else (if (wrap64 (((rd_T25 x7 x9).f0) + ((rd_T25 x7 x9).f1))) > x1 then (w36_PrefetchReplays.j4 k x1 x7 x9 true) else (if (Int.tmod ((rd_T25 x7 x9).f1) 64) = 0 then (w36_PrefetchReplays.j4 k x1 x7 x9 false) else (w36_PrefetchReplays.j4 k x1 x7 x9 ((wrap64 (((rd_T25 x7 x9).f0) + ((rd_T25 x7 x9).f1))) != x1))))) else (w36_PrefetchReplays.j4 k x1 x7 x9 true)) else (none)) else ((w36_awake_s.f).bind fun t549 => (some t549))
def w36_PrefetchReplays.j4 : Nat → Int → List (S25) → Int → Bool → Option (Bool)
 | 0, _, _, _, _ => none
 | k + 1, x1, x7, x9, x123 => if x123 = true then (some false) else (w36_PrefetchReplays.l1 k x1 x7 (wrap64 (x9 + 1)))
end
def w36_PrefetchReplays.f (k : Nat) (l0 : List (S25)) (a1 : Int) (a2 : Int) : Option (Bool) := (w36_few.f k l0).bind fun t536 => (if t536 = true then (if a1 < 0 then (w36_PrefetchReplays.j0 k l0 a1 a2 true) else (if a1 > 4096 then (w36_PrefetchReplays.j0 k l0 a1 a2 true) else (if a2 < 0 then (w36_PrefetchReplays.j0 k l0 a1 a2 true) else (w36_PrefetchReplays.j0 k l0 a1 a2 (decide (a2 > 64)))))) else (w36_PrefetchReplays.j0 k l0 a1 a2 true))
theorem w36_PrefetchReplays.mono_l : ∀ k, (∀ y0 y1 y2 y3, LeO (w36_PrefetchReplays.j0 k y0 y1 y2 y3) (w36_PrefetchReplays.j0 (k + 1) y0 y1 y2 y3)) ∧ (∀ y0 y1 y2 y3 y4, LeO (w36_PrefetchReplays.l0 k y0 y1 y2 y3 y4) (w36_PrefetchReplays.l0 (k + 1) y0 y1 y2 y3 y4)) ∧ (∀ y0 y1 y2 y3 y4 y5, LeO (w36_PrefetchReplays.j2 k y0 y1 y2 y3 y4 y5) (w36_PrefetchReplays.j2 (k + 1) y0 y1 y2 y3 y4 y5)) ∧ (∀ y0 y1 y2, LeO (w36_PrefetchReplays.l1 k y0 y1 y2) (w36_PrefetchReplays.l1 (k + 1) y0 y1 y2)) ∧ (∀ y0 y1 y2 y3, LeO (w36_PrefetchReplays.j4 k y0 y1 y2 y3) (w36_PrefetchReplays.j4 (k + 1) y0 y1 y2 y3))
 | 0 => ⟨fun _ _ _ _ r h => by simp [w36_PrefetchReplays.j0] at h, fun _ _ _ _ _ r h => by simp [w36_PrefetchReplays.l0] at h, fun _ _ _ _ _ _ r h => by simp [w36_PrefetchReplays.j2] at h, fun _ _ _ r h => by simp [w36_PrefetchReplays.l1] at h, fun _ _ _ _ r h => by simp [w36_PrefetchReplays.j4] at h⟩
 | k + 1 => by
  obtain ⟨ih0, ih1, ih2, ih3, ih4⟩ := w36_PrefetchReplays.mono_l k
  refine ⟨?_, ?_, ?_, ?_, ?_⟩
  ·intro y0 y1 y2 y3
   unfold w36_PrefetchReplays.j0
   repeat' first
   | (with_reducible exact ih0 _ _ _ _)
   | (with_reducible exact ih1 _ _ _ _ _)
   | (with_reducible exact ih2 _ _ _ _ _ _)
   | (with_reducible exact ih3 _ _ _)
   | (with_reducible exact ih4 _ _ _ _)
   | (with_reducible exact prefetch_Replay.mono _ _ _ _)
   | (with_reducible exact w36_few.mono _ _)
   | (with_reducible exact r34_Covers.mono _ _ _ _)
   | (with_reducible exact r34_Same.mono _ _ _)
   | (with_reducible exact r36_Replay.mono _ _ _ _)
   | (with_reducible exact r36_Valid.mono _ _ _ _ _ _ _ _ _)
   | (with_reducible exact LeO.refl _)
   | (with_reducible exact LeO.none _)
   | (with_reducible refine LeO.ite ?_ ?_)
   | (with_reducible refine LeO.bind ?_ (fun _ => ?_))
   | exact ih0 _ _ _ _
   | exact ih1 _ _ _ _ _
   | exact ih2 _ _ _ _ _ _
   | exact ih3 _ _ _
   | exact ih4 _ _ _ _
   | exact prefetch_Replay.mono _ _ _ _
   | exact w36_few.mono _ _
   | exact r34_Covers.mono _ _ _ _
   | exact r34_Same.mono _ _ _
   | exact r36_Replay.mono _ _ _ _
   | exact r36_Valid.mono _ _ _ _ _ _ _ _ _
   | exact LeO.none _
   | refine LeO.ite ?_ ?_
   | refine LeO.bind ?_ (fun _ => ?_)
  ·intro y0 y1 y2 y3 y4
   unfold w36_PrefetchReplays.l0
   repeat' first
   | (with_reducible exact ih0 _ _ _ _)
   | (with_reducible exact ih1 _ _ _ _ _)
   | (with_reducible exact ih2 _ _ _ _ _ _)
   | (with_reducible exact ih3 _ _ _)
   | (with_reducible exact ih4 _ _ _ _)
   | (with_reducible exact prefetch_Replay.mono _ _ _ _)
   | (with_reducible exact w36_few.mono _ _)
   | (with_reducible exact r34_Covers.mono _ _ _ _)
   | (with_reducible exact r34_Same.mono _ _ _)
   | (with_reducible exact r36_Replay.mono _ _ _ _)
   | (with_reducible exact r36_Valid.mono _ _ _ _ _ _ _ _ _)
   | (with_reducible exact LeO.refl _)
   | (with_reducible exact LeO.none _)
   | (with_reducible refine LeO.ite ?_ ?_)
   | (with_reducible refine LeO.bind ?_ (fun _ => ?_))
   | exact ih0 _ _ _ _
   | exact ih1 _ _ _ _ _
   | exact ih2 _ _ _ _ _ _
   | exact ih3 _ _ _
   | exact ih4 _ _ _ _
   | exact prefetch_Replay.mono _ _ _ _
   | exact w36_few.mono _ _
   | exact r34_Covers.mono _ _ _ _
   | exact r34_Same.mono _ _ _
   | exact r36_Replay.mono _ _ _ _
   | exact r36_Valid.mono _ _ _ _ _ _ _ _ _
   | exact LeO.none _
   | refine LeO.ite ?_ ?_
   | refine LeO.bind ?_ (fun _ => ?_)
  ·intro y0 y1 y2 y3 y4 y5
   unfold w36_PrefetchReplays.j2
   repeat' first
   | (with_reducible exact ih0 _ _ _ _)
   | (with_reducible exact ih1 _ _ _ _ _)
   | (with_reducible exact ih2 _ _ _ _ _ _)
   | (with_reducible exact ih3 _ _ _)
   | (with_reducible exact ih4 _ _ _ _)
   | (with_reducible exact prefetch_Replay.mono _ _ _ _)
   | (with_reducible exact w36_few.mono _ _)
   | (with_reducible exact r34_Covers.mono _ _ _ _)
   | (with_reducible exact r34_Same.mono _ _ _)
   | (with_reducible exact r36_Replay.mono _ _ _ _)
   | (with_reducible exact r36_Valid.mono _ _ _ _ _ _ _ _ _)
   | (with_reducible exact LeO.refl _)
   | (with_reducible exact LeO.none _)
   | (with_reducible refine LeO.ite ?_ ?_)
   | (with_reducible refine LeO.bind ?_ (fun _ => ?_))
   | exact ih0 _ _ _ _
   | exact ih1 _ _ _ _ _
   | exact ih2 _ _ _ _ _ _
   | exact ih3 _ _ _
   | exact ih4 _ _ _ _
   | exact prefetch_Replay.mono _ _ _ _
   | exact w36_few.mono _ _
   | exact r34_Covers.mono _ _ _ _
   | exact r34_Same.mono _ _ _
   | exact r36_Replay.mono _ _ _ _
   | exact r36_Valid.mono _ _ _ _ _ _ _ _ _
   | exact LeO.none _
   | refine LeO.ite ?_ ?_
   | refine LeO.bind ?_ (fun _ => ?_)
  ·intro y0 y1 y2
   unfold w36_PrefetchReplays.l1
   repeat' first
   | (with_reducible exact ih0 _ _ _ _)
   | (with_reducible exact ih1 _ _ _ _ _)
   | (with_reducible exact ih2 _ _ _ _ _ _)
   | (with_reducible exact ih3 _ _ _)
   | (with_reducible exact ih4 _ _ _ _)
   | (with_reducible exact prefetch_Replay.mono _ _ _ _)
   | (with_reducible exact w36_few.mono _ _)
   | (with_reducible exact r34_Covers.mono _ _ _ _)
   | (with_reducible exact r34_Same.mono _ _ _)
   | (with_reducible exact r36_Replay.mono _ _ _ _)
   | (with_reducible exact r36_Valid.mono _ _ _ _ _ _ _ _ _)
   | (with_reducible exact LeO.refl _)
   | (with_reducible exact LeO.none _)
   | (with_reducible refine LeO.ite ?_ ?_)
   | (with_reducible refine LeO.bind ?_ (fun _ => ?_))
   | exact ih0 _ _ _ _
   | exact ih1 _ _ _ _ _
   | exact ih2 _ _ _ _ _ _
   | exact ih3 _ _ _
   | exact ih4 _ _ _ _
   | exact prefetch_Replay.mono _ _ _ _
   | exact w36_few.mono _ _
   | exact r34_Covers.mono _ _ _ _
   | exact r34_Same.mono _ _ _
   | exact r36_Replay.mono _ _ _ _
   | exact r36_Valid.mono _ _ _ _ _ _ _ _ _
   | exact LeO.none _
   | refine LeO.ite ?_ ?_
   | refine LeO.bind ?_ (fun _ => ?_)
  ·intro y0 y1 y2 y3
   unfold w36_PrefetchReplays.j4
   repeat' first
   | (with_reducible exact ih0 _ _ _ _)
   | (with_reducible exact ih1 _ _ _ _ _)
   | (with_reducible exact ih2 _ _ _ _ _ _)
   | (with_reducible exact ih3 _ _ _)
   | (with_reducible exact ih4 _ _ _ _)
   | (with_reducible exact prefetch_Replay.mono _ _ _ _)
   | (with_reducible exact w36_few.mono _ _)
   | (with_reducible exact r34_Covers.mono _ _ _ _)
   | (with_reducible exact r34_Same.mono _ _ _)
   | (with_reducible exact r36_Replay.mono _ _ _ _)
   | (with_reducible exact r36_Valid.mono _ _ _ _ _ _ _ _ _)
   | (with_reducible exact LeO.refl _)
   | (with_reducible exact LeO.none _)
   | (with_reducible refine LeO.ite ?_ ?_)
   | (with_reducible refine LeO.bind ?_ (fun _ => ?_))
   | exact ih0 _ _ _ _
   | exact ih1 _ _ _ _ _
   | exact ih2 _ _ _ _ _ _
   | exact ih3 _ _ _
   | exact ih4 _ _ _ _
   | exact prefetch_Replay.mono _ _ _ _
   | exact w36_few.mono _ _
   | exact r34_Covers.mono _ _ _ _
   | exact r34_Same.mono _ _ _
   | exact r36_Replay.mono _ _ _ _
   | exact r36_Valid.mono _ _ _ _ _ _ _ _ _
   | exact LeO.none _
   | refine LeO.ite ?_ ?_
   | refine LeO.bind ?_ (fun _ => ?_)
theorem w36_PrefetchReplays.mono : ∀ a0 a1 a2 k, LeO (w36_PrefetchReplays.f k a0 a1 a2) (w36_PrefetchReplays.f (k + 1) a0 a1 a2) := by
 intro a0 a1 a2 k
 obtain ⟨ih0, ih1, ih2, ih3, ih4⟩ := w36_PrefetchReplays.mono_l k
 unfold w36_PrefetchReplays.f
 repeat' first
   | (with_reducible exact ih0 _ _ _ _)
   | (with_reducible exact ih1 _ _ _ _ _)
   | (with_reducible exact ih2 _ _ _ _ _ _)
   | (with_reducible exact ih3 _ _ _)
   | (with_reducible exact ih4 _ _ _ _)
   | (with_reducible exact prefetch_Replay.mono _ _ _ _)
   | (with_reducible exact w36_few.mono _ _)
   | (with_reducible exact r34_Covers.mono _ _ _ _)
   | (with_reducible exact r34_Same.mono _ _ _)
   | (with_reducible exact r36_Replay.mono _ _ _ _)
   | (with_reducible exact r36_Valid.mono _ _ _ _ _ _ _ _ _)
   | (with_reducible exact LeO.refl _)
   | (with_reducible exact LeO.none _)
   | (with_reducible refine LeO.ite ?_ ?_)
   | (with_reducible refine LeO.bind ?_ (fun _ => ?_))
   | exact ih0 _ _ _ _
   | exact ih1 _ _ _ _ _
   | exact ih2 _ _ _ _ _ _
   | exact ih3 _ _ _
   | exact ih4 _ _ _ _
   | exact prefetch_Replay.mono _ _ _ _
   | exact w36_few.mono _ _
   | exact r34_Covers.mono _ _ _ _
   | exact r34_Same.mono _ _ _
   | exact r36_Replay.mono _ _ _ _
   | exact r36_Valid.mono _ _ _ _ _ _ _ _ _
   | exact LeO.none _
   | refine LeO.ite ?_ ?_
   | refine LeO.bind ?_ (fun _ => ?_)
set_option maxHeartbeats 8000000 in
set_option maxRecDepth 100000 in
theorem w36_PrefetchReplays.calls (k : Nat) (A0 : Option Addr) (c0 : Nat) (l0 : List (S25)) (a1 : Int) (a2 : Int) (r : Bool) (w : World) (hr0 : Kd.C k25 w A0 l0.length l0) (hc0 : l0.length ≤ c0) (ht_ : Aside0 (r = true)) (h : w36_PrefetchReplays.f k l0 a1 a2 = some r) :
  Calls Try.prog 6 #[.slice A0 l0.length c0, .int .i64 a1, .int .i64 a2] w fun e w' => e = .returned (.bool r) ∧ Below w.heap.size w w' := by
 have hu23 := Try.underlying23
 have hu25 := Try.underlying25
 have HR0 := am hr0
 have HC0 := am hc0
 clear hr0 hc0
 have HB := am (Below.refl w.heap.size w)
 have H : ((w36_few.f k l0).bind fun t536 => (if t536 = true then (if a1 < 0 then (w36_PrefetchReplays.j0 k l0 a1 a2 true) else (if a1 > 4096 then (w36_PrefetchReplays.j0 k l0 a1 a2 true) else (if a2 < 0 then (w36_PrefetchReplays.j0 k l0 a1 a2 true) else (w36_PrefetchReplays.j0 k l0 a1 a2 (decide (a2 > 64)))))) else (w36_PrefetchReplays.j0 k l0 a1 a2 true))) = some r := h
 clear h
 have HC4 := am H
 clear H
 go_enter Try.func6, Try.ntmps6
 go_upto_region 1 with (fail)
 repeat (go_quiet (fail); go_upto_region 1 with (fail))
 go_cut [28] (fun v28 wc => ∃ (kq : Nat) (x28_3 : Bool), v28 = .bool x28_3 ∧ Aside0 (w36_PrefetchReplays.j0 kq l0 a1 a2 x28_3 = some r) ∧ Aside0 (kq ≤ k) ∧ Aside0 (Below w.heap.size w wc))
 case first =>
  have H := HC4.out
  clear HC4
  replace H := Option.bind_eq_some_iff.mp H
  obtain ⟨t536, A50, H⟩ := H
  replace H : (if t536 = true then (if a1 < 0 then (w36_PrefetchReplays.j0 k l0 a1 a2 true) else (if a1 > 4096 then (w36_PrefetchReplays.j0 k l0 a1 a2 true) else (if a2 < 0 then (w36_PrefetchReplays.j0 k l0 a1 a2 true) else (w36_PrefetchReplays.j0 k l0 a1 a2 (decide (a2 > 64)))))) else (w36_PrefetchReplays.j0 k l0 a1 a2 true)) = some r := H
  have A5 := am A50
  clear A50
  by_cases c6 : t536 = true
  ·subst c6
   have H1 : (if a1 < 0 then (w36_PrefetchReplays.j0 k l0 a1 a2 true) else (if a1 > 4096 then (w36_PrefetchReplays.j0 k l0 a1 a2 true) else (if a2 < 0 then (w36_PrefetchReplays.j0 k l0 a1 a2 true) else (w36_PrefetchReplays.j0 k l0 a1 a2 (decide (a2 > 64)))))) = some r := by rw [if_pos rfl] at H; exact H
   clear H
   have H := H1
   clear H1
   by_cases c7 : a1 < 0
   ·rw [if_pos c7] at H
    have c7b0 : decide (a1 < 0) = true := decide_eq_true c7
    clear c7
    (first | rw [c7b0] | (simp only [i64_w, i32_w]; rw [c7b0]) | skip)
    have H' := am H
    clear H
    go_wp2_with (first | (go_at_call 13; (with_reducible refine (w36_few.calls k _ _ l0 true _ ?side1 ?side2 A5.out).mono ?_); (case side1 => exact zC (Kd.C_below HR0.out HB.out)); (case side2 => exact HC0.out); rintro e w' ⟨rfl, ⟨nd, rfl⟩⟩; (try first | exact ⟨rfl, _, World.drewN_drewN _ _ _⟩ | exact ⟨rfl, _, Eq.trans (World.drewN_drewN _ _ _) (congrArg (World.drewN _) (Nat.add_assoc _ _ _))⟩)))
    repeat (go_quiet (first | (go_at_call 13; (with_reducible refine (w36_few.calls k _ _ l0 true _ ?side1 ?side2 A5.out).mono ?_); (case side1 => exact zC (Kd.C_below HR0.out HB.out)); (case side2 => exact HC0.out); rintro e w' ⟨rfl, ⟨nd, rfl⟩⟩; (try first | exact ⟨rfl, _, World.drewN_drewN _ _ _⟩ | exact ⟨rfl, _, Eq.trans (World.drewN_drewN _ _ _) (congrArg (World.drewN _) (Nat.add_assoc _ _ _))⟩))); try go_wp2_with (first | (go_at_call 13; (with_reducible refine (w36_few.calls k _ _ l0 true _ ?side1 ?side2 A5.out).mono ?_); (case side1 => exact zC (Kd.C_below HR0.out HB.out)); (case side2 => exact HC0.out); rintro e w' ⟨rfl, ⟨nd, rfl⟩⟩; (try first | exact ⟨rfl, _, World.drewN_drewN _ _ _⟩ | exact ⟨rfl, _, Eq.trans (World.drewN_drewN _ _ _) (congrArg (World.drewN _) (Nat.add_assoc _ _ _))⟩))))
    go_meet
    case rel => exact ⟨_, (true), zS, H', ⟨by first | omega | exact Nat.le_refl _⟩, ⟨zB HB⟩⟩
   ·rw [if_neg c7] at H
    have c7b0 : decide (a1 < 0) = false := decide_eq_false c7
    clear c7
    (first | rw [c7b0] | (simp only [i64_w, i32_w]; rw [c7b0]) | skip)
    by_cases c8 : a1 > 4096
    ·rw [if_pos c8] at H
     have c8b0 : decide (4096 < a1) = true := decide_eq_true c8
     clear c8
     have H' := am H
     clear H
     go_wp2_with (first | (go_at_call 13; (with_reducible refine (w36_few.calls k _ _ l0 true _ ?side1 ?side2 A5.out).mono ?_); (case side1 => exact zC (Kd.C_below HR0.out HB.out)); (case side2 => exact HC0.out); rintro e w' ⟨rfl, ⟨nd, rfl⟩⟩; (try first | exact ⟨rfl, _, World.drewN_drewN _ _ _⟩ | exact ⟨rfl, _, Eq.trans (World.drewN_drewN _ _ _) (congrArg (World.drewN _) (Nat.add_assoc _ _ _))⟩)))
     repeat (go_quiet (first | (go_at_call 13; (with_reducible refine (w36_few.calls k _ _ l0 true _ ?side1 ?side2 A5.out).mono ?_); (case side1 => exact zC (Kd.C_below HR0.out HB.out)); (case side2 => exact HC0.out); rintro e w' ⟨rfl, ⟨nd, rfl⟩⟩; (try first | exact ⟨rfl, _, World.drewN_drewN _ _ _⟩ | exact ⟨rfl, _, Eq.trans (World.drewN_drewN _ _ _) (congrArg (World.drewN _) (Nat.add_assoc _ _ _))⟩))); try go_wp2_with (first | (go_at_call 13; (with_reducible refine (w36_few.calls k _ _ l0 true _ ?side1 ?side2 A5.out).mono ?_); (case side1 => exact zC (Kd.C_below HR0.out HB.out)); (case side2 => exact HC0.out); rintro e w' ⟨rfl, ⟨nd, rfl⟩⟩; (try first | exact ⟨rfl, _, World.drewN_drewN _ _ _⟩ | exact ⟨rfl, _, Eq.trans (World.drewN_drewN _ _ _) (congrArg (World.drewN _) (Nat.add_assoc _ _ _))⟩))))
     go_meet
     case rel => exact ⟨_, (true), zS, H', ⟨by first | omega | exact Nat.le_refl _⟩, ⟨zB HB⟩⟩
    ·rw [if_neg c8] at H
     have c8b0 : decide (4096 < a1) = false := decide_eq_false c8
     clear c8
     by_cases c9 : a2 < 0
     ·rw [if_pos c9] at H
      have c9b0 : decide (a2 < 0) = true := decide_eq_true c9
      clear c9
      have H' := am H
      clear H
      go_wp2_with (first | (go_at_call 13; (with_reducible refine (w36_few.calls k _ _ l0 true _ ?side1 ?side2 A5.out).mono ?_); (case side1 => exact zC (Kd.C_below HR0.out HB.out)); (case side2 => exact HC0.out); rintro e w' ⟨rfl, ⟨nd, rfl⟩⟩; (try first | exact ⟨rfl, _, World.drewN_drewN _ _ _⟩ | exact ⟨rfl, _, Eq.trans (World.drewN_drewN _ _ _) (congrArg (World.drewN _) (Nat.add_assoc _ _ _))⟩)))
      repeat (go_quiet (first | (go_at_call 13; (with_reducible refine (w36_few.calls k _ _ l0 true _ ?side1 ?side2 A5.out).mono ?_); (case side1 => exact zC (Kd.C_below HR0.out HB.out)); (case side2 => exact HC0.out); rintro e w' ⟨rfl, ⟨nd, rfl⟩⟩; (try first | exact ⟨rfl, _, World.drewN_drewN _ _ _⟩ | exact ⟨rfl, _, Eq.trans (World.drewN_drewN _ _ _) (congrArg (World.drewN _) (Nat.add_assoc _ _ _))⟩))); try go_wp2_with (first | (go_at_call 13; (with_reducible refine (w36_few.calls k _ _ l0 true _ ?side1 ?side2 A5.out).mono ?_); (case side1 => exact zC (Kd.C_below HR0.out HB.out)); (case side2 => exact HC0.out); rintro e w' ⟨rfl, ⟨nd, rfl⟩⟩; (try first | exact ⟨rfl, _, World.drewN_drewN _ _ _⟩ | exact ⟨rfl, _, Eq.trans (World.drewN_drewN _ _ _) (congrArg (World.drewN _) (Nat.add_assoc _ _ _))⟩))))
      go_meet
      case rel => exact ⟨_, (true), zS, H', ⟨by first | omega | exact Nat.le_refl _⟩, ⟨zB HB⟩⟩
     ·rw [if_neg c9] at H
      have c9b0 : decide (a2 < 0) = false := decide_eq_false c9
      clear c9
      have H' := am H
      clear H
      go_wp2_with (first | (go_at_call 13; (with_reducible refine (w36_few.calls k _ _ l0 true _ ?side1 ?side2 A5.out).mono ?_); (case side1 => exact zC (Kd.C_below HR0.out HB.out)); (case side2 => exact HC0.out); rintro e w' ⟨rfl, ⟨nd, rfl⟩⟩; (try first | exact ⟨rfl, _, World.drewN_drewN _ _ _⟩ | exact ⟨rfl, _, Eq.trans (World.drewN_drewN _ _ _) (congrArg (World.drewN _) (Nat.add_assoc _ _ _))⟩)))
      repeat (go_quiet (first | (go_at_call 13; (with_reducible refine (w36_few.calls k _ _ l0 true _ ?side1 ?side2 A5.out).mono ?_); (case side1 => exact zC (Kd.C_below HR0.out HB.out)); (case side2 => exact HC0.out); rintro e w' ⟨rfl, ⟨nd, rfl⟩⟩; (try first | exact ⟨rfl, _, World.drewN_drewN _ _ _⟩ | exact ⟨rfl, _, Eq.trans (World.drewN_drewN _ _ _) (congrArg (World.drewN _) (Nat.add_assoc _ _ _))⟩))); try go_wp2_with (first | (go_at_call 13; (with_reducible refine (w36_few.calls k _ _ l0 true _ ?side1 ?side2 A5.out).mono ?_); (case side1 => exact zC (Kd.C_below HR0.out HB.out)); (case side2 => exact HC0.out); rintro e w' ⟨rfl, ⟨nd, rfl⟩⟩; (try first | exact ⟨rfl, _, World.drewN_drewN _ _ _⟩ | exact ⟨rfl, _, Eq.trans (World.drewN_drewN _ _ _) (congrArg (World.drewN _) (Nat.add_assoc _ _ _))⟩))))
      go_meet
      case rel => exact ⟨_, (decide (a2 > 64)), zS, H', ⟨by first | omega | exact Nat.le_refl _⟩, ⟨zB HB⟩⟩
  ·replace c6 := Bool.eq_false_iff.mpr c6
   subst c6
   have H1 : (w36_PrefetchReplays.j0 k l0 a1 a2 true) = some r := by rw [if_neg (show ¬ (false = true) by decide)] at H; exact H
   clear H
   have H := H1
   clear H1
   have H' := am H
   clear H
   go_wp2_with (first | (go_at_call 13; (with_reducible refine (w36_few.calls k _ _ l0 false _ ?side1 ?side2 A5.out).mono ?_); (case side1 => exact zC (Kd.C_below HR0.out HB.out)); (case side2 => exact HC0.out); rintro e w' ⟨rfl, ⟨nd, rfl⟩⟩; (try first | exact ⟨rfl, _, World.drewN_drewN _ _ _⟩ | exact ⟨rfl, _, Eq.trans (World.drewN_drewN _ _ _) (congrArg (World.drewN _) (Nat.add_assoc _ _ _))⟩)))
   repeat (go_quiet (first | (go_at_call 13; (with_reducible refine (w36_few.calls k _ _ l0 false _ ?side1 ?side2 A5.out).mono ?_); (case side1 => exact zC (Kd.C_below HR0.out HB.out)); (case side2 => exact HC0.out); rintro e w' ⟨rfl, ⟨nd, rfl⟩⟩; (try first | exact ⟨rfl, _, World.drewN_drewN _ _ _⟩ | exact ⟨rfl, _, Eq.trans (World.drewN_drewN _ _ _) (congrArg (World.drewN _) (Nat.add_assoc _ _ _))⟩))); try go_wp2_with (first | (go_at_call 13; (with_reducible refine (w36_few.calls k _ _ l0 false _ ?side1 ?side2 A5.out).mono ?_); (case side1 => exact zC (Kd.C_below HR0.out HB.out)); (case side2 => exact HC0.out); rintro e w' ⟨rfl, ⟨nd, rfl⟩⟩; (try first | exact ⟨rfl, _, World.drewN_drewN _ _ _⟩ | exact ⟨rfl, _, Eq.trans (World.drewN_drewN _ _ _) (congrArg (World.drewN _) (Nat.add_assoc _ _ _))⟩))))
   go_meet
   case rel => exact ⟨_, (true), zS, H', ⟨by first | omega | exact Nat.le_refl _⟩, ⟨zB HB⟩⟩
 case rest =>
  clear HC4
  try clear p2
  try clear c6
  try clear c7
  try clear c7b0
  try clear c8
  try clear c8b0
  try clear c9
  try clear c9b0
  obtain ⟨kq, x28_3, rfl, HA, HJ3, HB⟩ := hcut
  cases kq with
  | zero => exact absurd HA.out (by simp [w36_PrefetchReplays.j0])
  | succ kj3 =>
   have H := HA.out
   clear HA
   simp only [w36_PrefetchReplays.j0] at H
   by_cases c10 : x28_3 = true
   ·subst c10
    have H1 : ((w36_awake_s.f).bind fun t537 => (some t537)) = some r := by rw [if_pos rfl] at H; exact H
    clear H
    have H := H1
    clear H1
    replace H := Option.bind_eq_some_iff.mp H
    obtain ⟨t537, A110, H⟩ := H
    replace H : (some t537) = some r := H
    have A11 := am A110
    clear A110
    obtain rfl := Option.some.inj H
    go_wp2_with (first | (go_at_call 12; (with_reducible refine (w36_awake_s.calls  t537 _ A11.out).mono ?_); rintro e w12 ⟨rfl, hb⟩; have n0_ := am (below_step (zB HB) hb); clear HB; have HB := n0_; clear n0_; (try clear hb); (try clear hb2); (try clear hk); (try clear hi)))
    repeat (go_quiet (first | (go_at_call 12; (with_reducible refine (w36_awake_s.calls  t537 _ A11.out).mono ?_); rintro e w12 ⟨rfl, hb⟩; have n0_ := am (below_step (zB HB) hb); clear HB; have HB := n0_; clear n0_; (try clear hb); (try clear hb2); (try clear hk); (try clear hi))); try go_wp2_with (first | (go_at_call 12; (with_reducible refine (w36_awake_s.calls  t537 _ A11.out).mono ?_); rintro e w12 ⟨rfl, hb⟩; have n0_ := am (below_step (zB HB) hb); clear HB; have HB := n0_; clear n0_; (try clear hb); (try clear hb2); (try clear hk); (try clear hi))))
    go_ret
    exact ⟨by first | rfl | (simp [errW_none, errW_some] <;> rfl) | (simp [*, errW_none, errW_some] <;> rfl), by repeat (first | (with_reducible first | exact HB.out | apply below_alloc | apply pw_below_drewN | apply below_drew1) | exact HB.out)⟩
   ·replace c10 := Bool.eq_false_iff.mpr c10
    subst c10
    have H1 : ((prefetch_Replay.f kj3 l0 a1 a2).bind fun t538 => ((r36_Replay.f kj3 l0 a1 a2).bind fun t541 => ((r34_Same.f kj3 t538 t541).bind fun t544 => (if t544 = true then (w36_PrefetchReplays.l0 kj3 l0 a1 a2 t538 0) else (some false))))) = some r := by rw [if_neg (show ¬ (false = true) by decide)] at H; exact H
    clear H
    have H := H1
    clear H1
    replace H := Option.bind_eq_some_iff.mp H
    obtain ⟨t538, A130, H⟩ := H
    replace H : ((r36_Replay.f kj3 l0 a1 a2).bind fun t541 => ((r34_Same.f kj3 t538 t541).bind fun t544 => (if t544 = true then (w36_PrefetchReplays.l0 kj3 l0 a1 a2 t538 0) else (some false)))) = some r := H
    have A13 := am A130
    clear A130
    replace H := Option.bind_eq_some_iff.mp H
    obtain ⟨t541, A140, H⟩ := H
    replace H : ((r34_Same.f kj3 t538 t541).bind fun t544 => (if t544 = true then (w36_PrefetchReplays.l0 kj3 l0 a1 a2 t538 0) else (some false))) = some r := H
    have A14 := am A140
    clear A140
    replace H := Option.bind_eq_some_iff.mp H
    obtain ⟨t544, A150, H⟩ := H
    replace H : (if t544 = true then (w36_PrefetchReplays.l0 kj3 l0 a1 a2 t538 0) else (some false)) = some r := H
    have A15 := am A150
    clear A150
    by_cases c16 : t544 = true
    ·subst c16
     have H1 : (w36_PrefetchReplays.l0 kj3 l0 a1 a2 t538 0) = some r := by rw [if_pos rfl] at H; exact H
     clear H
     have H := H1
     clear H1
     have H' := am H
     clear H
     go_wp2_with (first | (go_at_call 19; (with_reducible refine (prefetch_Replay.calls kj3 _ _ l0 a1 a2 t538 _ ?side1 ?side2 A13.out).mono ?_); (case side1 => exact zC (Kd.C_below HR0.out HB.out)); (case side2 => exact HC0.out); rintro e w17 ⟨v539, rfl, ho0, hb⟩; have n0_ := am (Kd.R_lower ho0 (below_size (zB HB))); have n1_ := am (below_step (zB HB) hb); clear HB; have HO540 := n0_; have HB := n1_; clear n0_ n1_; (try clear hb); (try clear hb2); (try clear hk); (try clear hi); (try clear ho0)) | (go_at_call 20; (with_reducible refine (r36_Replay.calls kj3 _ _ l0 a1 a2 t541 _ ?side1 ?side2 A14.out).mono ?_); (case side1 => exact zC (Kd.C_below HR0.out HB.out)); (case side2 => exact HC0.out); rintro e w18 ⟨v542, rfl, ho0, hb⟩; have n0_ := am (Kd.R_elder' (zR HO540.out) (Kd.R_base ho0) hb); have n1_ := am (Kd.R_lower (Kd.R_new' ho0 (Kd.R_lt (zR HO540.out))) (below_size (zB HB))); have n2_ := am (below_step (zB HB) hb); clear HO540; clear HB; have HO540 := n0_; have HO543 := n1_; have HB := n2_; clear n0_ n1_ n2_; (try clear hb); (try clear hb2); (try clear hk); (try clear hi); (try clear ho0); obtain ⟨Ao19, co19, eo19⟩ := Kd.R_slice HO540.out; subst eo19; obtain ⟨Ao20, co20, eo20⟩ := Kd.R_slice HO543.out; subst eo20) | (go_at_call 16; (with_reducible refine (r34_Same.calls kj3 _ _ t538 _ _ t541 true _ ?side1 ?side2 ?side3 ?side4 A15.out).mono ?_); (case side1 => exact zC (Kd.R_reads' HO540.out).2.2); (case side2 => exact (Kd.R_reads' HO540.out).2.1); (case side3 => exact zC (Kd.R_reads' HO543.out).2.2); (case side4 => exact (Kd.R_reads' HO543.out).2.1); rintro e w' ⟨rfl, ⟨nd, rfl⟩⟩; (try first | exact ⟨rfl, _, World.drewN_drewN _ _ _⟩ | exact ⟨rfl, _, Eq.trans (World.drewN_drewN _ _ _) (congrArg (World.drewN _) (Nat.add_assoc _ _ _))⟩)))
     repeat (go_quiet (first | (go_at_call 19; (with_reducible refine (prefetch_Replay.calls kj3 _ _ l0 a1 a2 t538 _ ?side1 ?side2 A13.out).mono ?_); (case side1 => exact zC (Kd.C_below HR0.out HB.out)); (case side2 => exact HC0.out); rintro e w17 ⟨v539, rfl, ho0, hb⟩; have n0_ := am (Kd.R_lower ho0 (below_size (zB HB))); have n1_ := am (below_step (zB HB) hb); clear HB; have HO540 := n0_; have HB := n1_; clear n0_ n1_; (try clear hb); (try clear hb2); (try clear hk); (try clear hi); (try clear ho0)) | (go_at_call 20; (with_reducible refine (r36_Replay.calls kj3 _ _ l0 a1 a2 t541 _ ?side1 ?side2 A14.out).mono ?_); (case side1 => exact zC (Kd.C_below HR0.out HB.out)); (case side2 => exact HC0.out); rintro e w18 ⟨v542, rfl, ho0, hb⟩; have n0_ := am (Kd.R_elder' (zR HO540.out) (Kd.R_base ho0) hb); have n1_ := am (Kd.R_lower (Kd.R_new' ho0 (Kd.R_lt (zR HO540.out))) (below_size (zB HB))); have n2_ := am (below_step (zB HB) hb); clear HO540; clear HB; have HO540 := n0_; have HO543 := n1_; have HB := n2_; clear n0_ n1_ n2_; (try clear hb); (try clear hb2); (try clear hk); (try clear hi); (try clear ho0); obtain ⟨Ao19, co19, eo19⟩ := Kd.R_slice HO540.out; subst eo19; obtain ⟨Ao20, co20, eo20⟩ := Kd.R_slice HO543.out; subst eo20) | (go_at_call 16; (with_reducible refine (r34_Same.calls kj3 _ _ t538 _ _ t541 true _ ?side1 ?side2 ?side3 ?side4 A15.out).mono ?_); (case side1 => exact zC (Kd.R_reads' HO540.out).2.2); (case side2 => exact (Kd.R_reads' HO540.out).2.1); (case side3 => exact zC (Kd.R_reads' HO543.out).2.2); (case side4 => exact (Kd.R_reads' HO543.out).2.1); rintro e w' ⟨rfl, ⟨nd, rfl⟩⟩; (try first | exact ⟨rfl, _, World.drewN_drewN _ _ _⟩ | exact ⟨rfl, _, Eq.trans (World.drewN_drewN _ _ _) (congrArg (World.drewN _) (Nat.add_assoc _ _ _))⟩))); try go_wp2_with (first | (go_at_call 19; (with_reducible refine (prefetch_Replay.calls kj3 _ _ l0 a1 a2 t538 _ ?side1 ?side2 A13.out).mono ?_); (case side1 => exact zC (Kd.C_below HR0.out HB.out)); (case side2 => exact HC0.out); rintro e w17 ⟨v539, rfl, ho0, hb⟩; have n0_ := am (Kd.R_lower ho0 (below_size (zB HB))); have n1_ := am (below_step (zB HB) hb); clear HB; have HO540 := n0_; have HB := n1_; clear n0_ n1_; (try clear hb); (try clear hb2); (try clear hk); (try clear hi); (try clear ho0)) | (go_at_call 20; (with_reducible refine (r36_Replay.calls kj3 _ _ l0 a1 a2 t541 _ ?side1 ?side2 A14.out).mono ?_); (case side1 => exact zC (Kd.C_below HR0.out HB.out)); (case side2 => exact HC0.out); rintro e w18 ⟨v542, rfl, ho0, hb⟩; have n0_ := am (Kd.R_elder' (zR HO540.out) (Kd.R_base ho0) hb); have n1_ := am (Kd.R_lower (Kd.R_new' ho0 (Kd.R_lt (zR HO540.out))) (below_size (zB HB))); have n2_ := am (below_step (zB HB) hb); clear HO540; clear HB; have HO540 := n0_; have HO543 := n1_; have HB := n2_; clear n0_ n1_ n2_; (try clear hb); (try clear hb2); (try clear hk); (try clear hi); (try clear ho0); obtain ⟨Ao19, co19, eo19⟩ := Kd.R_slice HO540.out; subst eo19; obtain ⟨Ao20, co20, eo20⟩ := Kd.R_slice HO543.out; subst eo20) | (go_at_call 16; (with_reducible refine (r34_Same.calls kj3 _ _ t538 _ _ t541 true _ ?side1 ?side2 ?side3 ?side4 A15.out).mono ?_); (case side1 => exact zC (Kd.R_reads' HO540.out).2.2); (case side2 => exact (Kd.R_reads' HO540.out).2.1); (case side3 => exact zC (Kd.R_reads' HO543.out).2.2); (case side4 => exact (Kd.R_reads' HO543.out).2.1); rintro e w' ⟨rfl, ⟨nd, rfl⟩⟩; (try first | exact ⟨rfl, _, World.drewN_drewN _ _ _⟩ | exact ⟨rfl, _, Eq.trans (World.drewN_drewN _ _ _) (congrArg (World.drewN _) (Nat.add_assoc _ _ _))⟩))))
     go_loopg [8] kj3 (fun kq v8 w' => ∃ (x8_2 : Int), v8 = .int .i64 x8_2 ∧ Aside0 (w36_PrefetchReplays.l0 kq l0 a1 a2 t538 x8_2 = some r) ∧ Aside0 (kq ≤ kj3) ∧ Aside0 (Kd.R k25 25 w' w.heap.size (fun _ => True) (.slice Ao19 t538.length co19) t538) ∧ Aside0 (Below w.heap.size w w'))
     case atStart => exact ⟨(0), zS, H', ⟨Nat.le_refl _⟩, ⟨by refine zR ?_; exact Kd.R_mono HO540.out (fun _ hk => trivial)⟩, ⟨zB HB⟩⟩
     case round =>
      clear H'
      try clear c1
      try clear p2
      try clear c6
      try clear c7
      try clear c7b0
      try clear c8
      try clear c8b0
      try clear c9
      try clear c9b0
      try clear c10
      try clear c16
      try clear p2
      obtain ⟨x8_2, rfl, HA, HK2, HO_7, HB⟩ := hrel
      cases gk with
      | zero => exact absurd HA.out (by simp [w36_PrefetchReplays.l0])
      | succ k2 =>
       have H := HA.out
       clear HA
       simp only [w36_PrefetchReplays.l0] at H
       by_cases c21 : x8_2 < (l0.length : Int)
       ·rw [if_pos c21] at H
        have c21b0 : decide (x8_2 < (l0.length : Int)) = true := decide_eq_true c21
        clear c21
        have HC22 := am H
        clear H
        go_upto_region 9 with (fail)
        repeat (go_quiet (fail); go_upto_region 9 with (fail))
        go_cut [63] (fun v63 wc => ∃ (kq : Nat) (x63_21 : Bool), v63 = .bool x63_21 ∧ Aside0 (w36_PrefetchReplays.j2 kq l0 a1 a2 t538 x8_2 x63_21 = some r) ∧ Aside0 (kq ≤ k2) ∧ Aside0 (Kd.R k25 25 wc w.heap.size (fun _ => True) (.slice Ao19 t538.length co19) t538) ∧ Aside0 (Below w.heap.size w wc))
        case first =>
         have H := HC22.out
         clear HC22
         by_cases c23 : 0 ≤ x8_2
         ·rw [if_pos c23] at H
          have c23b0 : decide (0 ≤ x8_2) = true := decide_eq_true c23
          clear c23
          (first | rw [c23b0] | (simp only [i64_w, i32_w]; rw [c23b0]) | skip)
          replace H := Option.bind_eq_some_iff.mp H
          obtain ⟨t546, A240, H⟩ := H
          replace H : (if t546 = true then ((r34_Covers.f k2 t538 ((rd_T25 l0 x8_2).f0) ((rd_T25 l0 x8_2).f1)).bind fun t548 => (w36_PrefetchReplays.j2 k2 l0 a1 a2 t538 x8_2 (!t548))) else (w36_PrefetchReplays.j2 k2 l0 a1 a2 t538 x8_2 false)) = some r := H
          have A24 := am A240
          clear A240
          by_cases c25 : t546 = true
          ·subst c25
           have H1 : ((r34_Covers.f k2 t538 ((rd_T25 l0 x8_2).f0) ((rd_T25 l0 x8_2).f1)).bind fun t548 => (w36_PrefetchReplays.j2 k2 l0 a1 a2 t538 x8_2 (!t548))) = some r := by rw [if_pos rfl] at H; exact H
           clear H
           have H := H1
           clear H1
           replace H := Option.bind_eq_some_iff.mp H
           obtain ⟨t548, A260, H⟩ := H
           replace H : (w36_PrefetchReplays.j2 k2 l0 a1 a2 t538 x8_2 (!t548)) = some r := H
           have A26 := am A260
           clear A260
           have H' := am H
           clear H
           have p545 : 0 ≤ (x8_2 : Int) := of_decide_eq_true zA
           have q545 : x8_2 < (l0.length : Int) := of_decide_eq_true zA
           obtain ⟨ad545, e545, hx545_0, hx545_1⟩ := at_T25 HR0.out x8_2 p545 q545
           cases e545
           replace hx545_0 := (HB.out.cell (World.block_lt_of_cell? w _ hx545_0)).trans hx545_0
           replace hx545_1 := (HB.out.cell (World.block_lt_of_cell? w _ hx545_1)).trans hx545_1
           replace p545 := eq_true p545
           replace q545 := eq_true q545
           go_wp2_with (first | (go_at_call 21; (with_reducible refine (r36_Valid.calls k2 0 0 0 0 ((rd_T25 l0 x8_2).f0) ((rd_T25 l0 x8_2).f1) a1 a2 true _ A24.out).mono ?_); rintro e w27 ⟨rfl, hb⟩; have n0_ := am (Kd.R_below (zR HO_7.out) hb); have n1_ := am (below_step (zB HB) hb); clear HO_7; clear HB; have HO_7 := n0_; have HB := n1_; clear n0_ n1_; (try clear hb); (try clear hb2); (try clear hk); (try clear hi); have p547 : 0 ≤ (x8_2 : Int) := of_decide_eq_true zA; have q547 : x8_2 < (l0.length : Int) := of_decide_eq_true zA; obtain ⟨ad547, e547, hx547_0, hx547_1⟩ := at_T25 HR0.out x8_2 p547 q547; obtain rfl : ad545 = ad547 := (by injection e547); replace hx547_0 := (HB.out.cell (World.block_lt_of_cell? w _ hx547_0)).trans hx547_0; replace hx547_1 := (HB.out.cell (World.block_lt_of_cell? w _ hx547_1)).trans hx547_1; replace p547 := eq_true p547; replace q547 := eq_true q547) | (go_at_call 22; (with_reducible refine (r34_Covers.calls k2 _ _ t538 ((rd_T25 l0 x8_2).f0) ((rd_T25 l0 x8_2).f1) t548 _ ?side1 ?side2 A26.out).mono ?_); (case side1 => exact zC (Kd.R_reads' HO_7.out).2.2); (case side2 => exact (Kd.R_reads' HO_7.out).2.1); rintro e w28 ⟨rfl, hb⟩; have n0_ := am (Kd.R_below (zR HO_7.out) hb); have n1_ := am (below_step (zB HB) hb); clear HO_7; clear HB; have HO_7 := n0_; have HB := n1_; clear n0_ n1_; (try clear hb); (try clear hb2); (try clear hk); (try clear hi)))
           repeat (go_quiet (first | (go_at_call 21; (with_reducible refine (r36_Valid.calls k2 0 0 0 0 ((rd_T25 l0 x8_2).f0) ((rd_T25 l0 x8_2).f1) a1 a2 true _ A24.out).mono ?_); rintro e w27 ⟨rfl, hb⟩; have n0_ := am (Kd.R_below (zR HO_7.out) hb); have n1_ := am (below_step (zB HB) hb); clear HO_7; clear HB; have HO_7 := n0_; have HB := n1_; clear n0_ n1_; (try clear hb); (try clear hb2); (try clear hk); (try clear hi); have p547 : 0 ≤ (x8_2 : Int) := of_decide_eq_true zA; have q547 : x8_2 < (l0.length : Int) := of_decide_eq_true zA; obtain ⟨ad547, e547, hx547_0, hx547_1⟩ := at_T25 HR0.out x8_2 p547 q547; obtain rfl : ad545 = ad547 := (by injection e547); replace hx547_0 := (HB.out.cell (World.block_lt_of_cell? w _ hx547_0)).trans hx547_0; replace hx547_1 := (HB.out.cell (World.block_lt_of_cell? w _ hx547_1)).trans hx547_1; replace p547 := eq_true p547; replace q547 := eq_true q547) | (go_at_call 22; (with_reducible refine (r34_Covers.calls k2 _ _ t538 ((rd_T25 l0 x8_2).f0) ((rd_T25 l0 x8_2).f1) t548 _ ?side1 ?side2 A26.out).mono ?_); (case side1 => exact zC (Kd.R_reads' HO_7.out).2.2); (case side2 => exact (Kd.R_reads' HO_7.out).2.1); rintro e w28 ⟨rfl, hb⟩; have n0_ := am (Kd.R_below (zR HO_7.out) hb); have n1_ := am (below_step (zB HB) hb); clear HO_7; clear HB; have HO_7 := n0_; have HB := n1_; clear n0_ n1_; (try clear hb); (try clear hb2); (try clear hk); (try clear hi))); try go_wp2_with (first | (go_at_call 21; (with_reducible refine (r36_Valid.calls k2 0 0 0 0 ((rd_T25 l0 x8_2).f0) ((rd_T25 l0 x8_2).f1) a1 a2 true _ A24.out).mono ?_); rintro e w27 ⟨rfl, hb⟩; have n0_ := am (Kd.R_below (zR HO_7.out) hb); have n1_ := am (below_step (zB HB) hb); clear HO_7; clear HB; have HO_7 := n0_; have HB := n1_; clear n0_ n1_; (try clear hb); (try clear hb2); (try clear hk); (try clear hi); have p547 : 0 ≤ (x8_2 : Int) := of_decide_eq_true zA; have q547 : x8_2 < (l0.length : Int) := of_decide_eq_true zA; obtain ⟨ad547, e547, hx547_0, hx547_1⟩ := at_T25 HR0.out x8_2 p547 q547; obtain rfl : ad545 = ad547 := (by injection e547); replace hx547_0 := (HB.out.cell (World.block_lt_of_cell? w _ hx547_0)).trans hx547_0; replace hx547_1 := (HB.out.cell (World.block_lt_of_cell? w _ hx547_1)).trans hx547_1; replace p547 := eq_true p547; replace q547 := eq_true q547) | (go_at_call 22; (with_reducible refine (r34_Covers.calls k2 _ _ t538 ((rd_T25 l0 x8_2).f0) ((rd_T25 l0 x8_2).f1) t548 _ ?side1 ?side2 A26.out).mono ?_); (case side1 => exact zC (Kd.R_reads' HO_7.out).2.2); (case side2 => exact (Kd.R_reads' HO_7.out).2.1); rintro e w28 ⟨rfl, hb⟩; have n0_ := am (Kd.R_below (zR HO_7.out) hb); have n1_ := am (below_step (zB HB) hb); clear HO_7; clear HB; have HO_7 := n0_; have HB := n1_; clear n0_ n1_; (try clear hb); (try clear hb2); (try clear hk); (try clear hi))))
           go_meet
           case rel => exact ⟨_, (!t548), zS, H', ⟨by have := HJ3.out; have := HK2.out; first | omega | exact Nat.le_refl _⟩, ⟨zR HO_7.out⟩, ⟨zB HB⟩⟩
          ·replace c25 := Bool.eq_false_iff.mpr c25
           subst c25
           have H1 : (w36_PrefetchReplays.j2 k2 l0 a1 a2 t538 x8_2 false) = some r := by rw [if_neg (show ¬ (false = true) by decide)] at H; exact H
           clear H
           have H := H1
           clear H1
           have H' := am H
           clear H
           have p545 : 0 ≤ (x8_2 : Int) := of_decide_eq_true zA
           have q545 : x8_2 < (l0.length : Int) := of_decide_eq_true zA
           obtain ⟨ad545, e545, hx545_0, hx545_1⟩ := at_T25 HR0.out x8_2 p545 q545
           cases e545
           replace hx545_0 := (HB.out.cell (World.block_lt_of_cell? w _ hx545_0)).trans hx545_0
           replace hx545_1 := (HB.out.cell (World.block_lt_of_cell? w _ hx545_1)).trans hx545_1
           replace p545 := eq_true p545
           replace q545 := eq_true q545
           go_wp2_with (first | (go_at_call 21; (with_reducible refine (r36_Valid.calls k2 0 0 0 0 ((rd_T25 l0 x8_2).f0) ((rd_T25 l0 x8_2).f1) a1 a2 false _ A24.out).mono ?_); rintro e w29 ⟨rfl, hb⟩; have n0_ := am (Kd.R_below (zR HO_7.out) hb); have n1_ := am (below_step (zB HB) hb); clear HO_7; clear HB; have HO_7 := n0_; have HB := n1_; clear n0_ n1_; (try clear hb); (try clear hb2); (try clear hk); (try clear hi)))
           repeat (go_quiet (first | (go_at_call 21; (with_reducible refine (r36_Valid.calls k2 0 0 0 0 ((rd_T25 l0 x8_2).f0) ((rd_T25 l0 x8_2).f1) a1 a2 false _ A24.out).mono ?_); rintro e w29 ⟨rfl, hb⟩; have n0_ := am (Kd.R_below (zR HO_7.out) hb); have n1_ := am (below_step (zB HB) hb); clear HO_7; clear HB; have HO_7 := n0_; have HB := n1_; clear n0_ n1_; (try clear hb); (try clear hb2); (try clear hk); (try clear hi))); try go_wp2_with (first | (go_at_call 21; (with_reducible refine (r36_Valid.calls k2 0 0 0 0 ((rd_T25 l0 x8_2).f0) ((rd_T25 l0 x8_2).f1) a1 a2 false _ A24.out).mono ?_); rintro e w29 ⟨rfl, hb⟩; have n0_ := am (Kd.R_below (zR HO_7.out) hb); have n1_ := am (below_step (zB HB) hb); clear HO_7; clear HB; have HO_7 := n0_; have HB := n1_; clear n0_ n1_; (try clear hb); (try clear hb2); (try clear hk); (try clear hi))))
           go_meet
           case rel => exact ⟨_, (false), zS, H', ⟨by have := HJ3.out; have := HK2.out; first | omega | exact Nat.le_refl _⟩, ⟨zR HO_7.out⟩, ⟨zB HB⟩⟩
         ·rw [if_neg c23] at H
          exact absurd H (by simp)
        case rest =>
         clear HC22
         try clear c1
         try clear c2
         try clear p2
         try clear p5
         try clear q5
         try clear hx5
         try clear c6
         try clear c7
         try clear c7b0
         try clear c8
         try clear c8b0
         try clear c9
         try clear c9b0
         try clear c10
         try clear c16
         try clear c21
         try clear c21b0
         try clear c23
         try clear c23b0
         try clear c25
         try clear hx545_0
         try clear hx545_1
         try clear hx547_0
         try clear hx547_1
         try clear p2
         try clear p545
         try clear p547
         try clear q545
         try clear q547
         obtain ⟨kq, x63_21, rfl, HA, HJ21, HO_7, HB⟩ := hcut
         cases kq with
         | zero => exact absurd HA.out (by simp [w36_PrefetchReplays.j2])
         | succ kj21 =>
          have H := HA.out
          clear HA
          simp only [w36_PrefetchReplays.j2] at H
          by_cases c30 : x63_21 = true
          ·subst c30
           have H1 : (some false) = some r := by rw [if_pos rfl] at H; exact H
           clear H
           have H := H1
           clear H1
           exact absurd (Option.some.inj H) (by rw [ht_.out]; simp)
          ·replace c30 := Bool.eq_false_iff.mpr c30
           subst c30
           have H1 : (w36_PrefetchReplays.l0 kj21 l0 a1 a2 t538 (wrap64 (x8_2 + 1))) = some r := by rw [if_neg (show ¬ (false = true) by decide)] at H; exact H
           clear H
           have H := H1
           clear H1
           have H' := am H
           clear H
           go_wp2
           repeat (go_quiet (fail); try go_wp2)
           go_roundg kj21
           case measure => have := HJ3.out; have := HK2.out; have := HJ21.out; omega
           case rel => exact ⟨(wrap64 (x8_2 + 1)), zS, H', ⟨by have := HJ3.out; have := HK2.out; have := HJ21.out; omega⟩, ⟨zR HO_7.out⟩, ⟨zB HB⟩⟩
       ·rw [if_neg c21] at H
        have c21b0 : decide (x8_2 < (l0.length : Int)) = false := decide_eq_false c21
        clear c21
        have H' := am H
        clear H
        go_wp2
        repeat (go_quiet (fail); try go_wp2)
        go_loopg [9] k2 (fun kq v9 w' => ∃ (x9_3 : Int), v9 = .int .i64 x9_3 ∧ Aside0 (w36_PrefetchReplays.l1 kq a1 t538 x9_3 = some r) ∧ Aside0 (kq ≤ k2) ∧ Aside0 (Kd.R k25 25 w' w.heap.size (fun _ => True) (.slice Ao19 t538.length co19) t538) ∧ Aside0 (Below w.heap.size w w'))
        case atStart => exact ⟨(0), zS, H', ⟨Nat.le_refl _⟩, ⟨zR HO_7.out⟩, ⟨zB HB⟩⟩
        case round =>
         clear H'
         try clear c1
         try clear c2
         try clear p2
         try clear c3
         try clear p5
         try clear q5
         try clear hx5
         try clear c6
         try clear p6
         try clear c7
         try clear c7b0
         try clear c8
         try clear c8b0
         try clear c9
         try clear c9b0
         try clear c10
         try clear c16
         try clear c21
         try clear c21b0
         try clear c23
         try clear c23b0
         try clear c25
         try clear c30
         try clear hx545_0
         try clear hx545_1
         try clear hx547_0
         try clear hx547_1
         try clear p2
         try clear p5
         try clear p545
         try clear p547
         try clear q5
         try clear q545
         try clear q547
         obtain ⟨x9_3, rfl, HA, HK3, HO_7, HB⟩ := hrel
         cases gk with
         | zero => exact absurd HA.out (by simp [w36_PrefetchReplays.l1])
         | succ k3 =>
          have H := HA.out
          clear HA
          simp only [w36_PrefetchReplays.l1] at H
          by_cases c31 : x9_3 < (t538.length : Int)
          ·rw [if_pos c31] at H
           have c31b0 : decide (x9_3 < (t538.length : Int)) = true := decide_eq_true c31
           clear c31
           have HC32 := am H
           clear H
           go_upto_region 14 with (fail)
           repeat (go_quiet (fail); go_upto_region 14 with (fail))
           go_cut [123] (fun v123 wc => ∃ (kq : Nat) (x123_31 : Bool), v123 = .bool x123_31 ∧ Aside0 (w36_PrefetchReplays.j4 kq a1 t538 x9_3 x123_31 = some r) ∧ Aside0 (kq ≤ k3) ∧ Aside0 (Kd.R k25 25 wc w.heap.size (fun _ => True) (.slice Ao19 t538.length co19) t538) ∧ Aside0 (Below w.heap.size w wc))
           case first =>
            have H := HC32.out
            clear HC32
            by_cases c33 : 0 ≤ x9_3
            ·rw [if_pos c33] at H
             have c33b0 : decide (0 ≤ x9_3) = true := decide_eq_true c33
             clear c33
             (first | rw [c33b0] | (simp only [i64_w, i32_w]; rw [c33b0]) | skip)
             by_cases c34 : (Int.tmod ((rd_T25 t538 x9_3).f0) 64) = 0
             ·rw [if_pos c34] at H
              have c34b0 : ((Int.tmod ((rd_T25 t538 x9_3).f0) 64) == 0) = true := beq_iff_eq.mpr c34
              have c34b1 : ((Int.tmod ((rd_T25 t538 x9_3).f0) 64) != 0) = false := bne_eq_false_iff_eq.mpr c34
              clear c34
              by_cases c35 : ((rd_T25 t538 x9_3).f1) < 1
              ·rw [if_pos c35] at H
               have c35b0 : decide (((rd_T25 t538 x9_3).f1) < 1) = true := decide_eq_true c35
               clear c35
               have H' := am H
               clear H
               have p550 : 0 ≤ (x9_3 : Int) := of_decide_eq_true zA
               have q550 : x9_3 < (t538.length : Int) := of_decide_eq_true zA
               obtain ⟨ad550, e550, hx550_0, hx550_1⟩ := at_T25 (Kd.R_reads' HO_7.out).2.2 x9_3 p550 q550
               cases e550
               replace p550 := eq_true p550
               replace q550 := eq_true q550
               have p551 : 0 ≤ (x9_3 : Int) := of_decide_eq_true zA
               have q551 : x9_3 < (t538.length : Int) := of_decide_eq_true zA
               obtain ⟨ad551, e551, hx551_0, hx551_1⟩ := at_T25 (Kd.R_reads' HO_7.out).2.2 x9_3 p551 q551
               obtain rfl : ad550 = ad551 := (by injection e551)
               replace p551 := eq_true p551
               replace q551 := eq_true q551
               go_wp2
               repeat (go_quiet (fail); try go_wp2)
               go_meet
               case rel => exact ⟨_, (true), zS, H', ⟨by have := HJ3.out; have := HK2.out; have := HK3.out; first | omega | exact Nat.le_refl _⟩, ⟨zR HO_7.out⟩, ⟨zB HB⟩⟩
              ·rw [if_neg c35] at H
               have c35b0 : decide (((rd_T25 t538 x9_3).f1) < 1) = false := decide_eq_false c35
               clear c35
               by_cases c36 : (wrap64 (((rd_T25 t538 x9_3).f0) + ((rd_T25 t538 x9_3).f1))) > a1
               ·rw [if_pos c36] at H
                have c36b0 : decide (a1 < (wrap64 (((rd_T25 t538 x9_3).f0) + ((rd_T25 t538 x9_3).f1)))) = true := decide_eq_true c36
                clear c36
                have H' := am H
                clear H
                have p550 : 0 ≤ (x9_3 : Int) := of_decide_eq_true zA
                have q550 : x9_3 < (t538.length : Int) := of_decide_eq_true zA
                obtain ⟨ad550, e550, hx550_0, hx550_1⟩ := at_T25 (Kd.R_reads' HO_7.out).2.2 x9_3 p550 q550
                cases e550
                replace p550 := eq_true p550
                replace q550 := eq_true q550
                have p551 : 0 ≤ (x9_3 : Int) := of_decide_eq_true zA
                have q551 : x9_3 < (t538.length : Int) := of_decide_eq_true zA
                obtain ⟨ad551, e551, hx551_0, hx551_1⟩ := at_T25 (Kd.R_reads' HO_7.out).2.2 x9_3 p551 q551
                obtain rfl : ad550 = ad551 := (by injection e551)
                replace p551 := eq_true p551
                replace q551 := eq_true q551
                have p552 : 0 ≤ (x9_3 : Int) := of_decide_eq_true zA
                have q552 : x9_3 < (t538.length : Int) := of_decide_eq_true zA
                obtain ⟨ad552, e552, hx552_0, hx552_1⟩ := at_T25 (Kd.R_reads' HO_7.out).2.2 x9_3 p552 q552
                obtain rfl : ad550 = ad552 := (by injection e552)
                replace p552 := eq_true p552
                replace q552 := eq_true q552
                have p553 : 0 ≤ (x9_3 : Int) := of_decide_eq_true zA
                have q553 : x9_3 < (t538.length : Int) := of_decide_eq_true zA
                obtain ⟨ad553, e553, hx553_0, hx553_1⟩ := at_T25 (Kd.R_reads' HO_7.out).2.2 x9_3 p553 q553
                obtain rfl : ad550 = ad553 := (by injection e553)
                replace p553 := eq_true p553
                replace q553 := eq_true q553
                go_wp2
                repeat (go_quiet (fail); try go_wp2)
                go_meet
                case rel => exact ⟨_, (true), zS, H', ⟨by have := HJ3.out; have := HK2.out; have := HK3.out; first | omega | exact Nat.le_refl _⟩, ⟨zR HO_7.out⟩, ⟨zB HB⟩⟩
               ·rw [if_neg c36] at H
                have c36b0 : decide (a1 < (wrap64 (((rd_T25 t538 x9_3).f0) + ((rd_T25 t538 x9_3).f1)))) = false := decide_eq_false c36
                clear c36
                by_cases c37 : (Int.tmod ((rd_T25 t538 x9_3).f1) 64) = 0
                ·rw [if_pos c37] at H
                 have c37b0 : ((Int.tmod ((rd_T25 t538 x9_3).f1) 64) == 0) = true := beq_iff_eq.mpr c37
                 have c37b1 : ((Int.tmod ((rd_T25 t538 x9_3).f1) 64) != 0) = false := bne_eq_false_iff_eq.mpr c37
                 clear c37
                 have H' := am H
                 clear H
                 have p550 : 0 ≤ (x9_3 : Int) := of_decide_eq_true zA
                 have q550 : x9_3 < (t538.length : Int) := of_decide_eq_true zA
                 obtain ⟨ad550, e550, hx550_0, hx550_1⟩ := at_T25 (Kd.R_reads' HO_7.out).2.2 x9_3 p550 q550
                 cases e550
                 replace p550 := eq_true p550
                 replace q550 := eq_true q550
                 have p551 : 0 ≤ (x9_3 : Int) := of_decide_eq_true zA
                 have q551 : x9_3 < (t538.length : Int) := of_decide_eq_true zA
                 obtain ⟨ad551, e551, hx551_0, hx551_1⟩ := at_T25 (Kd.R_reads' HO_7.out).2.2 x9_3 p551 q551
                 obtain rfl : ad550 = ad551 := (by injection e551)
                 replace p551 := eq_true p551
                 replace q551 := eq_true q551
                 have p552 : 0 ≤ (x9_3 : Int) := of_decide_eq_true zA
                 have q552 : x9_3 < (t538.length : Int) := of_decide_eq_true zA
                 obtain ⟨ad552, e552, hx552_0, hx552_1⟩ := at_T25 (Kd.R_reads' HO_7.out).2.2 x9_3 p552 q552
                 obtain rfl : ad550 = ad552 := (by injection e552)
                 replace p552 := eq_true p552
                 replace q552 := eq_true q552
                 have p553 : 0 ≤ (x9_3 : Int) := of_decide_eq_true zA
                 have q553 : x9_3 < (t538.length : Int) := of_decide_eq_true zA
                 obtain ⟨ad553, e553, hx553_0, hx553_1⟩ := at_T25 (Kd.R_reads' HO_7.out).2.2 x9_3 p553 q553
                 obtain rfl : ad550 = ad553 := (by injection e553)
                 replace p553 := eq_true p553
                 replace q553 := eq_true q553
                 have p554 : 0 ≤ (x9_3 : Int) := of_decide_eq_true zA
                 have q554 : x9_3 < (t538.length : Int) := of_decide_eq_true zA
                 obtain ⟨ad554, e554, hx554_0, hx554_1⟩ := at_T25 (Kd.R_reads' HO_7.out).2.2 x9_3 p554 q554
                 obtain rfl : ad550 = ad554 := (by injection e554)
                 replace p554 := eq_true p554
                 replace q554 := eq_true q554
                 go_wp2
                 repeat (go_quiet (fail); try go_wp2)
                 go_meet
                 case rel => exact ⟨_, (false), zS, H', ⟨by have := HJ3.out; have := HK2.out; have := HK3.out; first | omega | exact Nat.le_refl _⟩, ⟨zR HO_7.out⟩, ⟨zB HB⟩⟩
                ·rw [if_neg c37] at H
                 have c37b0 : ((Int.tmod ((rd_T25 t538 x9_3).f1) 64) == 0) = false := beq_eq_false_iff_ne.mpr c37
                 have c37b1 : ((Int.tmod ((rd_T25 t538 x9_3).f1) 64) != 0) = true := bne_iff_ne.mpr c37
                 have H' := am H
                 clear H
                 have p550 : 0 ≤ (x9_3 : Int) := of_decide_eq_true zA
                 have q550 : x9_3 < (t538.length : Int) := of_decide_eq_true zA
                 obtain ⟨ad550, e550, hx550_0, hx550_1⟩ := at_T25 (Kd.R_reads' HO_7.out).2.2 x9_3 p550 q550
                 cases e550
                 replace p550 := eq_true p550
                 replace q550 := eq_true q550
                 have p551 : 0 ≤ (x9_3 : Int) := of_decide_eq_true zA
                 have q551 : x9_3 < (t538.length : Int) := of_decide_eq_true zA
                 obtain ⟨ad551, e551, hx551_0, hx551_1⟩ := at_T25 (Kd.R_reads' HO_7.out).2.2 x9_3 p551 q551
                 obtain rfl : ad550 = ad551 := (by injection e551)
                 replace p551 := eq_true p551
                 replace q551 := eq_true q551
                 have p552 : 0 ≤ (x9_3 : Int) := of_decide_eq_true zA
                 have q552 : x9_3 < (t538.length : Int) := of_decide_eq_true zA
                 obtain ⟨ad552, e552, hx552_0, hx552_1⟩ := at_T25 (Kd.R_reads' HO_7.out).2.2 x9_3 p552 q552
                 obtain rfl : ad550 = ad552 := (by injection e552)
                 replace p552 := eq_true p552
                 replace q552 := eq_true q552
                 have p553 : 0 ≤ (x9_3 : Int) := of_decide_eq_true zA
                 have q553 : x9_3 < (t538.length : Int) := of_decide_eq_true zA
                 obtain ⟨ad553, e553, hx553_0, hx553_1⟩ := at_T25 (Kd.R_reads' HO_7.out).2.2 x9_3 p553 q553
                 obtain rfl : ad550 = ad553 := (by injection e553)
                 replace p553 := eq_true p553
                 replace q553 := eq_true q553
                 have p554 : 0 ≤ (x9_3 : Int) := of_decide_eq_true zA
                 have q554 : x9_3 < (t538.length : Int) := of_decide_eq_true zA
                 obtain ⟨ad554, e554, hx554_0, hx554_1⟩ := at_T25 (Kd.R_reads' HO_7.out).2.2 x9_3 p554 q554
                 obtain rfl : ad550 = ad554 := (by injection e554)
                 replace p554 := eq_true p554
                 replace q554 := eq_true q554
                 have p555 : 0 ≤ (x9_3 : Int) := of_decide_eq_true zA
                 have q555 : x9_3 < (t538.length : Int) := of_decide_eq_true zA
                 obtain ⟨ad555, e555, hx555_0, hx555_1⟩ := at_T25 (Kd.R_reads' HO_7.out).2.2 x9_3 p555 q555
                 obtain rfl : ad550 = ad555 := (by injection e555)
                 replace p555 := eq_true p555
                 replace q555 := eq_true q555
                 have p556 : 0 ≤ (x9_3 : Int) := of_decide_eq_true zA
                 have q556 : x9_3 < (t538.length : Int) := of_decide_eq_true zA
                 obtain ⟨ad556, e556, hx556_0, hx556_1⟩ := at_T25 (Kd.R_reads' HO_7.out).2.2 x9_3 p556 q556
                 obtain rfl : ad550 = ad556 := (by injection e556)
                 replace p556 := eq_true p556
                 replace q556 := eq_true q556
                 go_wp2
                 repeat (go_quiet (fail); try go_wp2)
                 go_meet
                 case rel => exact ⟨_, (((wrap64 (((rd_T25 t538 x9_3).f0) + ((rd_T25 t538 x9_3).f1))) != a1)), zS, H', ⟨by have := HJ3.out; have := HK2.out; have := HK3.out; first | omega | exact Nat.le_refl _⟩, ⟨zR HO_7.out⟩, ⟨zB HB⟩⟩
             ·rw [if_neg c34] at H
              have c34b0 : ((Int.tmod ((rd_T25 t538 x9_3).f0) 64) == 0) = false := beq_eq_false_iff_ne.mpr c34
              have c34b1 : ((Int.tmod ((rd_T25 t538 x9_3).f0) 64) != 0) = true := bne_iff_ne.mpr c34
              have H' := am H
              clear H
              have p550 : 0 ≤ (x9_3 : Int) := of_decide_eq_true zA
              have q550 : x9_3 < (t538.length : Int) := of_decide_eq_true zA
              obtain ⟨ad550, e550, hx550_0, hx550_1⟩ := at_T25 (Kd.R_reads' HO_7.out).2.2 x9_3 p550 q550
              cases e550
              replace p550 := eq_true p550
              replace q550 := eq_true q550
              go_wp2
              repeat (go_quiet (fail); try go_wp2)
              go_meet
              case rel => exact ⟨_, (true), zS, H', ⟨by have := HJ3.out; have := HK2.out; have := HK3.out; first | omega | exact Nat.le_refl _⟩, ⟨zR HO_7.out⟩, ⟨zB HB⟩⟩
            ·rw [if_neg c33] at H
             exact absurd H (by simp)
           case rest =>
            clear HC32
            try clear c1
            try clear c2
            try clear p2
            try clear c3
            try clear p5
            try clear q5
            try clear hx5
            try clear c6
            try clear p6
            try clear c7
            try clear c7b0
            try clear c8
            try clear c8b0
            try clear c9
            try clear c9b0
            try clear c10
            try clear c16
            try clear c21
            try clear c21b0
            try clear c23
            try clear c23b0
            try clear c25
            try clear c30
            try clear c31
            try clear c31b0
            try clear c33
            try clear c33b0
            try clear c34
            try clear c34b0
            try clear c34b1
            try clear c35
            try clear c35b0
            try clear c36
            try clear c36b0
            try clear c37
            try clear c37b0
            try clear c37b1
            try clear hx545_0
            try clear hx545_1
            try clear hx547_0
            try clear hx547_1
            try clear hx550_0
            try clear hx550_1
            try clear hx551_0
            try clear hx551_1
            try clear hx552_0
            try clear hx552_1
            try clear hx553_0
            try clear hx553_1
            try clear hx554_0
            try clear hx554_1
            try clear hx555_0
            try clear hx555_1
            try clear hx556_0
            try clear hx556_1
            try clear p2
            try clear p5
            try clear p545
            try clear p547
            try clear p550
            try clear p551
            try clear p552
            try clear p553
            try clear p554
            try clear p555
            try clear p556
            try clear p6
            try clear q5
            try clear q545
            try clear q547
            try clear q550
            try clear q551
            try clear q552
            try clear q553
            try clear q554
            try clear q555
            try clear q556
            obtain ⟨kq, x123_31, rfl, HA, HJ31, HO_7, HB⟩ := hcut
            cases kq with
            | zero => exact absurd HA.out (by simp [w36_PrefetchReplays.j4])
            | succ kj31 =>
             have H := HA.out
             clear HA
             simp only [w36_PrefetchReplays.j4] at H
             by_cases c38 : x123_31 = true
             ·subst c38
              have H1 : (some false) = some r := by rw [if_pos rfl] at H; exact H
              clear H
              have H := H1
              clear H1
              exact absurd (Option.some.inj H) (by rw [ht_.out]; simp)
             ·replace c38 := Bool.eq_false_iff.mpr c38
              subst c38
              have H1 : (w36_PrefetchReplays.l1 kj31 a1 t538 (wrap64 (x9_3 + 1))) = some r := by rw [if_neg (show ¬ (false = true) by decide)] at H; exact H
              clear H
              have H := H1
              clear H1
              have H' := am H
              clear H
              go_wp2
              repeat (go_quiet (fail); try go_wp2)
              go_roundg kj31
              case measure => have := HJ3.out; have := HK2.out; have := HK3.out; have := HJ31.out; omega
              case rel => exact ⟨(wrap64 (x9_3 + 1)), zS, H', ⟨by have := HJ3.out; have := HK2.out; have := HK3.out; have := HJ31.out; omega⟩, ⟨zR HO_7.out⟩, ⟨zB HB⟩⟩
          ·rw [if_neg c31] at H
           have c31b0 : decide (x9_3 < (t538.length : Int)) = false := decide_eq_false c31
           clear c31
           replace H := Option.bind_eq_some_iff.mp H
           obtain ⟨t549, A390, H⟩ := H
           replace H : (some t549) = some r := H
           have A39 := am A390
           clear A390
           obtain rfl := Option.some.inj H
           go_wp2_with (first | (go_at_call 12; (with_reducible refine (w36_awake_s.calls  t549 _ A39.out).mono ?_); rintro e w40 ⟨rfl, hb⟩; have n0_ := am (Kd.R_below (zR HO_7.out) hb); have n1_ := am (below_step (zB HB) hb); clear HO_7; clear HB; have HO_7 := n0_; have HB := n1_; clear n0_ n1_; (try clear hb); (try clear hb2); (try clear hk); (try clear hi)))
           repeat (go_quiet (first | (go_at_call 12; (with_reducible refine (w36_awake_s.calls  t549 _ A39.out).mono ?_); rintro e w40 ⟨rfl, hb⟩; have n0_ := am (Kd.R_below (zR HO_7.out) hb); have n1_ := am (below_step (zB HB) hb); clear HO_7; clear HB; have HO_7 := n0_; have HB := n1_; clear n0_ n1_; (try clear hb); (try clear hb2); (try clear hk); (try clear hi))); try go_wp2_with (first | (go_at_call 12; (with_reducible refine (w36_awake_s.calls  t549 _ A39.out).mono ?_); rintro e w40 ⟨rfl, hb⟩; have n0_ := am (Kd.R_below (zR HO_7.out) hb); have n1_ := am (below_step (zB HB) hb); clear HO_7; clear HB; have HO_7 := n0_; have HB := n1_; clear n0_ n1_; (try clear hb); (try clear hb2); (try clear hk); (try clear hi))))
           go_ret
           exact ⟨by first | rfl | (simp [errW_none, errW_some] <;> rfl) | (simp [*, errW_none, errW_some] <;> rfl), by repeat (first | (with_reducible first | exact HB.out | apply below_alloc | apply pw_below_drewN | apply below_drew1) | exact HB.out)⟩
    ·replace c16 := Bool.eq_false_iff.mpr c16
     subst c16
     have H1 : (some false) = some r := by rw [if_neg (show ¬ (false = true) by decide)] at H; exact H
     clear H
     have H := H1
     clear H1
     exact absurd (Option.some.inj H) (by rw [ht_.out]; simp)

end
end Go.Proofs.Ytapbmkcncjkanaa.P
