-- Written by this session's wip/tools/px.py out of the translation. Lean checks it.
import Derived.Test.YtapbmkcncjkanaaP0
import Derived.Test.YtapbmkcncjkanaaP10
import Derived.Test.YtapbmkcncjkanaaP13
import Derived.Test.YtapbmkcncjkanaaP19
import Derived.Test.YtapbmkcncjkanaaP22
import Derived.Test.YtapbmkcncjkanaaAwake
import Derived.Test.YtapbmkcncjkanaaP28
namespace Go.Proofs.Ytapbmkcncjkanaa.P
noncomputable section
open Go.RowKit Go.Proofs.YtapbmkcncjkanaaW.PrintWords Go.Proofs.YtapbmkcncjkanaaW.PrintLast Go.Proofs.YtapbmkcncjkanaaW.PrintMore
attribute [local go_sem] max2_int min2_int max_two min_two max_three min_three max_four min_four   -- for this text's walks alone
set_option linter.unusedVariables false
set_option linter.unusedSimpArgs false

/-! ### tapearchivelaw36_PrefetchWastes: function 8 -/
def tapearchivelaw36_PrefetchWastes.j0 : Nat → List (S25) → List (S25) → List (S25) → Bool → Option (Bool)
 | 0, _, _, _, _ => none
 | k + 1, x0, x1, x2, x21 => if x21 = true then ((tapearchivelaw36_awake_s.f).bind fun t580 => (some t580)) else ((some (([] : List (S25)) : List (S25))).bind fun y581 => (if y581.length + x1.length < 8796093022208 then ((some (y581 ++ x1 : List (S25))).bind fun y584 => (if y584.length + x2.length < 8796093022208 then ((tapearchiveref34_Subtract.f k x0 x1).bind fun t590 => ((tapearchiveref34_Intersect.f k t590 x2).bind fun t593 => ((prefetch_Waste.f k x0 x1).bind fun t596 => ((tapearchiveref36_Waste.f k x0 x1).bind fun t597 => (if t596 = t597 then ((prefetch_Waste.f k x0 (y584 ++ x2)).bind fun t598 => ((prefetch_Waste.f k x0 x1).bind fun t599 => ((tapearchiveref34_Total.f k t593).bind fun t600 => (if t598 = (wrap64 (t599 - t600)) then ((prefetch_Waste.f k x0 x0).bind fun t601 => (if t601 = 0 then ((tapearchivelaw36_awake_s.f).bind fun t602 => (some t602)) else (some false))) else (some false))))) else (some false)))))) else (none))) else (none)))
def tapearchivelaw36_PrefetchWastes.f (k : Nat) (l0 : List (S25)) (l1 : List (S25)) (l2 : List (S25)) : Option (Bool) := (tapearchivelaw36_few.f k l0).bind fun t577 => (if t577 = true then ((tapearchivelaw36_few.f k l1).bind fun t578 => (if t578 = true then ((tapearchivelaw36_few.f k l2).bind fun t579 => (tapearchivelaw36_PrefetchWastes.j0 k l0 l1 l2 (!t579))) else (tapearchivelaw36_PrefetchWastes.j0 k l0 l1 l2 true))) else (tapearchivelaw36_PrefetchWastes.j0 k l0 l1 l2 true))
theorem tapearchivelaw36_PrefetchWastes.mono_l : ∀ k, (∀ y0 y1 y2 y3, LeO (tapearchivelaw36_PrefetchWastes.j0 k y0 y1 y2 y3) (tapearchivelaw36_PrefetchWastes.j0 (k + 1) y0 y1 y2 y3))
 | 0 => fun _ _ _ _ r h => by simp [tapearchivelaw36_PrefetchWastes.j0] at h
 | k + 1 => by
  have ih0 := tapearchivelaw36_PrefetchWastes.mono_l k
  ·intro y0 y1 y2 y3
   unfold tapearchivelaw36_PrefetchWastes.j0
   repeat' first
   | (with_reducible exact ih0 _ _ _ _)
   | (with_reducible exact prefetch_Waste.mono _ _ _)
   | (with_reducible exact tapearchivelaw36_few.mono _ _)
   | (with_reducible exact tapearchiveref34_Intersect.mono _ _ _)
   | (with_reducible exact tapearchiveref34_Subtract.mono _ _ _)
   | (with_reducible exact tapearchiveref34_Total.mono _ _)
   | (with_reducible exact tapearchiveref36_Waste.mono _ _ _)
   | (with_reducible exact LeO.refl _)
   | (with_reducible exact LeO.none _)
   | (with_reducible refine LeO.ite ?_ ?_)
   | (with_reducible refine LeO.bind ?_ (fun _ => ?_))
   | exact ih0 _ _ _ _
   | exact prefetch_Waste.mono _ _ _
   | exact tapearchivelaw36_few.mono _ _
   | exact tapearchiveref34_Intersect.mono _ _ _
   | exact tapearchiveref34_Subtract.mono _ _ _
   | exact tapearchiveref34_Total.mono _ _
   | exact tapearchiveref36_Waste.mono _ _ _
   | exact LeO.none _
   | refine LeO.ite ?_ ?_
   | refine LeO.bind ?_ (fun _ => ?_)
theorem tapearchivelaw36_PrefetchWastes.mono : ∀ a0 a1 a2 k, LeO (tapearchivelaw36_PrefetchWastes.f k a0 a1 a2) (tapearchivelaw36_PrefetchWastes.f (k + 1) a0 a1 a2) := by
 intro a0 a1 a2 k
 have ih0 := tapearchivelaw36_PrefetchWastes.mono_l k
 unfold tapearchivelaw36_PrefetchWastes.f
 repeat' first
   | (with_reducible exact ih0 _ _ _ _)
   | (with_reducible exact prefetch_Waste.mono _ _ _)
   | (with_reducible exact tapearchivelaw36_few.mono _ _)
   | (with_reducible exact tapearchiveref34_Intersect.mono _ _ _)
   | (with_reducible exact tapearchiveref34_Subtract.mono _ _ _)
   | (with_reducible exact tapearchiveref34_Total.mono _ _)
   | (with_reducible exact tapearchiveref36_Waste.mono _ _ _)
   | (with_reducible exact LeO.refl _)
   | (with_reducible exact LeO.none _)
   | (with_reducible refine LeO.ite ?_ ?_)
   | (with_reducible refine LeO.bind ?_ (fun _ => ?_))
   | exact ih0 _ _ _ _
   | exact prefetch_Waste.mono _ _ _
   | exact tapearchivelaw36_few.mono _ _
   | exact tapearchiveref34_Intersect.mono _ _ _
   | exact tapearchiveref34_Subtract.mono _ _ _
   | exact tapearchiveref34_Total.mono _ _
   | exact tapearchiveref36_Waste.mono _ _ _
   | exact LeO.none _
   | refine LeO.ite ?_ ?_
   | refine LeO.bind ?_ (fun _ => ?_)
set_option maxHeartbeats 8000000 in
set_option maxRecDepth 100000 in
theorem tapearchivelaw36_PrefetchWastes.calls (k : Nat) (A0 : Option Addr) (c0 : Nat) (l0 : List (S25)) (A1 : Option Addr) (c1 : Nat) (l1 : List (S25)) (A2 : Option Addr) (c2 : Nat) (l2 : List (S25)) (r : Bool) (w : World) (hr0 : Kd.C k25 w A0 l0.length l0) (hc0 : l0.length ≤ c0) (hr1 : Kd.C k25 w A1 l1.length l1) (hc1 : l1.length ≤ c1) (hr2 : Kd.C k25 w A2 l2.length l2) (hc2 : l2.length ≤ c2) (ht_ : Aside0 (r = true)) (h : tapearchivelaw36_PrefetchWastes.f k l0 l1 l2 = some r) :
  Calls Try.prog 8 #[.slice A0 l0.length c0, .slice A1 l1.length c1, .slice A2 l2.length c2] w fun e w' => e = .returned (.bool r) ∧ Below w.heap.size w w' := by
 have HR0 := Aside0.mk hr0
 have HC0 := Aside0.mk hc0
 clear hr0 hc0
 have HR1 := Aside0.mk hr1
 have HC1 := Aside0.mk hc1
 clear hr1 hc1
 have HR2 := Aside0.mk hr2
 have HC2 := Aside0.mk hc2
 clear hr2 hc2
 have HB := Aside0.mk (Below.refl w.heap.size w)
 have H : ((tapearchivelaw36_few.f k l0).bind fun t577 => (if t577 = true then ((tapearchivelaw36_few.f k l1).bind fun t578 => (if t578 = true then ((tapearchivelaw36_few.f k l2).bind fun t579 => (tapearchivelaw36_PrefetchWastes.j0 k l0 l1 l2 (!t579))) else (tapearchivelaw36_PrefetchWastes.j0 k l0 l1 l2 true))) else (tapearchivelaw36_PrefetchWastes.j0 k l0 l1 l2 true))) = some r := h
 clear h
 have HC4 := Aside0.mk H
 clear H
 go_enter Try.func8, Try.ntmps8
 go_upto_region 1 with (fail)
 go_cut [21] (fun v21 wc => ∃ (kq : Nat) (x21_3 : Bool), v21 = .bool x21_3 ∧ Aside0 (tapearchivelaw36_PrefetchWastes.j0 kq l0 l1 l2 x21_3 = some r) ∧ Aside0 (kq ≤ k) ∧ Aside0 (Below w.heap.size w wc))
 case first =>
  have H := HC4.out
  clear HC4
  replace H := Option.bind_eq_some_iff.mp H
  obtain ⟨t577, A50, H⟩ := H
  replace H : (if t577 = true then ((tapearchivelaw36_few.f k l1).bind fun t578 => (if t578 = true then ((tapearchivelaw36_few.f k l2).bind fun t579 => (tapearchivelaw36_PrefetchWastes.j0 k l0 l1 l2 (!t579))) else (tapearchivelaw36_PrefetchWastes.j0 k l0 l1 l2 true))) else (tapearchivelaw36_PrefetchWastes.j0 k l0 l1 l2 true)) = some r := H
  have A5 := Aside0.mk A50
  clear A50
  by_cases c6 : t577 = true
  ·subst c6
   have H1 : ((tapearchivelaw36_few.f k l1).bind fun t578 => (if t578 = true then ((tapearchivelaw36_few.f k l2).bind fun t579 => (tapearchivelaw36_PrefetchWastes.j0 k l0 l1 l2 (!t579))) else (tapearchivelaw36_PrefetchWastes.j0 k l0 l1 l2 true))) = some r := by rw [if_pos rfl] at H; exact H
   clear H
   have H := H1
   clear H1
   replace H := Option.bind_eq_some_iff.mp H
   obtain ⟨t578, A70, H⟩ := H
   replace H : (if t578 = true then ((tapearchivelaw36_few.f k l2).bind fun t579 => (tapearchivelaw36_PrefetchWastes.j0 k l0 l1 l2 (!t579))) else (tapearchivelaw36_PrefetchWastes.j0 k l0 l1 l2 true)) = some r := H
   have A7 := Aside0.mk A70
   clear A70
   by_cases c8 : t578 = true
   ·subst c8
    have H1 : ((tapearchivelaw36_few.f k l2).bind fun t579 => (tapearchivelaw36_PrefetchWastes.j0 k l0 l1 l2 (!t579))) = some r := by rw [if_pos rfl] at H; exact H
    clear H
    have H := H1
    clear H1
    replace H := Option.bind_eq_some_iff.mp H
    obtain ⟨t579, A90, H⟩ := H
    replace H : (tapearchivelaw36_PrefetchWastes.j0 k l0 l1 l2 (!t579)) = some r := H
    have A9 := Aside0.mk A90
    clear A90
    have H' := Aside0.mk H
    clear H
    go_wp2_with (first | ((with_reducible refine gate_callee (f := 13) rfl ?_); refine goesL_ (some 10) rfl rfl Try.func13 (by kernel_rfl) rfl #[.slice A0 l0.length c0] rfl zM ?_; (with_reducible refine (tapearchivelaw36_few.calls k _ _ l0 true _ ?side1 ?side2 A5.out).mono ?_); (case side1 => exact zC (Kd.C_below HR0.out HB.out)); (case side2 => exact HC0.out); rintro e w' ⟨rfl, ⟨nd, rfl⟩⟩; refine ⟨_, rfl, ?_⟩) | (go_at_call 13; (with_reducible refine (tapearchivelaw36_few.calls k _ _ l1 true _ ?side1 ?side2 A7.out).mono ?_); (case side1 => repeat (first | exact (Kd.C_below HR1.out (zB HB)) | (with_reducible refine Kd.C_alloc ?_ _) | (with_reducible refine Kd.C_drewN ?_ _) | (with_reducible refine Kd.C_drew ?_))); (case side2 => exact HC1.out); rintro e w' ⟨rfl, ⟨nd, rfl⟩⟩) | (go_at_call 13; (with_reducible refine (tapearchivelaw36_few.calls k _ _ l2 t579 _ ?side1 ?side2 A9.out).mono ?_); (case side1 => repeat (first | exact (Kd.C_below HR2.out (zB HB)) | (with_reducible refine Kd.C_alloc ?_ _) | (with_reducible refine Kd.C_drewN ?_ _) | (with_reducible refine Kd.C_drew ?_))); (case side2 => exact HC2.out); rintro e w' ⟨rfl, ⟨nd, rfl⟩⟩))
    go_meet
    case rel => exact ⟨_, (!t579), zS, H', ⟨by first | omega | exact Nat.le_refl _⟩, ⟨zB HB⟩⟩
   ·replace c8 := Bool.eq_false_iff.mpr c8
    subst c8
    have H1 : (tapearchivelaw36_PrefetchWastes.j0 k l0 l1 l2 true) = some r := by rw [if_neg (show ¬ (false = true) by decide)] at H; exact H
    clear H
    have H := H1
    clear H1
    have H' := Aside0.mk H
    clear H
    go_wp2_with (first | ((with_reducible refine gate_callee (f := 13) rfl ?_); refine goesL_ (some 10) rfl rfl Try.func13 (by kernel_rfl) rfl #[.slice A0 l0.length c0] rfl zM ?_; (with_reducible refine (tapearchivelaw36_few.calls k _ _ l0 true _ ?side1 ?side2 A5.out).mono ?_); (case side1 => exact zC (Kd.C_below HR0.out HB.out)); (case side2 => exact HC0.out); rintro e w' ⟨rfl, ⟨nd, rfl⟩⟩; refine ⟨_, rfl, ?_⟩) | (go_at_call 13; (with_reducible refine (tapearchivelaw36_few.calls k _ _ l1 false _ ?side1 ?side2 A7.out).mono ?_); (case side1 => repeat (first | exact (Kd.C_below HR1.out (zB HB)) | (with_reducible refine Kd.C_alloc ?_ _) | (with_reducible refine Kd.C_drewN ?_ _) | (with_reducible refine Kd.C_drew ?_))); (case side2 => exact HC1.out); rintro e w' ⟨rfl, ⟨nd, rfl⟩⟩))
    go_meet
    case rel => exact ⟨_, (true), zS, H', ⟨by first | omega | exact Nat.le_refl _⟩, ⟨zB HB⟩⟩
  ·replace c6 := Bool.eq_false_iff.mpr c6
   subst c6
   have H1 : (tapearchivelaw36_PrefetchWastes.j0 k l0 l1 l2 true) = some r := by rw [if_neg (show ¬ (false = true) by decide)] at H; exact H
   clear H
   have H := H1
   clear H1
   have H' := Aside0.mk H
   clear H
   go_wp2_with (first | ((with_reducible refine gate_callee (f := 13) rfl ?_); refine goesL_ (some 10) rfl rfl Try.func13 (by kernel_rfl) rfl #[.slice A0 l0.length c0] rfl zM ?_; (with_reducible refine (tapearchivelaw36_few.calls k _ _ l0 false _ ?side1 ?side2 A5.out).mono ?_); (case side1 => exact zC (Kd.C_below HR0.out HB.out)); (case side2 => exact HC0.out); rintro e w' ⟨rfl, ⟨nd, rfl⟩⟩; refine ⟨_, rfl, ?_⟩))
   go_meet
   case rel => exact ⟨_, (true), zS, H', ⟨by first | omega | exact Nat.le_refl _⟩, ⟨zB HB⟩⟩
 case rest =>
  clear HC4
  try clear c1
  try clear c2
  try clear p2
  try clear c6
  try clear c8
  obtain ⟨kq, x21_3, rfl, HA, HJ3, HB⟩ := hcut
  cases kq with
  | zero => exact absurd HA.out (by simp [tapearchivelaw36_PrefetchWastes.j0])
  | succ kj3 =>
   have H := HA.out
   clear HA
   simp only [tapearchivelaw36_PrefetchWastes.j0] at H
   by_cases c10 : x21_3 = true
   ·subst c10
    have H1 : ((tapearchivelaw36_awake_s.f).bind fun t580 => (some t580)) = some r := by rw [if_pos rfl] at H; exact H
    clear H
    have H := H1
    clear H1
    replace H := Option.bind_eq_some_iff.mp H
    obtain ⟨t580, A110, H⟩ := H
    replace H : (some t580) = some r := H
    have A11 := Aside0.mk A110
    clear A110
    obtain rfl := Option.some.inj H
    go_wp2_with (first | ((with_reducible refine gate_callee (f := 12) rfl ?_); refine goesL_ (some 22) rfl rfl Try.func12 (by kernel_rfl) rfl #[] rfl zM ?_; (with_reducible refine (tapearchivelaw36_awake_s.calls  t580 _ A11.out).mono ?_); rintro e w12 ⟨rfl, hb⟩; refine ⟨_, rfl, ?_⟩; have n0_ := Aside0.mk (below_step (zB HB) hb); clear HB; have HB := n0_; clear n0_; (try clear hb); (try clear hb2); (try clear hk); (try clear hi)))
    go_ret
    exact ⟨by first | rfl | (simp [errW_none, errW_some] <;> rfl) | (simp [*, errW_none, errW_some] <;> rfl), by repeat (first | (with_reducible first | exact HB.out | apply below_alloc | apply pw_below_drewN | apply below_drew1) | exact HB.out)⟩
   ·replace c10 := Bool.eq_false_iff.mpr c10
    subst c10
    have H1 : ((some (([] : List (S25)) : List (S25))).bind fun y581 => (if y581.length + l1.length < 8796093022208 then ((some (y581 ++ l1 : List (S25))).bind fun y584 => (if y584.length + l2.length < 8796093022208 then ((tapearchiveref34_Subtract.f kj3 l0 l1).bind fun t590 => ((tapearchiveref34_Intersect.f kj3 t590 l2).bind fun t593 => ((prefetch_Waste.f kj3 l0 l1).bind fun t596 => ((tapearchiveref36_Waste.f kj3 l0 l1).bind fun t597 => (if t596 = t597 then ((prefetch_Waste.f kj3 l0 (y584 ++ l2)).bind fun t598 => ((prefetch_Waste.f kj3 l0 l1).bind fun t599 => ((tapearchiveref34_Total.f kj3 t593).bind fun t600 => (if t598 = (wrap64 (t599 - t600)) then ((prefetch_Waste.f kj3 l0 l0).bind fun t601 => (if t601 = 0 then ((tapearchivelaw36_awake_s.f).bind fun t602 => (some t602)) else (some false))) else (some false))))) else (some false)))))) else (none))) else (none))) = some r := by rw [if_neg (show ¬ (false = true) by decide)] at H; exact H
    clear H
    have H := H1
    clear H1
    obtain ⟨y581, hy581⟩ : ∃ y_ : List (S25), y_ = (([] : List (S25))) := ⟨_, rfl⟩
    replace H : (if y581.length + l1.length < 8796093022208 then ((some (y581 ++ l1 : List (S25))).bind fun y584 => (if y584.length + l2.length < 8796093022208 then ((tapearchiveref34_Subtract.f kj3 l0 l1).bind fun t590 => ((tapearchiveref34_Intersect.f kj3 t590 l2).bind fun t593 => ((prefetch_Waste.f kj3 l0 l1).bind fun t596 => ((tapearchiveref36_Waste.f kj3 l0 l1).bind fun t597 => (if t596 = t597 then ((prefetch_Waste.f kj3 l0 (y584 ++ l2)).bind fun t598 => ((prefetch_Waste.f kj3 l0 l1).bind fun t599 => ((tapearchiveref34_Total.f kj3 t593).bind fun t600 => (if t598 = (wrap64 (t599 - t600)) then ((prefetch_Waste.f kj3 l0 l0).bind fun t601 => (if t601 = 0 then ((tapearchivelaw36_awake_s.f).bind fun t602 => (some t602)) else (some false))) else (some false))))) else (some false)))))) else (none))) else (none)) = some r := by first | (rw [hy581]; with_reducible exact H) | (have H2_ := (Option.bind_some _ _).symm.trans H; rw [hy581]; with_reducible exact H2_) | (have H2_ := (Option.bind_some _ _).symm.trans H; with_reducible exact H2_) | with_reducible exact H | (rw [hy581]; exact H) | exact H
    have Ny581 := Aside0.mk hy581
    clear hy581
    by_cases c13 : y581.length + l1.length < 8796093022208
    ·rw [if_pos c13] at H
     have LMc13 := Aside0.mk c13
     clear c13
     obtain ⟨y584, hy584⟩ : ∃ y_ : List (S25), y_ = (y581 ++ l1) := ⟨_, rfl⟩
     replace H : (if y584.length + l2.length < 8796093022208 then ((tapearchiveref34_Subtract.f kj3 l0 l1).bind fun t590 => ((tapearchiveref34_Intersect.f kj3 t590 l2).bind fun t593 => ((prefetch_Waste.f kj3 l0 l1).bind fun t596 => ((tapearchiveref36_Waste.f kj3 l0 l1).bind fun t597 => (if t596 = t597 then ((prefetch_Waste.f kj3 l0 (y584 ++ l2)).bind fun t598 => ((prefetch_Waste.f kj3 l0 l1).bind fun t599 => ((tapearchiveref34_Total.f kj3 t593).bind fun t600 => (if t598 = (wrap64 (t599 - t600)) then ((prefetch_Waste.f kj3 l0 l0).bind fun t601 => (if t601 = 0 then ((tapearchivelaw36_awake_s.f).bind fun t602 => (some t602)) else (some false))) else (some false))))) else (some false)))))) else (none)) = some r := by first | (rw [hy584]; with_reducible exact H) | (have H2_ := (Option.bind_some _ _).symm.trans H; rw [hy584]; with_reducible exact H2_) | (have H2_ := (Option.bind_some _ _).symm.trans H; with_reducible exact H2_) | with_reducible exact H | (rw [hy584]; exact H) | exact H
     have Ny584 := Aside0.mk hy584
     clear hy584
     by_cases c14 : y584.length + l2.length < 8796093022208
     ·rw [if_pos c14] at H
      have LMc14 := Aside0.mk c14
      clear c14
      obtain ⟨y587, hy587⟩ : ∃ y_ : List (S25), y_ = (y584 ++ l2) := ⟨_, rfl⟩
      replace H : ((tapearchiveref34_Subtract.f kj3 l0 l1).bind fun t590 => ((tapearchiveref34_Intersect.f kj3 t590 l2).bind fun t593 => ((prefetch_Waste.f kj3 l0 l1).bind fun t596 => ((tapearchiveref36_Waste.f kj3 l0 l1).bind fun t597 => (if t596 = t597 then ((prefetch_Waste.f kj3 l0 y587).bind fun t598 => ((prefetch_Waste.f kj3 l0 l1).bind fun t599 => ((tapearchiveref34_Total.f kj3 t593).bind fun t600 => (if t598 = (wrap64 (t599 - t600)) then ((prefetch_Waste.f kj3 l0 l0).bind fun t601 => (if t601 = 0 then ((tapearchivelaw36_awake_s.f).bind fun t602 => (some t602)) else (some false))) else (some false))))) else (some false)))))) = some r := by first | (rw [hy587]; with_reducible exact H) | (have H2_ := (Option.bind_some _ _).symm.trans H; rw [hy587]; with_reducible exact H2_) | (have H2_ := (Option.bind_some _ _).symm.trans H; with_reducible exact H2_) | with_reducible exact H | (rw [hy587]; exact H) | exact H
      have Ny587 := Aside0.mk hy587
      clear hy587
      replace H := Option.bind_eq_some_iff.mp H
      obtain ⟨t590, A150, H⟩ := H
      replace H : ((tapearchiveref34_Intersect.f kj3 t590 l2).bind fun t593 => ((prefetch_Waste.f kj3 l0 l1).bind fun t596 => ((tapearchiveref36_Waste.f kj3 l0 l1).bind fun t597 => (if t596 = t597 then ((prefetch_Waste.f kj3 l0 y587).bind fun t598 => ((prefetch_Waste.f kj3 l0 l1).bind fun t599 => ((tapearchiveref34_Total.f kj3 t593).bind fun t600 => (if t598 = (wrap64 (t599 - t600)) then ((prefetch_Waste.f kj3 l0 l0).bind fun t601 => (if t601 = 0 then ((tapearchivelaw36_awake_s.f).bind fun t602 => (some t602)) else (some false))) else (some false))))) else (some false))))) = some r := H
      have A15 := Aside0.mk A150
      clear A150
      replace H := Option.bind_eq_some_iff.mp H
      obtain ⟨t593, A160, H⟩ := H
      replace H : ((prefetch_Waste.f kj3 l0 l1).bind fun t596 => ((tapearchiveref36_Waste.f kj3 l0 l1).bind fun t597 => (if t596 = t597 then ((prefetch_Waste.f kj3 l0 y587).bind fun t598 => ((prefetch_Waste.f kj3 l0 l1).bind fun t599 => ((tapearchiveref34_Total.f kj3 t593).bind fun t600 => (if t598 = (wrap64 (t599 - t600)) then ((prefetch_Waste.f kj3 l0 l0).bind fun t601 => (if t601 = 0 then ((tapearchivelaw36_awake_s.f).bind fun t602 => (some t602)) else (some false))) else (some false))))) else (some false)))) = some r := H
      have A16 := Aside0.mk A160
      clear A160
      replace H := Option.bind_eq_some_iff.mp H
      obtain ⟨t596, A170, H⟩ := H
      replace H : ((tapearchiveref36_Waste.f kj3 l0 l1).bind fun t597 => (if t596 = t597 then ((prefetch_Waste.f kj3 l0 y587).bind fun t598 => ((prefetch_Waste.f kj3 l0 l1).bind fun t599 => ((tapearchiveref34_Total.f kj3 t593).bind fun t600 => (if t598 = (wrap64 (t599 - t600)) then ((prefetch_Waste.f kj3 l0 l0).bind fun t601 => (if t601 = 0 then ((tapearchivelaw36_awake_s.f).bind fun t602 => (some t602)) else (some false))) else (some false))))) else (some false))) = some r := H
      have A17 := Aside0.mk A170
      clear A170
      replace H := Option.bind_eq_some_iff.mp H
      obtain ⟨t597, A180, H⟩ := H
      replace H : (if t596 = t597 then ((prefetch_Waste.f kj3 l0 y587).bind fun t598 => ((prefetch_Waste.f kj3 l0 l1).bind fun t599 => ((tapearchiveref34_Total.f kj3 t593).bind fun t600 => (if t598 = (wrap64 (t599 - t600)) then ((prefetch_Waste.f kj3 l0 l0).bind fun t601 => (if t601 = 0 then ((tapearchivelaw36_awake_s.f).bind fun t602 => (some t602)) else (some false))) else (some false))))) else (some false)) = some r := H
      have A18 := Aside0.mk A180
      clear A180
      by_cases c19 : t596 = t597
      ·rw [if_pos c19] at H
       have c19b0 : (t596 == t597) = true := beq_iff_eq.mpr c19
       have c19b1 : (t596 != t597) = false := bne_eq_false_iff_eq.mpr c19
       clear c19
       replace H := Option.bind_eq_some_iff.mp H
       obtain ⟨t598, A200, H⟩ := H
       replace H : ((prefetch_Waste.f kj3 l0 l1).bind fun t599 => ((tapearchiveref34_Total.f kj3 t593).bind fun t600 => (if t598 = (wrap64 (t599 - t600)) then ((prefetch_Waste.f kj3 l0 l0).bind fun t601 => (if t601 = 0 then ((tapearchivelaw36_awake_s.f).bind fun t602 => (some t602)) else (some false))) else (some false)))) = some r := H
       have A20 := Aside0.mk A200
       clear A200
       replace H := Option.bind_eq_some_iff.mp H
       obtain ⟨t599, A210, H⟩ := H
       replace H : ((tapearchiveref34_Total.f kj3 t593).bind fun t600 => (if t598 = (wrap64 (t599 - t600)) then ((prefetch_Waste.f kj3 l0 l0).bind fun t601 => (if t601 = 0 then ((tapearchivelaw36_awake_s.f).bind fun t602 => (some t602)) else (some false))) else (some false))) = some r := H
       have A21 := Aside0.mk A210
       clear A210
       replace H := Option.bind_eq_some_iff.mp H
       obtain ⟨t600, A220, H⟩ := H
       replace H : (if t598 = (wrap64 (t599 - t600)) then ((prefetch_Waste.f kj3 l0 l0).bind fun t601 => (if t601 = 0 then ((tapearchivelaw36_awake_s.f).bind fun t602 => (some t602)) else (some false))) else (some false)) = some r := H
       have A22 := Aside0.mk A220
       clear A220
       by_cases c23 : t598 = (wrap64 (t599 - t600))
       ·rw [if_pos c23] at H
        have c23b0 : (t598 == (wrap64 (t599 - t600))) = true := beq_iff_eq.mpr c23
        have c23b1 : (t598 != (wrap64 (t599 - t600))) = false := bne_eq_false_iff_eq.mpr c23
        clear c23
        replace H := Option.bind_eq_some_iff.mp H
        obtain ⟨t601, A240, H⟩ := H
        replace H : (if t601 = 0 then ((tapearchivelaw36_awake_s.f).bind fun t602 => (some t602)) else (some false)) = some r := H
        have A24 := Aside0.mk A240
        clear A240
        by_cases c25 : t601 = 0
        ·rw [if_pos c25] at H
         have c25b0 : (t601 == 0) = true := beq_iff_eq.mpr c25
         have c25b1 : (t601 != 0) = false := bne_eq_false_iff_eq.mpr c25
         clear c25
         replace H := Option.bind_eq_some_iff.mp H
         obtain ⟨t602, A260, H⟩ := H
         replace H : (some t602) = some r := H
         have A26 := Aside0.mk A260
         clear A260
         obtain rfl := Option.some.inj H
         go_wp2_with (first | ((with_reducible refine gate_dst (N := 23) rfl ?_); refine Kd.R_lit k25 _ 25 ?hg (N := 23) ?hd (xs := ([] : List (S25))) (inner := []) (ok := fun _ => True) (okp := fun _ => True) ?hr ?hp (fun _ hk => hk) trivial (Below.refl _ _) (Nat.le_refl _) (by simp) ?_; (case hd => rfl); (case hg => rfl); (case hr => first | (go_simp; done) | (go_simp; rfl)); (case hp => exact (Reps.none _ _)); intro v582 w27 ho28 hb hg_ hnew_; clear hg_ hnew_; (first | rw [← Ny581.out] at ho28 | (simp only [Int.reduceToNat] at ho28; rw [← Ny581.out] at ho28)); have n0_ := Aside0.mk (Kd.R_lower ho28 (below_size (zB HB))); have n1_ := Aside0.mk (below_step (zB HB) hb); clear HB; have HO583 := n0_; have HB := n1_; clear n0_ n1_; clear hb ho28) | ((with_reducible refine gate_builtin (b := .append) (xs := #[.tmp 23, .tmp 24]) rfl ?_); at_builtin; refine Kd.R_append_rows k25 (w0 := w) w.heap.size rfl (.tmp 23) (.tmp 24) 38 25 (.agg #[(.int .i64 0), (.int .i64 0)]) 16 rfl Try.underlying38 info25 rfl (by decide) (by omega) v582 y581 l1 _ _ _ (fun _ => True) (fun _ => False) rfl rfl ?aO ?aR (fun _ _ h => h) (fun _ h => h.elim) ?aF ?aB ?aS ?aL ?_; (case aR => exact zC (Kd.C_below HR1.out HB.out)); (case aB => exact (zB HB)); (case aF => exact (fun _ _ => trivial)); (case aO => exact (zR HO583.out)); (case aS => exact (below_size (zB HB))); (case aL => have := LMc13.out; omega); intro v585 w29 ho hb hg hat; rw [← Ny584.out] at ho; have n0_ := Aside0.mk (hb); have n1_ := Aside0.mk (ho); clear HB; clear HO583; have HB := n0_; have HO586 := n1_; clear n0_ n1_; clear ho hb hg hat) | ((with_reducible refine gate_builtin (b := .append) (xs := #[.tmp 26, .tmp 27]) rfl ?_); at_builtin; refine Kd.R_append_rows k25 (w0 := w) w.heap.size rfl (.tmp 26) (.tmp 27) 38 25 (.agg #[(.int .i64 0), (.int .i64 0)]) 16 rfl Try.underlying38 info25 rfl (by decide) (by omega) v585 y584 l2 _ _ _ (fun _ => True) (fun _ => False) rfl rfl ?aO ?aR (fun _ _ h => h) (fun _ h => h.elim) ?aF ?aB ?aS ?aL ?_; (case aR => exact zC (Kd.C_below HR2.out HB.out)); (case aB => exact (zB HB)); (case aF => exact (fun _ _ => trivial)); (case aO => exact (zR HO586.out)); (case aS => exact (below_size (zB HB))); (case aL => have := LMc14.out; omega); intro v588 w30 ho hb hg hat; rw [← Ny587.out] at ho; have n0_ := Aside0.mk (hb); have n1_ := Aside0.mk (ho); clear HB; clear HO586; have HB := n0_; have HO589 := n1_; clear n0_ n1_; clear ho hb hg hat) | ((with_reducible refine gate_callee (f := 24) rfl ?_); refine goesL_ (some 31) rfl rfl Try.func24 (by kernel_rfl) rfl #[.slice A0 l0.length c0, .slice A1 l1.length c1] rfl zM ?_; (with_reducible refine (tapearchiveref34_Subtract.calls kj3 _ _ l0 _ _ l1 t590 _ ?side1 ?side2 ?side3 ?side4 A15.out).mono ?_); (case side1 => exact zC (Kd.C_below HR0.out HB.out)); (case side2 => exact HC0.out); (case side3 => exact zC (Kd.C_below HR1.out HB.out)); (case side4 => exact HC1.out); rintro e w31 ⟨v591, rfl, ho0, hb⟩; refine ⟨_, rfl, ?_⟩; have n0_ := Aside0.mk (Kd.R_elder' (zR HO589.out) (Kd.R_base ho0) hb); have n1_ := Aside0.mk (Kd.R_lower (Kd.R_new' ho0 (Kd.R_lt (zR HO589.out))) (below_size (zB HB))); have n2_ := Aside0.mk (below_step (zB HB) hb); clear HO589; clear HB; have HO589 := n0_; have HO592 := n1_; have HB := n2_; clear n0_ n1_ n2_; (try clear hb); (try clear hb2); (try clear hk); (try clear hi); (try clear ho0); obtain ⟨Ao32, co32, eo32⟩ := Kd.R_slice HO592.out; subst eo32) | ((with_reducible refine gate_callee (f := 23) rfl ?_); refine goesL_ (some 33) rfl rfl Try.func23 (by kernel_rfl) rfl #[.slice Ao32 t590.length co32, .slice A2 l2.length c2] rfl zM ?_; (with_reducible refine (tapearchiveref34_Intersect.calls kj3 _ _ t590 _ _ l2 t593 _ ?side1 ?side2 ?side3 ?side4 A16.out).mono ?_); (case side1 => exact zC (Kd.R_reads' HO592.out).2.2); (case side2 => exact (Kd.R_reads' HO592.out).2.1); (case side3 => exact zC (Kd.C_below HR2.out HB.out)); (case side4 => exact HC2.out); rintro e w33 ⟨v594, rfl, ho0, hb⟩; refine ⟨_, rfl, ?_⟩; have n0_ := Aside0.mk (Kd.R_elder' (zR HO589.out) (Kd.R_base ho0) hb); have n1_ := Aside0.mk (Kd.R_elder' (zR HO592.out) (Kd.R_base ho0) hb); have n2_ := Aside0.mk (Kd.R_lower (Kd.R_new' (Kd.R_new' ho0 (Kd.R_lt (zR HO589.out))) (Kd.R_lt (zR HO592.out))) (below_size (zB HB))); have n3_ := Aside0.mk (below_step (zB HB) hb); clear HO589; clear HO592; clear HB; have HO589 := n0_; have HO592 := n1_; have HO595 := n2_; have HB := n3_; clear n0_ n1_ n2_ n3_; (try clear hb); (try clear hb2); (try clear hk); (try clear hi); (try clear ho0)) | ((with_reducible refine gate_callee (f := 17) rfl ?_); refine goesL_ (some 36) rfl rfl Try.func17 (by kernel_rfl) rfl #[.slice A0 l0.length c0, .slice A1 l1.length c1] rfl zM ?_; (with_reducible refine (prefetch_Waste.calls kj3 _ _ l0 _ _ l1 t596 _ ?side1 ?side2 ?side3 ?side4 A17.out).mono ?_); (case side1 => exact zC (Kd.C_below HR0.out HB.out)); (case side2 => exact HC0.out); (case side3 => exact zC (Kd.C_below HR1.out HB.out)); (case side4 => exact HC1.out); rintro e w34 ⟨rfl, hb⟩; refine ⟨_, rfl, ?_⟩; have n0_ := Aside0.mk (Kd.R_below (zR HO589.out) hb); have n1_ := Aside0.mk (Kd.R_below (zR HO592.out) hb); have n2_ := Aside0.mk (Kd.R_below (zR HO595.out) hb); have n3_ := Aside0.mk (below_step (zB HB) hb); clear HO589; clear HO592; clear HO595; clear HB; have HO589 := n0_; have HO592 := n1_; have HO595 := n2_; have HB := n3_; clear n0_ n1_ n2_ n3_; (try clear hb); (try clear hb2); (try clear hk); (try clear hi)) | ((with_reducible refine gate_callee (f := 18) rfl ?_); refine goesL_ (some 39) rfl rfl Try.func18 (by kernel_rfl) rfl #[.slice A0 l0.length c0, .slice A1 l1.length c1] rfl zM ?_; (with_reducible refine (tapearchiveref36_Waste.calls kj3 _ _ l0 _ _ l1 t597 _ ?side1 ?side2 ?side3 ?side4 A18.out).mono ?_); (case side1 => exact zC (Kd.C_below HR0.out HB.out)); (case side2 => exact HC0.out); (case side3 => exact zC (Kd.C_below HR1.out HB.out)); (case side4 => exact HC1.out); rintro e w35 ⟨rfl, hb⟩; refine ⟨_, rfl, ?_⟩; have n0_ := Aside0.mk (Kd.R_below (zR HO589.out) hb); have n1_ := Aside0.mk (Kd.R_below (zR HO592.out) hb); have n2_ := Aside0.mk (Kd.R_below (zR HO595.out) hb); have n3_ := Aside0.mk (below_step (zB HB) hb); clear HO589; clear HO592; clear HO595; clear HB; have HO589 := n0_; have HO592 := n1_; have HO595 := n2_; have HB := n3_; clear n0_ n1_ n2_ n3_; (try clear hb); (try clear hb2); (try clear hk); (try clear hi); obtain ⟨Ao36, co36, eo36⟩ := Kd.R_slice HO589.out; subst eo36) | (go_at_call 17; (with_reducible refine (prefetch_Waste.calls kj3 _ _ l0 _ _ y587 t598 _ ?side1 ?side2 ?side3 ?side4 A20.out).mono ?_); (case side1 => exact zC (Kd.C_below HR0.out HB.out)); (case side2 => exact HC0.out); (case side3 => exact zC (Kd.R_reads' HO589.out).2.2); (case side4 => exact (Kd.R_reads' HO589.out).2.1); rintro e w37 ⟨rfl, hb⟩; have n0_ := Aside0.mk (Kd.R_below (zR HO589.out) hb); have n1_ := Aside0.mk (Kd.R_below (zR HO592.out) hb); have n2_ := Aside0.mk (Kd.R_below (zR HO595.out) hb); have n3_ := Aside0.mk (below_step (zB HB) hb); clear HO589; clear HO592; clear HO595; clear HB; have HO589 := n0_; have HO592 := n1_; have HO595 := n2_; have HB := n3_; clear n0_ n1_ n2_ n3_; (try clear hb); (try clear hb2); (try clear hk); (try clear hi)) | (go_at_call 17; (with_reducible refine (prefetch_Waste.calls kj3 _ _ l0 _ _ l1 t599 _ ?side1 ?side2 ?side3 ?side4 A21.out).mono ?_); (case side1 => exact zC (Kd.C_below HR0.out HB.out)); (case side2 => exact HC0.out); (case side3 => exact zC (Kd.C_below HR1.out HB.out)); (case side4 => exact HC1.out); rintro e w38 ⟨rfl, hb⟩; have n0_ := Aside0.mk (Kd.R_below (zR HO589.out) hb); have n1_ := Aside0.mk (Kd.R_below (zR HO592.out) hb); have n2_ := Aside0.mk (Kd.R_below (zR HO595.out) hb); have n3_ := Aside0.mk (below_step (zB HB) hb); clear HO589; clear HO592; clear HO595; clear HB; have HO589 := n0_; have HO592 := n1_; have HO595 := n2_; have HB := n3_; clear n0_ n1_ n2_ n3_; (try clear hb); (try clear hb2); (try clear hk); (try clear hi); obtain ⟨Ao39, co39, eo39⟩ := Kd.R_slice HO595.out; subst eo39) | (go_at_call 25; (with_reducible refine (tapearchiveref34_Total.calls kj3 _ _ t593 t600 _ ?side1 ?side2 A22.out).mono ?_); (case side1 => exact zC (Kd.R_reads' HO595.out).2.2); (case side2 => exact (Kd.R_reads' HO595.out).2.1); rintro e w40 ⟨rfl, hb⟩; have n0_ := Aside0.mk (Kd.R_below (zR HO589.out) hb); have n1_ := Aside0.mk (Kd.R_below (zR HO592.out) hb); have n2_ := Aside0.mk (Kd.R_below (zR HO595.out) hb); have n3_ := Aside0.mk (below_step (zB HB) hb); clear HO589; clear HO592; clear HO595; clear HB; have HO589 := n0_; have HO592 := n1_; have HO595 := n2_; have HB := n3_; clear n0_ n1_ n2_ n3_; (try clear hb); (try clear hb2); (try clear hk); (try clear hi)) | (go_at_call 17; (with_reducible refine (prefetch_Waste.calls kj3 _ _ l0 _ _ l0 t601 _ ?side1 ?side2 ?side3 ?side4 A24.out).mono ?_); (case side1 => exact zC (Kd.C_below HR0.out HB.out)); (case side2 => exact HC0.out); (case side3 => exact zC (Kd.C_below HR0.out HB.out)); (case side4 => exact HC0.out); rintro e w41 ⟨rfl, hb⟩; have n0_ := Aside0.mk (Kd.R_below (zR HO589.out) hb); have n1_ := Aside0.mk (Kd.R_below (zR HO592.out) hb); have n2_ := Aside0.mk (Kd.R_below (zR HO595.out) hb); have n3_ := Aside0.mk (below_step (zB HB) hb); clear HO589; clear HO592; clear HO595; clear HB; have HO589 := n0_; have HO592 := n1_; have HO595 := n2_; have HB := n3_; clear n0_ n1_ n2_ n3_; (try clear hb); (try clear hb2); (try clear hk); (try clear hi)) | (go_at_call 12; (with_reducible refine (tapearchivelaw36_awake_s.calls  t602 _ A26.out).mono ?_); rintro e w42 ⟨rfl, hb⟩; have n0_ := Aside0.mk (Kd.R_below (zR HO589.out) hb); have n1_ := Aside0.mk (Kd.R_below (zR HO592.out) hb); have n2_ := Aside0.mk (Kd.R_below (zR HO595.out) hb); have n3_ := Aside0.mk (below_step (zB HB) hb); clear HO589; clear HO592; clear HO595; clear HB; have HO589 := n0_; have HO592 := n1_; have HO595 := n2_; have HB := n3_; clear n0_ n1_ n2_ n3_; (try clear hb); (try clear hb2); (try clear hk); (try clear hi)))
         go_ret
         exact ⟨by first | rfl | (simp [errW_none, errW_some] <;> rfl) | (simp [*, errW_none, errW_some] <;> rfl), by repeat (first | (with_reducible first | exact HB.out | apply below_alloc | apply pw_below_drewN | apply below_drew1) | exact HB.out)⟩
        ·rw [if_neg c25] at H
         have c25b0 : (t601 == 0) = false := beq_eq_false_iff_ne.mpr c25
         have c25b1 : (t601 != 0) = true := bne_iff_ne.mpr c25
         exact absurd (Option.some.inj H) (by rw [ht_.out]; simp)
       ·rw [if_neg c23] at H
        have c23b0 : (t598 == (wrap64 (t599 - t600))) = false := beq_eq_false_iff_ne.mpr c23
        have c23b1 : (t598 != (wrap64 (t599 - t600))) = true := bne_iff_ne.mpr c23
        exact absurd (Option.some.inj H) (by rw [ht_.out]; simp)
      ·rw [if_neg c19] at H
       have c19b0 : (t596 == t597) = false := beq_eq_false_iff_ne.mpr c19
       have c19b1 : (t596 != t597) = true := bne_iff_ne.mpr c19
       exact absurd (Option.some.inj H) (by rw [ht_.out]; simp)
     ·rw [if_neg c14] at H
      exact absurd H (by simp)
    ·rw [if_neg c13] at H
     exact absurd H (by simp)

end
end Go.Proofs.Ytapbmkcncjkanaa.P
