-- Written by this session's wip/tools/px.py out of the translation. Lean checks it.
import Derived.Test.YtcckacamocaofaaP0
import Derived.Test.YtcckacamocaofaaP8
import Derived.Test.YtcckacamocaofaaP9
import Derived.Test.YtcckacamocaofaaP20
import Derived.Test.YtcckacamocaofaaP23
import Derived.Test.YtcckacamocaofaaExtE
import Derived.Test.YtcckacamocaofaaLives
namespace Go.Proofs.Ytcckacamocaofaa.P
noncomputable section
open Go.RowKit Go.Proofs.YtcckacamocaofaaW.PrintWords Go.Proofs.YtcckacamocaofaaW.PrintLast Go.Proofs.YtcckacamocaofaaW.PrintMore
attribute [local go_sem] max2_int min2_int max_two min_two max_three min_three max_four min_four   -- for this text's walks alone
set_option linter.unusedVariables false
set_option linter.unusedSimpArgs false

/-! ### tapearchivelaw34_ExtentAlgebra: function 6 -/
mutual
def tapearchivelaw34_ExtentAlgebra.j0 : Nat → List (S30) → List (S30) → List (S30) → List (S30) → List (S30) → Bool → Option (Bool)
 | 0, _, _, _, _, _, _ => none
 | k + 1, x0, x1, x7, x8, x9, x51 => if x51 = true then (some false) else ((some (([] : List (S30)) : List (S30))).bind fun y503 => (if y503.length + x0.length < 8796093022208 then ((some (y503 ++ x0 : List (S30))).bind fun y506 => (if y506.length + x1.length < 8796093022208 then (tapearchivelaw34_ExtentAlgebra.l0 k x0 x1 x7 x8 x9 (y506 ++ x1) 0) else (none))) else (none)))
def tapearchivelaw34_ExtentAlgebra.l0 : Nat → List (S30) → List (S30) → List (S30) → List (S30) → List (S30) → List (S30) → Int → Option (Bool)
 | 0, _, _, _, _, _, _, _ => none
 | k + 1, x0, x1, x7, x8, x9, x10, x11 => if x11 < (x10.length : Int) then (if 0 ≤ x11 then (if ((rd_T30 x10 x11).f0) < 0 then (tapearchivelaw34_ExtentAlgebra.j2 k x0 x1 x7 x8 x9 x10 x11 true ((rd_T30 x10 x11).f0) ((rd_T30 x10 x11).f1)) else (if ((rd_T30 x10 x11).f0) > 1125899906842624 then (tapearchivelaw34_ExtentAlgebra.j2 k x0 x1 x7 x8 x9 x10 x11 true ((rd_T30 x10 x11).f0) ((rd_T30 x10 x11).f1)) else (if ((rd_T30 x10 x11).f1) < 0 then (tapearchivelaw34_ExtentAlgebra.j2 k x0 x1 x7 x8 x9 x10 x11 true ((rd_T30 x10 x11).f0) ((rd_T30 x10 x11).f1)) else (tapearchivelaw34_ExtentAlgebra.j2 k x0 x1 x7 x8 x9 x10 x11 (decide (((rd_T30 x10 x11).f1) > 1125899906842624)) ((rd_T30 x10 x11).f0) ((rd_T30 x10 x11).f1))))) else (none)) else ((extent_Total.f k x7).bind fun t516 => ((extent_Total.f k x8).bind fun t517 => ((extent_Total.f k x0).bind fun t518 => ((extent_Total.f k x1).bind fun t519 => (if (wrap64 (t516 + t517)) = (wrap64 (t518 + t519)) then ((extent_Total.f k x9).bind fun t520 => ((extent_Total.f k x8).bind fun t521 => ((extent_Total.f k x0).bind fun t522 => (some ((wrap64 (t520 + t521)) == t522))))) else (some false))))))
def tapearchivelaw34_ExtentAlgebra.j2 : Nat → List (S30) → List (S30) → List (S30) → List (S30) → List (S30) → List (S30) → Int → Bool → Int → Int → Option (Bool)
 | 0, _, _, _, _, _, _, _, _, _, _ => none
 | k + 1, x0, x1, x7, x8, x9, x10, x11, x84, x514000, x514001 => if x84 = true then (tapearchivelaw34_ExtentAlgebra.l0 k x0 x1 x7 x8 x9 x10 (wrap64 (x11 + 1))) else (tapearchivelaw34_ExtentAlgebra.l1 k x0 x1 x7 x8 x9 x10 x11 (-1) x514000 x514001)
def tapearchivelaw34_ExtentAlgebra.l1 : Nat → List (S30) → List (S30) → List (S30) → List (S30) → List (S30) → List (S30) → Int → Int → Int → Int → Option (Bool)
 | 0, _, _, _, _, _, _, _, _, _, _ => none
 | k + 1, x0, x1, x7, x8, x9, x10, x11, x13, x514000, x514001 => if x13 ≤ 1 then ((tapearchivelaw34_agree.f k x0 x1 x7 x8 x9 (wrap64 (x514000 + x13))).bind fun t514 => (if t514 = true then ((tapearchivelaw34_agree.f k x0 x1 x7 x8 x9 (wrap64 ((wrap64 (x514000 + x514001)) + x13))).bind fun t515 => (tapearchivelaw34_ExtentAlgebra.j4 k x0 x1 x7 x8 x9 x10 x11 x13 (!t515) x514000 x514001)) else (tapearchivelaw34_ExtentAlgebra.j4 k x0 x1 x7 x8 x9 x10 x11 x13 true x514000 x514001))) else (tapearchivelaw34_ExtentAlgebra.l0 k x0 x1 x7 x8 x9 x10 (wrap64 (x11 + 1)))
def tapearchivelaw34_ExtentAlgebra.j4 : Nat → List (S30) → List (S30) → List (S30) → List (S30) → List (S30) → List (S30) → Int → Int → Bool → Int → Int → Option (Bool)
 | 0, _, _, _, _, _, _, _, _, _, _, _ => none
 | k + 1, x0, x1, x7, x8, x9, x10, x11, x13, x115, x514000, x514001 => if x115 = true then (some false) else (tapearchivelaw34_ExtentAlgebra.l1 k x0 x1 x7 x8 x9 x10 x11 (wrap64 (x13 + 1)) x514000 x514001)
end
def tapearchivelaw34_ExtentAlgebra.f (k : Nat) (l0 : List (S30)) (l1 : List (S30)) (a2 : Int) : Option (Bool) := (tapearchivelaw34_lives_s.f).bind fun t488 => (if t488 = true then ((tapearchivelaw34_few.f l0 l1).bind fun t489 => (if t489 = true then ((extent_Union.f l0 l1).bind fun t490 => ((extent_Intersect.f l0 l1).bind fun t493 => ((extent_Subtract.f l0 l1).bind fun t496 => ((tapearchivelaw34_normal.f k t490).bind fun t499 => (if t499 = true then ((tapearchivelaw34_normal.f k t493).bind fun t500 => (if t500 = true then ((tapearchivelaw34_normal.f k t496).bind fun t501 => (if t501 = true then ((tapearchivelaw34_agree.f k l0 l1 t490 t493 t496 a2).bind fun t502 => (tapearchivelaw34_ExtentAlgebra.j0 k l0 l1 t490 t493 t496 (!t502))) else (tapearchivelaw34_ExtentAlgebra.j0 k l0 l1 t490 t493 t496 true))) else (tapearchivelaw34_ExtentAlgebra.j0 k l0 l1 t490 t493 t496 true))) else (tapearchivelaw34_ExtentAlgebra.j0 k l0 l1 t490 t493 t496 true)))))) else (some true))) else (some false))
theorem tapearchivelaw34_ExtentAlgebra.mono_l : ∀ k, (∀ y0 y1 y2 y3 y4 y5, LeO (tapearchivelaw34_ExtentAlgebra.j0 k y0 y1 y2 y3 y4 y5) (tapearchivelaw34_ExtentAlgebra.j0 (k + 1) y0 y1 y2 y3 y4 y5)) ∧ (∀ y0 y1 y2 y3 y4 y5 y6, LeO (tapearchivelaw34_ExtentAlgebra.l0 k y0 y1 y2 y3 y4 y5 y6) (tapearchivelaw34_ExtentAlgebra.l0 (k + 1) y0 y1 y2 y3 y4 y5 y6)) ∧ (∀ y0 y1 y2 y3 y4 y5 y6 y7 y8 y9, LeO (tapearchivelaw34_ExtentAlgebra.j2 k y0 y1 y2 y3 y4 y5 y6 y7 y8 y9) (tapearchivelaw34_ExtentAlgebra.j2 (k + 1) y0 y1 y2 y3 y4 y5 y6 y7 y8 y9)) ∧ (∀ y0 y1 y2 y3 y4 y5 y6 y7 y8 y9, LeO (tapearchivelaw34_ExtentAlgebra.l1 k y0 y1 y2 y3 y4 y5 y6 y7 y8 y9) (tapearchivelaw34_ExtentAlgebra.l1 (k + 1) y0 y1 y2 y3 y4 y5 y6 y7 y8 y9)) ∧ (∀ y0 y1 y2 y3 y4 y5 y6 y7 y8 y9 y10, LeO (tapearchivelaw34_ExtentAlgebra.j4 k y0 y1 y2 y3 y4 y5 y6 y7 y8 y9 y10) (tapearchivelaw34_ExtentAlgebra.j4 (k + 1) y0 y1 y2 y3 y4 y5 y6 y7 y8 y9 y10))
 | 0 => ⟨fun _ _ _ _ _ _ r h => by simp [tapearchivelaw34_ExtentAlgebra.j0] at h, fun _ _ _ _ _ _ _ r h => by simp [tapearchivelaw34_ExtentAlgebra.l0] at h, fun _ _ _ _ _ _ _ _ _ _ r h => by simp [tapearchivelaw34_ExtentAlgebra.j2] at h, fun _ _ _ _ _ _ _ _ _ _ r h => by simp [tapearchivelaw34_ExtentAlgebra.l1] at h, fun _ _ _ _ _ _ _ _ _ _ _ r h => by simp [tapearchivelaw34_ExtentAlgebra.j4] at h⟩
 | k + 1 => by
  obtain ⟨ih0, ih1, ih2, ih3, ih4⟩ := tapearchivelaw34_ExtentAlgebra.mono_l k
  refine ⟨?_, ?_, ?_, ?_, ?_⟩
  ·intro y0 y1 y2 y3 y4 y5
   unfold tapearchivelaw34_ExtentAlgebra.j0
   repeat' first
   | (with_reducible exact ih0 _ _ _ _ _ _)
   | (with_reducible exact ih1 _ _ _ _ _ _ _)
   | (with_reducible exact ih2 _ _ _ _ _ _ _ _ _ _)
   | (with_reducible exact ih3 _ _ _ _ _ _ _ _ _ _)
   | (with_reducible exact ih4 _ _ _ _ _ _ _ _ _ _ _)
   | (with_reducible exact extent_Total.mono _ _)
   | (with_reducible exact tapearchivelaw34_agree.mono _ _ _ _ _ _ _)
   | (with_reducible exact tapearchivelaw34_normal.mono _ _)
   | (with_reducible exact LeO.refl _)
   | (with_reducible exact LeO.none _)
   | (with_reducible refine LeO.ite ?_ ?_)
   | (with_reducible refine LeO.bind ?_ (fun _ => ?_))
   | exact ih0 _ _ _ _ _ _
   | exact ih1 _ _ _ _ _ _ _
   | exact ih2 _ _ _ _ _ _ _ _ _ _
   | exact ih3 _ _ _ _ _ _ _ _ _ _
   | exact ih4 _ _ _ _ _ _ _ _ _ _ _
   | exact extent_Total.mono _ _
   | exact tapearchivelaw34_agree.mono _ _ _ _ _ _ _
   | exact tapearchivelaw34_normal.mono _ _
   | exact LeO.none _
   | refine LeO.ite ?_ ?_
   | refine LeO.bind ?_ (fun _ => ?_)
  ·intro y0 y1 y2 y3 y4 y5 y6
   unfold tapearchivelaw34_ExtentAlgebra.l0
   repeat' first
   | (with_reducible exact ih0 _ _ _ _ _ _)
   | (with_reducible exact ih1 _ _ _ _ _ _ _)
   | (with_reducible exact ih2 _ _ _ _ _ _ _ _ _ _)
   | (with_reducible exact ih3 _ _ _ _ _ _ _ _ _ _)
   | (with_reducible exact ih4 _ _ _ _ _ _ _ _ _ _ _)
   | (with_reducible exact extent_Total.mono _ _)
   | (with_reducible exact tapearchivelaw34_agree.mono _ _ _ _ _ _ _)
   | (with_reducible exact tapearchivelaw34_normal.mono _ _)
   | (with_reducible exact LeO.refl _)
   | (with_reducible exact LeO.none _)
   | (with_reducible refine LeO.ite ?_ ?_)
   | (with_reducible refine LeO.bind ?_ (fun _ => ?_))
   | exact ih0 _ _ _ _ _ _
   | exact ih1 _ _ _ _ _ _ _
   | exact ih2 _ _ _ _ _ _ _ _ _ _
   | exact ih3 _ _ _ _ _ _ _ _ _ _
   | exact ih4 _ _ _ _ _ _ _ _ _ _ _
   | exact extent_Total.mono _ _
   | exact tapearchivelaw34_agree.mono _ _ _ _ _ _ _
   | exact tapearchivelaw34_normal.mono _ _
   | exact LeO.none _
   | refine LeO.ite ?_ ?_
   | refine LeO.bind ?_ (fun _ => ?_)
  ·intro y0 y1 y2 y3 y4 y5 y6 y7 y8 y9
   unfold tapearchivelaw34_ExtentAlgebra.j2
   repeat' first
   | (with_reducible exact ih0 _ _ _ _ _ _)
   | (with_reducible exact ih1 _ _ _ _ _ _ _)
   | (with_reducible exact ih2 _ _ _ _ _ _ _ _ _ _)
   | (with_reducible exact ih3 _ _ _ _ _ _ _ _ _ _)
   | (with_reducible exact ih4 _ _ _ _ _ _ _ _ _ _ _)
   | (with_reducible exact extent_Total.mono _ _)
   | (with_reducible exact tapearchivelaw34_agree.mono _ _ _ _ _ _ _)
   | (with_reducible exact tapearchivelaw34_normal.mono _ _)
   | (with_reducible exact LeO.refl _)
   | (with_reducible exact LeO.none _)
   | (with_reducible refine LeO.ite ?_ ?_)
   | (with_reducible refine LeO.bind ?_ (fun _ => ?_))
   | exact ih0 _ _ _ _ _ _
   | exact ih1 _ _ _ _ _ _ _
   | exact ih2 _ _ _ _ _ _ _ _ _ _
   | exact ih3 _ _ _ _ _ _ _ _ _ _
   | exact ih4 _ _ _ _ _ _ _ _ _ _ _
   | exact extent_Total.mono _ _
   | exact tapearchivelaw34_agree.mono _ _ _ _ _ _ _
   | exact tapearchivelaw34_normal.mono _ _
   | exact LeO.none _
   | refine LeO.ite ?_ ?_
   | refine LeO.bind ?_ (fun _ => ?_)
  ·intro y0 y1 y2 y3 y4 y5 y6 y7 y8 y9
   unfold tapearchivelaw34_ExtentAlgebra.l1
   repeat' first
   | (with_reducible exact ih0 _ _ _ _ _ _)
   | (with_reducible exact ih1 _ _ _ _ _ _ _)
   | (with_reducible exact ih2 _ _ _ _ _ _ _ _ _ _)
   | (with_reducible exact ih3 _ _ _ _ _ _ _ _ _ _)
   | (with_reducible exact ih4 _ _ _ _ _ _ _ _ _ _ _)
   | (with_reducible exact extent_Total.mono _ _)
   | (with_reducible exact tapearchivelaw34_agree.mono _ _ _ _ _ _ _)
   | (with_reducible exact tapearchivelaw34_normal.mono _ _)
   | (with_reducible exact LeO.refl _)
   | (with_reducible exact LeO.none _)
   | (with_reducible refine LeO.ite ?_ ?_)
   | (with_reducible refine LeO.bind ?_ (fun _ => ?_))
   | exact ih0 _ _ _ _ _ _
   | exact ih1 _ _ _ _ _ _ _
   | exact ih2 _ _ _ _ _ _ _ _ _ _
   | exact ih3 _ _ _ _ _ _ _ _ _ _
   | exact ih4 _ _ _ _ _ _ _ _ _ _ _
   | exact extent_Total.mono _ _
   | exact tapearchivelaw34_agree.mono _ _ _ _ _ _ _
   | exact tapearchivelaw34_normal.mono _ _
   | exact LeO.none _
   | refine LeO.ite ?_ ?_
   | refine LeO.bind ?_ (fun _ => ?_)
  ·intro y0 y1 y2 y3 y4 y5 y6 y7 y8 y9 y10
   unfold tapearchivelaw34_ExtentAlgebra.j4
   repeat' first
   | (with_reducible exact ih0 _ _ _ _ _ _)
   | (with_reducible exact ih1 _ _ _ _ _ _ _)
   | (with_reducible exact ih2 _ _ _ _ _ _ _ _ _ _)
   | (with_reducible exact ih3 _ _ _ _ _ _ _ _ _ _)
   | (with_reducible exact ih4 _ _ _ _ _ _ _ _ _ _ _)
   | (with_reducible exact extent_Total.mono _ _)
   | (with_reducible exact tapearchivelaw34_agree.mono _ _ _ _ _ _ _)
   | (with_reducible exact tapearchivelaw34_normal.mono _ _)
   | (with_reducible exact LeO.refl _)
   | (with_reducible exact LeO.none _)
   | (with_reducible refine LeO.ite ?_ ?_)
   | (with_reducible refine LeO.bind ?_ (fun _ => ?_))
   | exact ih0 _ _ _ _ _ _
   | exact ih1 _ _ _ _ _ _ _
   | exact ih2 _ _ _ _ _ _ _ _ _ _
   | exact ih3 _ _ _ _ _ _ _ _ _ _
   | exact ih4 _ _ _ _ _ _ _ _ _ _ _
   | exact extent_Total.mono _ _
   | exact tapearchivelaw34_agree.mono _ _ _ _ _ _ _
   | exact tapearchivelaw34_normal.mono _ _
   | exact LeO.none _
   | refine LeO.ite ?_ ?_
   | refine LeO.bind ?_ (fun _ => ?_)
theorem tapearchivelaw34_ExtentAlgebra.mono : ∀ a0 a1 a2 k, LeO (tapearchivelaw34_ExtentAlgebra.f k a0 a1 a2) (tapearchivelaw34_ExtentAlgebra.f (k + 1) a0 a1 a2) := by
 intro a0 a1 a2 k
 obtain ⟨ih0, ih1, ih2, ih3, ih4⟩ := tapearchivelaw34_ExtentAlgebra.mono_l k
 unfold tapearchivelaw34_ExtentAlgebra.f
 repeat' first
   | (with_reducible exact ih0 _ _ _ _ _ _)
   | (with_reducible exact ih1 _ _ _ _ _ _ _)
   | (with_reducible exact ih2 _ _ _ _ _ _ _ _ _ _)
   | (with_reducible exact ih3 _ _ _ _ _ _ _ _ _ _)
   | (with_reducible exact ih4 _ _ _ _ _ _ _ _ _ _ _)
   | (with_reducible exact extent_Total.mono _ _)
   | (with_reducible exact tapearchivelaw34_agree.mono _ _ _ _ _ _ _)
   | (with_reducible exact tapearchivelaw34_normal.mono _ _)
   | (with_reducible exact LeO.refl _)
   | (with_reducible exact LeO.none _)
   | (with_reducible refine LeO.ite ?_ ?_)
   | (with_reducible refine LeO.bind ?_ (fun _ => ?_))
   | exact ih0 _ _ _ _ _ _
   | exact ih1 _ _ _ _ _ _ _
   | exact ih2 _ _ _ _ _ _ _ _ _ _
   | exact ih3 _ _ _ _ _ _ _ _ _ _
   | exact ih4 _ _ _ _ _ _ _ _ _ _ _
   | exact extent_Total.mono _ _
   | exact tapearchivelaw34_agree.mono _ _ _ _ _ _ _
   | exact tapearchivelaw34_normal.mono _ _
   | exact LeO.none _
   | refine LeO.ite ?_ ?_
   | refine LeO.bind ?_ (fun _ => ?_)
set_option maxHeartbeats 8000000 in
set_option maxRecDepth 100000 in
theorem tapearchivelaw34_ExtentAlgebra.calls (k : Nat) (A0 : Option Addr) (c0 : Nat) (l0 : List (S30)) (A1 : Option Addr) (c1 : Nat) (l1 : List (S30)) (a2 : Int) (r : Bool) (w : World) (hr0 : Kd.C k30 w A0 l0.length l0) (hc0 : l0.length ≤ c0) (hr1 : Kd.C k30 w A1 l1.length l1) (hc1 : l1.length ≤ c1) (ht_ : Aside0 (r = true)) (h : tapearchivelaw34_ExtentAlgebra.f k l0 l1 a2 = some r) :
  Calls Try.prog 6 #[.slice A0 l0.length c0, .slice A1 l1.length c1, .int .i64 a2] w fun e w' => e = .returned (.bool r) ∧ Below w.heap.size w w' := by
 have hu30 := Try.underlying30
 have HR0 := Aside0.mk hr0
 have HC0 := Aside0.mk hc0
 clear hr0 hc0
 have HR1 := Aside0.mk hr1
 have HC1 := Aside0.mk hc1
 clear hr1 hc1
 have HB := Aside0.mk (Below.refl w.heap.size w)
 have H : ((tapearchivelaw34_lives_s.f).bind fun t488 => (if t488 = true then ((tapearchivelaw34_few.f l0 l1).bind fun t489 => (if t489 = true then ((extent_Union.f l0 l1).bind fun t490 => ((extent_Intersect.f l0 l1).bind fun t493 => ((extent_Subtract.f l0 l1).bind fun t496 => ((tapearchivelaw34_normal.f k t490).bind fun t499 => (if t499 = true then ((tapearchivelaw34_normal.f k t493).bind fun t500 => (if t500 = true then ((tapearchivelaw34_normal.f k t496).bind fun t501 => (if t501 = true then ((tapearchivelaw34_agree.f k l0 l1 t490 t493 t496 a2).bind fun t502 => (tapearchivelaw34_ExtentAlgebra.j0 k l0 l1 t490 t493 t496 (!t502))) else (tapearchivelaw34_ExtentAlgebra.j0 k l0 l1 t490 t493 t496 true))) else (tapearchivelaw34_ExtentAlgebra.j0 k l0 l1 t490 t493 t496 true))) else (tapearchivelaw34_ExtentAlgebra.j0 k l0 l1 t490 t493 t496 true)))))) else (some true))) else (some false))) = some r := h
 clear h
 replace H := Option.bind_eq_some_iff.mp H
 obtain ⟨t488, A40, H⟩ := H
 replace H : (if t488 = true then ((tapearchivelaw34_few.f l0 l1).bind fun t489 => (if t489 = true then ((extent_Union.f l0 l1).bind fun t490 => ((extent_Intersect.f l0 l1).bind fun t493 => ((extent_Subtract.f l0 l1).bind fun t496 => ((tapearchivelaw34_normal.f k t490).bind fun t499 => (if t499 = true then ((tapearchivelaw34_normal.f k t493).bind fun t500 => (if t500 = true then ((tapearchivelaw34_normal.f k t496).bind fun t501 => (if t501 = true then ((tapearchivelaw34_agree.f k l0 l1 t490 t493 t496 a2).bind fun t502 => (tapearchivelaw34_ExtentAlgebra.j0 k l0 l1 t490 t493 t496 (!t502))) else (tapearchivelaw34_ExtentAlgebra.j0 k l0 l1 t490 t493 t496 true))) else (tapearchivelaw34_ExtentAlgebra.j0 k l0 l1 t490 t493 t496 true))) else (tapearchivelaw34_ExtentAlgebra.j0 k l0 l1 t490 t493 t496 true)))))) else (some true))) else (some false)) = some r := H
 have A4 := Aside0.mk A40
 clear A40
 by_cases c5 : t488 = true
 ·subst c5
  have H1 : ((tapearchivelaw34_few.f l0 l1).bind fun t489 => (if t489 = true then ((extent_Union.f l0 l1).bind fun t490 => ((extent_Intersect.f l0 l1).bind fun t493 => ((extent_Subtract.f l0 l1).bind fun t496 => ((tapearchivelaw34_normal.f k t490).bind fun t499 => (if t499 = true then ((tapearchivelaw34_normal.f k t493).bind fun t500 => (if t500 = true then ((tapearchivelaw34_normal.f k t496).bind fun t501 => (if t501 = true then ((tapearchivelaw34_agree.f k l0 l1 t490 t493 t496 a2).bind fun t502 => (tapearchivelaw34_ExtentAlgebra.j0 k l0 l1 t490 t493 t496 (!t502))) else (tapearchivelaw34_ExtentAlgebra.j0 k l0 l1 t490 t493 t496 true))) else (tapearchivelaw34_ExtentAlgebra.j0 k l0 l1 t490 t493 t496 true))) else (tapearchivelaw34_ExtentAlgebra.j0 k l0 l1 t490 t493 t496 true)))))) else (some true))) = some r := by rw [if_pos rfl] at H; exact H
  clear H
  have H := H1
  clear H1
  replace H := Option.bind_eq_some_iff.mp H
  obtain ⟨t489, A60, H⟩ := H
  replace H : (if t489 = true then ((extent_Union.f l0 l1).bind fun t490 => ((extent_Intersect.f l0 l1).bind fun t493 => ((extent_Subtract.f l0 l1).bind fun t496 => ((tapearchivelaw34_normal.f k t490).bind fun t499 => (if t499 = true then ((tapearchivelaw34_normal.f k t493).bind fun t500 => (if t500 = true then ((tapearchivelaw34_normal.f k t496).bind fun t501 => (if t501 = true then ((tapearchivelaw34_agree.f k l0 l1 t490 t493 t496 a2).bind fun t502 => (tapearchivelaw34_ExtentAlgebra.j0 k l0 l1 t490 t493 t496 (!t502))) else (tapearchivelaw34_ExtentAlgebra.j0 k l0 l1 t490 t493 t496 true))) else (tapearchivelaw34_ExtentAlgebra.j0 k l0 l1 t490 t493 t496 true))) else (tapearchivelaw34_ExtentAlgebra.j0 k l0 l1 t490 t493 t496 true)))))) else (some true)) = some r := H
  have A6 := Aside0.mk A60
  clear A60
  by_cases c7 : t489 = true
  ·subst c7
   have H1 : ((extent_Union.f l0 l1).bind fun t490 => ((extent_Intersect.f l0 l1).bind fun t493 => ((extent_Subtract.f l0 l1).bind fun t496 => ((tapearchivelaw34_normal.f k t490).bind fun t499 => (if t499 = true then ((tapearchivelaw34_normal.f k t493).bind fun t500 => (if t500 = true then ((tapearchivelaw34_normal.f k t496).bind fun t501 => (if t501 = true then ((tapearchivelaw34_agree.f k l0 l1 t490 t493 t496 a2).bind fun t502 => (tapearchivelaw34_ExtentAlgebra.j0 k l0 l1 t490 t493 t496 (!t502))) else (tapearchivelaw34_ExtentAlgebra.j0 k l0 l1 t490 t493 t496 true))) else (tapearchivelaw34_ExtentAlgebra.j0 k l0 l1 t490 t493 t496 true))) else (tapearchivelaw34_ExtentAlgebra.j0 k l0 l1 t490 t493 t496 true)))))) = some r := by rw [if_pos rfl] at H; exact H
   clear H
   have H := H1
   clear H1
   replace H := Option.bind_eq_some_iff.mp H
   obtain ⟨t490, A80, H⟩ := H
   replace H : ((extent_Intersect.f l0 l1).bind fun t493 => ((extent_Subtract.f l0 l1).bind fun t496 => ((tapearchivelaw34_normal.f k t490).bind fun t499 => (if t499 = true then ((tapearchivelaw34_normal.f k t493).bind fun t500 => (if t500 = true then ((tapearchivelaw34_normal.f k t496).bind fun t501 => (if t501 = true then ((tapearchivelaw34_agree.f k l0 l1 t490 t493 t496 a2).bind fun t502 => (tapearchivelaw34_ExtentAlgebra.j0 k l0 l1 t490 t493 t496 (!t502))) else (tapearchivelaw34_ExtentAlgebra.j0 k l0 l1 t490 t493 t496 true))) else (tapearchivelaw34_ExtentAlgebra.j0 k l0 l1 t490 t493 t496 true))) else (tapearchivelaw34_ExtentAlgebra.j0 k l0 l1 t490 t493 t496 true))))) = some r := H
   have A8 := Aside0.mk A80
   clear A80
   replace H := Option.bind_eq_some_iff.mp H
   obtain ⟨t493, A90, H⟩ := H
   replace H : ((extent_Subtract.f l0 l1).bind fun t496 => ((tapearchivelaw34_normal.f k t490).bind fun t499 => (if t499 = true then ((tapearchivelaw34_normal.f k t493).bind fun t500 => (if t500 = true then ((tapearchivelaw34_normal.f k t496).bind fun t501 => (if t501 = true then ((tapearchivelaw34_agree.f k l0 l1 t490 t493 t496 a2).bind fun t502 => (tapearchivelaw34_ExtentAlgebra.j0 k l0 l1 t490 t493 t496 (!t502))) else (tapearchivelaw34_ExtentAlgebra.j0 k l0 l1 t490 t493 t496 true))) else (tapearchivelaw34_ExtentAlgebra.j0 k l0 l1 t490 t493 t496 true))) else (tapearchivelaw34_ExtentAlgebra.j0 k l0 l1 t490 t493 t496 true)))) = some r := H
   have A9 := Aside0.mk A90
   clear A90
   replace H := Option.bind_eq_some_iff.mp H
   obtain ⟨t496, A100, H⟩ := H
   replace H : ((tapearchivelaw34_normal.f k t490).bind fun t499 => (if t499 = true then ((tapearchivelaw34_normal.f k t493).bind fun t500 => (if t500 = true then ((tapearchivelaw34_normal.f k t496).bind fun t501 => (if t501 = true then ((tapearchivelaw34_agree.f k l0 l1 t490 t493 t496 a2).bind fun t502 => (tapearchivelaw34_ExtentAlgebra.j0 k l0 l1 t490 t493 t496 (!t502))) else (tapearchivelaw34_ExtentAlgebra.j0 k l0 l1 t490 t493 t496 true))) else (tapearchivelaw34_ExtentAlgebra.j0 k l0 l1 t490 t493 t496 true))) else (tapearchivelaw34_ExtentAlgebra.j0 k l0 l1 t490 t493 t496 true))) = some r := H
   have A10 := Aside0.mk A100
   clear A100
   have HC11 := Aside0.mk H
   clear H
   go_enter Try.func6, Try.ntmps6
   go_upto_region 6 with (first | ((with_reducible refine gate_callee (f := 8) rfl ?_); refine goesL_ (some 14) rfl rfl Try.func8 (by kernel_rfl) rfl #[] rfl zM ?_; (with_reducible refine (tapearchivelaw34_lives_s.calls  true _ A4.out).mono ?_); rintro e w12 ⟨rfl, hb⟩; refine ⟨_, rfl, ?_⟩; have n0_ := Aside0.mk (below_step (zB HB) hb); clear HB; have HB := n0_; clear n0_; (try clear hb); (try clear hb2); (try clear hk); (try clear hi)) | ((with_reducible refine gate_callee (f := 9) rfl ?_); refine goesL_ (some 18) rfl rfl Try.func9 (by kernel_rfl) rfl #[.slice A0 l0.length c0, .slice A1 l1.length c1] rfl zM ?_; (with_reducible refine (tapearchivelaw34_few.calls _ _ l0 _ _ l1 true _ ?side1 ?side2 ?side3 ?side4 A6.out).mono ?_); (case side1 => exact zC (Kd.C_below HR0.out HB.out)); (case side2 => exact HC0.out); (case side3 => exact zC (Kd.C_below HR1.out HB.out)); (case side4 => exact HC1.out); rintro e w' ⟨rfl, ⟨nd, rfl⟩⟩; refine ⟨_, rfl, ?_⟩) | ((with_reducible refine gate_callee (f := 18) rfl ?_); refine goesL_ (some 22) rfl rfl Try.func18 (by kernel_rfl) rfl #[.slice A0 l0.length c0, .slice A1 l1.length c1] rfl zM ?_; (with_reducible refine (extent_Union.calls _ _ l0 _ _ l1 t490 _ ?side1 ?side2 ?side3 ?side4 A8.out).mono ?_); (case side1 => repeat (first | exact (Kd.C_below HR0.out (zB HB)) | (with_reducible refine Kd.C_alloc ?_ _) | (with_reducible refine Kd.C_drewN ?_ _) | (with_reducible refine Kd.C_drew ?_))); (case side2 => exact HC0.out); (case side3 => repeat (first | exact (Kd.C_below HR1.out (zB HB)) | (with_reducible refine Kd.C_alloc ?_ _) | (with_reducible refine Kd.C_drewN ?_ _) | (with_reducible refine Kd.C_drew ?_))); (case side4 => exact HC1.out); rintro e w13 ⟨v491, rfl, ho0, hb⟩; refine ⟨_, rfl, ?_⟩; have n0_ := Aside0.mk (Kd.R_lower ho0 (below_size (zB HB))); have n1_ := Aside0.mk (below_step (zB HB) hb); clear HB; have HO492 := n0_; have HB := n1_; clear n0_ n1_; (try clear hb); (try clear hb2); (try clear hk); (try clear hi); (try clear ho0)) | ((with_reducible refine gate_callee (f := 19) rfl ?_); refine goesL_ (some 25) rfl rfl Try.func19 (by kernel_rfl) rfl #[.slice A0 l0.length c0, .slice A1 l1.length c1] rfl zM ?_; (with_reducible refine (extent_Intersect.calls _ _ l0 _ _ l1 t493 _ ?side1 ?side2 ?side3 ?side4 A9.out).mono ?_); (case side1 => exact zC (Kd.C_below HR0.out HB.out)); (case side2 => exact HC0.out); (case side3 => exact zC (Kd.C_below HR1.out HB.out)); (case side4 => exact HC1.out); rintro e w14 ⟨v494, rfl, ho0, hb⟩; refine ⟨_, rfl, ?_⟩; have n0_ := Aside0.mk (Kd.R_elder' (zR HO492.out) (Kd.R_base ho0) hb); have n1_ := Aside0.mk (Kd.R_lower (Kd.R_new' ho0 (Kd.R_lt (zR HO492.out))) (below_size (zB HB))); have n2_ := Aside0.mk (below_step (zB HB) hb); clear HO492; clear HB; have HO492 := n0_; have HO495 := n1_; have HB := n2_; clear n0_ n1_ n2_; (try clear hb); (try clear hb2); (try clear hk); (try clear hi); (try clear ho0)) | ((with_reducible refine gate_callee (f := 17) rfl ?_); refine goesL_ (some 28) rfl rfl Try.func17 (by kernel_rfl) rfl #[.slice A0 l0.length c0, .slice A1 l1.length c1] rfl zM ?_; (with_reducible refine (extent_Subtract.calls _ _ l0 _ _ l1 t496 _ ?side1 ?side2 ?side3 ?side4 A10.out).mono ?_); (case side1 => exact zC (Kd.C_below HR0.out HB.out)); (case side2 => exact HC0.out); (case side3 => exact zC (Kd.C_below HR1.out HB.out)); (case side4 => exact HC1.out); rintro e w15 ⟨v497, rfl, ho0, hb⟩; refine ⟨_, rfl, ?_⟩; have n0_ := Aside0.mk (Kd.R_elder' (zR HO492.out) (Kd.R_base ho0) hb); have n1_ := Aside0.mk (Kd.R_elder' (zR HO495.out) (Kd.R_base ho0) hb); have n2_ := Aside0.mk (Kd.R_lower (Kd.R_new' (Kd.R_new' ho0 (Kd.R_lt (zR HO492.out))) (Kd.R_lt (zR HO495.out))) (below_size (zB HB))); have n3_ := Aside0.mk (below_step (zB HB) hb); clear HO492; clear HO495; clear HB; have HO492 := n0_; have HO495 := n1_; have HO498 := n2_; have HB := n3_; clear n0_ n1_ n2_ n3_; (try clear hb); (try clear hb2); (try clear hk); (try clear hi); (try clear ho0)))
   (try simp only [Act.put, List.setIfInBounds_toArray, List.set_cons_zero, List.set_cons_succ])
   go_cut [51] (fun v51 wc => ∃ (kq : Nat) (x51_10 : Bool), v51 = .bool x51_10 ∧ Aside0 (tapearchivelaw34_ExtentAlgebra.j0 kq l0 l1 t490 t493 t496 x51_10 = some r) ∧ Aside0 (kq ≤ k) ∧ Aside0 (Kd.R k30 30 wc w.heap.size (fun k_ => some k_ ≠ (v494 : Value).ownBlock ∧ some k_ ≠ (v497 : Value).ownBlock) v491 t490) ∧ Aside0 (Kd.R k30 30 wc w.heap.size (fun k_ => some k_ ≠ (v491 : Value).ownBlock ∧ some k_ ≠ (v497 : Value).ownBlock) v494 t493) ∧ Aside0 (Kd.R k30 30 wc w.heap.size (fun k_ => some k_ ≠ (v491 : Value).ownBlock ∧ some k_ ≠ (v494 : Value).ownBlock) v497 t496) ∧ Aside0 (Below w.heap.size w wc))
   case first =>
    have H := HC11.out
    clear HC11
    replace H := Option.bind_eq_some_iff.mp H
    obtain ⟨t499, A160, H⟩ := H
    replace H : (if t499 = true then ((tapearchivelaw34_normal.f k t493).bind fun t500 => (if t500 = true then ((tapearchivelaw34_normal.f k t496).bind fun t501 => (if t501 = true then ((tapearchivelaw34_agree.f k l0 l1 t490 t493 t496 a2).bind fun t502 => (tapearchivelaw34_ExtentAlgebra.j0 k l0 l1 t490 t493 t496 (!t502))) else (tapearchivelaw34_ExtentAlgebra.j0 k l0 l1 t490 t493 t496 true))) else (tapearchivelaw34_ExtentAlgebra.j0 k l0 l1 t490 t493 t496 true))) else (tapearchivelaw34_ExtentAlgebra.j0 k l0 l1 t490 t493 t496 true)) = some r := H
    have A16 := Aside0.mk A160
    clear A160
    by_cases c17 : t499 = true
    ·subst c17
     have H1 : ((tapearchivelaw34_normal.f k t493).bind fun t500 => (if t500 = true then ((tapearchivelaw34_normal.f k t496).bind fun t501 => (if t501 = true then ((tapearchivelaw34_agree.f k l0 l1 t490 t493 t496 a2).bind fun t502 => (tapearchivelaw34_ExtentAlgebra.j0 k l0 l1 t490 t493 t496 (!t502))) else (tapearchivelaw34_ExtentAlgebra.j0 k l0 l1 t490 t493 t496 true))) else (tapearchivelaw34_ExtentAlgebra.j0 k l0 l1 t490 t493 t496 true))) = some r := by rw [if_pos rfl] at H; exact H
     clear H
     have H := H1
     clear H1
     replace H := Option.bind_eq_some_iff.mp H
     obtain ⟨t500, A180, H⟩ := H
     replace H : (if t500 = true then ((tapearchivelaw34_normal.f k t496).bind fun t501 => (if t501 = true then ((tapearchivelaw34_agree.f k l0 l1 t490 t493 t496 a2).bind fun t502 => (tapearchivelaw34_ExtentAlgebra.j0 k l0 l1 t490 t493 t496 (!t502))) else (tapearchivelaw34_ExtentAlgebra.j0 k l0 l1 t490 t493 t496 true))) else (tapearchivelaw34_ExtentAlgebra.j0 k l0 l1 t490 t493 t496 true)) = some r := H
     have A18 := Aside0.mk A180
     clear A180
     by_cases c19 : t500 = true
     ·subst c19
      have H1 : ((tapearchivelaw34_normal.f k t496).bind fun t501 => (if t501 = true then ((tapearchivelaw34_agree.f k l0 l1 t490 t493 t496 a2).bind fun t502 => (tapearchivelaw34_ExtentAlgebra.j0 k l0 l1 t490 t493 t496 (!t502))) else (tapearchivelaw34_ExtentAlgebra.j0 k l0 l1 t490 t493 t496 true))) = some r := by rw [if_pos rfl] at H; exact H
      clear H
      have H := H1
      clear H1
      replace H := Option.bind_eq_some_iff.mp H
      obtain ⟨t501, A200, H⟩ := H
      replace H : (if t501 = true then ((tapearchivelaw34_agree.f k l0 l1 t490 t493 t496 a2).bind fun t502 => (tapearchivelaw34_ExtentAlgebra.j0 k l0 l1 t490 t493 t496 (!t502))) else (tapearchivelaw34_ExtentAlgebra.j0 k l0 l1 t490 t493 t496 true)) = some r := H
      have A20 := Aside0.mk A200
      clear A200
      by_cases c21 : t501 = true
      ·subst c21
       have H1 : ((tapearchivelaw34_agree.f k l0 l1 t490 t493 t496 a2).bind fun t502 => (tapearchivelaw34_ExtentAlgebra.j0 k l0 l1 t490 t493 t496 (!t502))) = some r := by rw [if_pos rfl] at H; exact H
       clear H
       have H := H1
       clear H1
       replace H := Option.bind_eq_some_iff.mp H
       obtain ⟨t502, A220, H⟩ := H
       replace H : (tapearchivelaw34_ExtentAlgebra.j0 k l0 l1 t490 t493 t496 (!t502)) = some r := H
       have A22 := Aside0.mk A220
       clear A220
       have H' := Aside0.mk H
       clear H
       obtain ⟨Ao23, co23, eo23⟩ := Kd.R_slice HO492.out
       subst eo23
       go_wp2_with (first | ((with_reducible refine gate_callee (f := 16) rfl ?_); refine goesL_ (some 30) rfl rfl Try.func16 (by kernel_rfl) rfl #[.slice Ao23 t490.length co23] rfl zM ?_; (with_reducible refine (tapearchivelaw34_normal.calls k _ _ t490 true _ ?side1 ?side2 A16.out).mono ?_); (case side1 => exact zC (Kd.R_reads' HO492.out).2.2); (case side2 => exact (Kd.R_reads' HO492.out).2.1); rintro e w24 ⟨rfl, hb⟩; refine ⟨_, rfl, ?_⟩; have n0_ := Aside0.mk (Kd.R_below (zR HO492.out) hb); have n1_ := Aside0.mk (Kd.R_below (zR HO495.out) hb); have n2_ := Aside0.mk (Kd.R_below (zR HO498.out) hb); have n3_ := Aside0.mk (below_step (zB HB) hb); clear HO492; clear HO495; clear HO498; clear HB; have HO492 := n0_; have HO495 := n1_; have HO498 := n2_; have HB := n3_; clear n0_ n1_ n2_ n3_; (try clear hb); (try clear hb2); (try clear hk); (try clear hi); obtain ⟨Ao25, co25, eo25⟩ := Kd.R_slice HO495.out; subst eo25) | (go_at_call 16; (with_reducible refine (tapearchivelaw34_normal.calls k _ _ t493 true _ ?side1 ?side2 A18.out).mono ?_); (case side1 => exact zC (Kd.R_reads' HO495.out).2.2); (case side2 => exact (Kd.R_reads' HO495.out).2.1); rintro e w26 ⟨rfl, hb⟩; have n0_ := Aside0.mk (Kd.R_below (zR HO492.out) hb); have n1_ := Aside0.mk (Kd.R_below (zR HO495.out) hb); have n2_ := Aside0.mk (Kd.R_below (zR HO498.out) hb); have n3_ := Aside0.mk (below_step (zB HB) hb); clear HO492; clear HO495; clear HO498; clear HB; have HO492 := n0_; have HO495 := n1_; have HO498 := n2_; have HB := n3_; clear n0_ n1_ n2_ n3_; (try clear hb); (try clear hb2); (try clear hk); (try clear hi); obtain ⟨Ao27, co27, eo27⟩ := Kd.R_slice HO498.out; subst eo27) | (go_at_call 16; (with_reducible refine (tapearchivelaw34_normal.calls k _ _ t496 true _ ?side1 ?side2 A20.out).mono ?_); (case side1 => exact zC (Kd.R_reads' HO498.out).2.2); (case side2 => exact (Kd.R_reads' HO498.out).2.1); rintro e w28 ⟨rfl, hb⟩; have n0_ := Aside0.mk (Kd.R_below (zR HO492.out) hb); have n1_ := Aside0.mk (Kd.R_below (zR HO495.out) hb); have n2_ := Aside0.mk (Kd.R_below (zR HO498.out) hb); have n3_ := Aside0.mk (below_step (zB HB) hb); clear HO492; clear HO495; clear HO498; clear HB; have HO492 := n0_; have HO495 := n1_; have HO498 := n2_; have HB := n3_; clear n0_ n1_ n2_ n3_; (try clear hb); (try clear hb2); (try clear hk); (try clear hi)) | (go_at_call 20; (with_reducible refine (tapearchivelaw34_agree.calls k _ _ l0 _ _ l1 _ _ t490 _ _ t493 _ _ t496 a2 t502 _ ?side1 ?side2 ?side3 ?side4 ?side5 ?side6 ?side7 ?side8 ?side9 ?side10 A22.out).mono ?_); (case side1 => exact zC (Kd.C_below HR0.out HB.out)); (case side2 => exact HC0.out); (case side3 => exact zC (Kd.C_below HR1.out HB.out)); (case side4 => exact HC1.out); (case side5 => exact zC (Kd.R_reads' HO492.out).2.2); (case side6 => exact (Kd.R_reads' HO492.out).2.1); (case side7 => exact zC (Kd.R_reads' HO495.out).2.2); (case side8 => exact (Kd.R_reads' HO495.out).2.1); (case side9 => exact zC (Kd.R_reads' HO498.out).2.2); (case side10 => exact (Kd.R_reads' HO498.out).2.1); rintro e w29 ⟨rfl, hb⟩; have n0_ := Aside0.mk (Kd.R_below (zR HO492.out) hb); have n1_ := Aside0.mk (Kd.R_below (zR HO495.out) hb); have n2_ := Aside0.mk (Kd.R_below (zR HO498.out) hb); have n3_ := Aside0.mk (below_step (zB HB) hb); clear HO492; clear HO495; clear HO498; clear HB; have HO492 := n0_; have HO495 := n1_; have HO498 := n2_; have HB := n3_; clear n0_ n1_ n2_ n3_; (try clear hb); (try clear hb2); (try clear hk); (try clear hi)))
       go_meet
       case rel => exact ⟨_, (!t502), zS, H', ⟨by first | omega | exact Nat.le_refl _⟩, ⟨by (with_reducible repeat (first | apply Kd.R_alloc | apply Kd.R_drewN | apply Kd.R_drew)); exact Kd.R_mono HO492.out (fun _ hk => ⟨hk.1.2, hk.2⟩)⟩, ⟨by (with_reducible repeat (first | apply Kd.R_alloc | apply Kd.R_drewN | apply Kd.R_drew)); exact Kd.R_mono HO495.out (fun _ hk => ⟨hk.1.2, hk.2⟩)⟩, ⟨by (with_reducible repeat (first | apply Kd.R_alloc | apply Kd.R_drewN | apply Kd.R_drew)); exact Kd.R_mono HO498.out (fun _ hk => ⟨hk.1.2, hk.2⟩)⟩, ⟨zB HB⟩⟩
      ·replace c21 := Bool.eq_false_iff.mpr c21
       subst c21
       have H1 : (tapearchivelaw34_ExtentAlgebra.j0 k l0 l1 t490 t493 t496 true) = some r := by rw [if_neg (show ¬ (false = true) by decide)] at H; exact H
       clear H
       have H := H1
       clear H1
       have H' := Aside0.mk H
       clear H
       obtain ⟨Ao30, co30, eo30⟩ := Kd.R_slice HO492.out
       subst eo30
       go_wp2_with (first | ((with_reducible refine gate_callee (f := 16) rfl ?_); refine goesL_ (some 30) rfl rfl Try.func16 (by kernel_rfl) rfl #[.slice Ao30 t490.length co30] rfl zM ?_; (with_reducible refine (tapearchivelaw34_normal.calls k _ _ t490 true _ ?side1 ?side2 A16.out).mono ?_); (case side1 => exact zC (Kd.R_reads' HO492.out).2.2); (case side2 => exact (Kd.R_reads' HO492.out).2.1); rintro e w31 ⟨rfl, hb⟩; refine ⟨_, rfl, ?_⟩; have n0_ := Aside0.mk (Kd.R_below (zR HO492.out) hb); have n1_ := Aside0.mk (Kd.R_below (zR HO495.out) hb); have n2_ := Aside0.mk (Kd.R_below (zR HO498.out) hb); have n3_ := Aside0.mk (below_step (zB HB) hb); clear HO492; clear HO495; clear HO498; clear HB; have HO492 := n0_; have HO495 := n1_; have HO498 := n2_; have HB := n3_; clear n0_ n1_ n2_ n3_; (try clear hb); (try clear hb2); (try clear hk); (try clear hi); obtain ⟨Ao32, co32, eo32⟩ := Kd.R_slice HO495.out; subst eo32) | (go_at_call 16; (with_reducible refine (tapearchivelaw34_normal.calls k _ _ t493 true _ ?side1 ?side2 A18.out).mono ?_); (case side1 => exact zC (Kd.R_reads' HO495.out).2.2); (case side2 => exact (Kd.R_reads' HO495.out).2.1); rintro e w33 ⟨rfl, hb⟩; have n0_ := Aside0.mk (Kd.R_below (zR HO492.out) hb); have n1_ := Aside0.mk (Kd.R_below (zR HO495.out) hb); have n2_ := Aside0.mk (Kd.R_below (zR HO498.out) hb); have n3_ := Aside0.mk (below_step (zB HB) hb); clear HO492; clear HO495; clear HO498; clear HB; have HO492 := n0_; have HO495 := n1_; have HO498 := n2_; have HB := n3_; clear n0_ n1_ n2_ n3_; (try clear hb); (try clear hb2); (try clear hk); (try clear hi); obtain ⟨Ao34, co34, eo34⟩ := Kd.R_slice HO498.out; subst eo34) | (go_at_call 16; (with_reducible refine (tapearchivelaw34_normal.calls k _ _ t496 false _ ?side1 ?side2 A20.out).mono ?_); (case side1 => exact zC (Kd.R_reads' HO498.out).2.2); (case side2 => exact (Kd.R_reads' HO498.out).2.1); rintro e w35 ⟨rfl, hb⟩; have n0_ := Aside0.mk (Kd.R_below (zR HO492.out) hb); have n1_ := Aside0.mk (Kd.R_below (zR HO495.out) hb); have n2_ := Aside0.mk (Kd.R_below (zR HO498.out) hb); have n3_ := Aside0.mk (below_step (zB HB) hb); clear HO492; clear HO495; clear HO498; clear HB; have HO492 := n0_; have HO495 := n1_; have HO498 := n2_; have HB := n3_; clear n0_ n1_ n2_ n3_; (try clear hb); (try clear hb2); (try clear hk); (try clear hi)))
       go_meet
       case rel => exact ⟨_, (true), zS, H', ⟨by first | omega | exact Nat.le_refl _⟩, ⟨by (with_reducible repeat (first | apply Kd.R_alloc | apply Kd.R_drewN | apply Kd.R_drew)); exact Kd.R_mono HO492.out (fun _ hk => ⟨hk.1.2, hk.2⟩)⟩, ⟨by (with_reducible repeat (first | apply Kd.R_alloc | apply Kd.R_drewN | apply Kd.R_drew)); exact Kd.R_mono HO495.out (fun _ hk => ⟨hk.1.2, hk.2⟩)⟩, ⟨by (with_reducible repeat (first | apply Kd.R_alloc | apply Kd.R_drewN | apply Kd.R_drew)); exact Kd.R_mono HO498.out (fun _ hk => ⟨hk.1.2, hk.2⟩)⟩, ⟨zB HB⟩⟩
     ·replace c19 := Bool.eq_false_iff.mpr c19
      subst c19
      have H1 : (tapearchivelaw34_ExtentAlgebra.j0 k l0 l1 t490 t493 t496 true) = some r := by rw [if_neg (show ¬ (false = true) by decide)] at H; exact H
      clear H
      have H := H1
      clear H1
      have H' := Aside0.mk H
      clear H
      obtain ⟨Ao36, co36, eo36⟩ := Kd.R_slice HO492.out
      subst eo36
      go_wp2_with (first | ((with_reducible refine gate_callee (f := 16) rfl ?_); refine goesL_ (some 30) rfl rfl Try.func16 (by kernel_rfl) rfl #[.slice Ao36 t490.length co36] rfl zM ?_; (with_reducible refine (tapearchivelaw34_normal.calls k _ _ t490 true _ ?side1 ?side2 A16.out).mono ?_); (case side1 => exact zC (Kd.R_reads' HO492.out).2.2); (case side2 => exact (Kd.R_reads' HO492.out).2.1); rintro e w37 ⟨rfl, hb⟩; refine ⟨_, rfl, ?_⟩; have n0_ := Aside0.mk (Kd.R_below (zR HO492.out) hb); have n1_ := Aside0.mk (Kd.R_below (zR HO495.out) hb); have n2_ := Aside0.mk (Kd.R_below (zR HO498.out) hb); have n3_ := Aside0.mk (below_step (zB HB) hb); clear HO492; clear HO495; clear HO498; clear HB; have HO492 := n0_; have HO495 := n1_; have HO498 := n2_; have HB := n3_; clear n0_ n1_ n2_ n3_; (try clear hb); (try clear hb2); (try clear hk); (try clear hi); obtain ⟨Ao38, co38, eo38⟩ := Kd.R_slice HO495.out; subst eo38) | (go_at_call 16; (with_reducible refine (tapearchivelaw34_normal.calls k _ _ t493 false _ ?side1 ?side2 A18.out).mono ?_); (case side1 => exact zC (Kd.R_reads' HO495.out).2.2); (case side2 => exact (Kd.R_reads' HO495.out).2.1); rintro e w39 ⟨rfl, hb⟩; have n0_ := Aside0.mk (Kd.R_below (zR HO492.out) hb); have n1_ := Aside0.mk (Kd.R_below (zR HO495.out) hb); have n2_ := Aside0.mk (Kd.R_below (zR HO498.out) hb); have n3_ := Aside0.mk (below_step (zB HB) hb); clear HO492; clear HO495; clear HO498; clear HB; have HO492 := n0_; have HO495 := n1_; have HO498 := n2_; have HB := n3_; clear n0_ n1_ n2_ n3_; (try clear hb); (try clear hb2); (try clear hk); (try clear hi)))
      go_meet
      case rel => exact ⟨_, (true), zS, H', ⟨by first | omega | exact Nat.le_refl _⟩, ⟨by (with_reducible repeat (first | apply Kd.R_alloc | apply Kd.R_drewN | apply Kd.R_drew)); exact Kd.R_mono HO492.out (fun _ hk => ⟨hk.1.2, hk.2⟩)⟩, ⟨by (with_reducible repeat (first | apply Kd.R_alloc | apply Kd.R_drewN | apply Kd.R_drew)); exact Kd.R_mono HO495.out (fun _ hk => ⟨hk.1.2, hk.2⟩)⟩, ⟨by (with_reducible repeat (first | apply Kd.R_alloc | apply Kd.R_drewN | apply Kd.R_drew)); exact Kd.R_mono HO498.out (fun _ hk => ⟨hk.1.2, hk.2⟩)⟩, ⟨zB HB⟩⟩
    ·replace c17 := Bool.eq_false_iff.mpr c17
     subst c17
     have H1 : (tapearchivelaw34_ExtentAlgebra.j0 k l0 l1 t490 t493 t496 true) = some r := by rw [if_neg (show ¬ (false = true) by decide)] at H; exact H
     clear H
     have H := H1
     clear H1
     have H' := Aside0.mk H
     clear H
     obtain ⟨Ao40, co40, eo40⟩ := Kd.R_slice HO492.out
     subst eo40
     go_wp2_with (first | ((with_reducible refine gate_callee (f := 16) rfl ?_); refine goesL_ (some 30) rfl rfl Try.func16 (by kernel_rfl) rfl #[.slice Ao40 t490.length co40] rfl zM ?_; (with_reducible refine (tapearchivelaw34_normal.calls k _ _ t490 false _ ?side1 ?side2 A16.out).mono ?_); (case side1 => exact zC (Kd.R_reads' HO492.out).2.2); (case side2 => exact (Kd.R_reads' HO492.out).2.1); rintro e w41 ⟨rfl, hb⟩; refine ⟨_, rfl, ?_⟩; have n0_ := Aside0.mk (Kd.R_below (zR HO492.out) hb); have n1_ := Aside0.mk (Kd.R_below (zR HO495.out) hb); have n2_ := Aside0.mk (Kd.R_below (zR HO498.out) hb); have n3_ := Aside0.mk (below_step (zB HB) hb); clear HO492; clear HO495; clear HO498; clear HB; have HO492 := n0_; have HO495 := n1_; have HO498 := n2_; have HB := n3_; clear n0_ n1_ n2_ n3_; (try clear hb); (try clear hb2); (try clear hk); (try clear hi)))
     go_meet
     case rel => exact ⟨_, (true), zS, H', ⟨by first | omega | exact Nat.le_refl _⟩, ⟨by (with_reducible repeat (first | apply Kd.R_alloc | apply Kd.R_drewN | apply Kd.R_drew)); exact Kd.R_mono HO492.out (fun _ hk => ⟨hk.1.2, hk.2⟩)⟩, ⟨by (with_reducible repeat (first | apply Kd.R_alloc | apply Kd.R_drewN | apply Kd.R_drew)); exact Kd.R_mono HO495.out (fun _ hk => ⟨hk.1.2, hk.2⟩)⟩, ⟨by (with_reducible repeat (first | apply Kd.R_alloc | apply Kd.R_drewN | apply Kd.R_drew)); exact Kd.R_mono HO498.out (fun _ hk => ⟨hk.1.2, hk.2⟩)⟩, ⟨zB HB⟩⟩
   case rest =>
    clear HC11
    try clear c1
    try clear c2
    try clear p2
    try clear c5
    try clear c6
    try clear c7
    try clear c8
    try clear c9
    try clear c16
    try clear c17
    try clear c18
    try clear c19
    try clear c21
    obtain ⟨kq, x51_10, rfl, HA, HJ10, HO_7, HO_8, HO_9, HB⟩ := hcut
    cases kq with
    | zero => exact absurd HA.out (by simp [tapearchivelaw34_ExtentAlgebra.j0])
    | succ kj10 =>
     have H := HA.out
     clear HA
     simp only [tapearchivelaw34_ExtentAlgebra.j0] at H
     by_cases c42 : x51_10 = true
     ·subst c42
      have H1 : (some false) = some r := by rw [if_pos rfl] at H; exact H
      clear H
      have H := H1
      clear H1
      exact absurd (Option.some.inj H) (by rw [ht_.out]; simp)
     ·replace c42 := Bool.eq_false_iff.mpr c42
      subst c42
      have H1 : ((some (([] : List (S30)) : List (S30))).bind fun y503 => (if y503.length + l0.length < 8796093022208 then ((some (y503 ++ l0 : List (S30))).bind fun y506 => (if y506.length + l1.length < 8796093022208 then (tapearchivelaw34_ExtentAlgebra.l0 kj10 l0 l1 t490 t493 t496 (y506 ++ l1) 0) else (none))) else (none))) = some r := by rw [if_neg (show ¬ (false = true) by decide)] at H; exact H
      clear H
      have H := H1
      clear H1
      obtain ⟨y503, hy503⟩ : ∃ y_ : List (S30), y_ = (([] : List (S30))) := ⟨_, rfl⟩
      replace H : (if y503.length + l0.length < 8796093022208 then ((some (y503 ++ l0 : List (S30))).bind fun y506 => (if y506.length + l1.length < 8796093022208 then (tapearchivelaw34_ExtentAlgebra.l0 kj10 l0 l1 t490 t493 t496 (y506 ++ l1) 0) else (none))) else (none)) = some r := by first | (rw [hy503]; with_reducible exact H) | (have H2_ := (Option.bind_some _ _).symm.trans H; rw [hy503]; with_reducible exact H2_) | (have H2_ := (Option.bind_some _ _).symm.trans H; with_reducible exact H2_) | with_reducible exact H | (rw [hy503]; exact H) | exact H
      have Ny503 := Aside0.mk hy503
      clear hy503
      by_cases c43 : y503.length + l0.length < 8796093022208
      ·rw [if_pos c43] at H
       have LMc43 := Aside0.mk c43
       clear c43
       obtain ⟨y506, hy506⟩ : ∃ y_ : List (S30), y_ = (y503 ++ l0) := ⟨_, rfl⟩
       replace H : (if y506.length + l1.length < 8796093022208 then (tapearchivelaw34_ExtentAlgebra.l0 kj10 l0 l1 t490 t493 t496 (y506 ++ l1) 0) else (none)) = some r := by first | (rw [hy506]; with_reducible exact H) | (have H2_ := (Option.bind_some _ _).symm.trans H; rw [hy506]; with_reducible exact H2_) | (have H2_ := (Option.bind_some _ _).symm.trans H; with_reducible exact H2_) | with_reducible exact H | (rw [hy506]; exact H) | exact H
       have Ny506 := Aside0.mk hy506
       clear hy506
       by_cases c44 : y506.length + l1.length < 8796093022208
       ·rw [if_pos c44] at H
        have LMc44 := Aside0.mk c44
        clear c44
        obtain ⟨y509, hy509⟩ : ∃ y_ : List (S30), y_ = (y506 ++ l1) := ⟨_, rfl⟩
        replace H : (tapearchivelaw34_ExtentAlgebra.l0 kj10 l0 l1 t490 t493 t496 y509 0) = some r := by first | (rw [hy509]; with_reducible exact H) | (have H2_ := (Option.bind_some _ _).symm.trans H; rw [hy509]; with_reducible exact H2_) | (have H2_ := (Option.bind_some _ _).symm.trans H; with_reducible exact H2_) | with_reducible exact H | (rw [hy509]; exact H) | exact H
        have Ny509 := Aside0.mk hy509
        clear hy509
        have H' := Aside0.mk H
        clear H
        go_wp2_with (first | ((with_reducible refine gate_dst (N := 52) rfl ?_); refine Kd.R_lit k30 _ 30 ?hg (N := 52) ?hd (xs := ([] : List (S30))) (inner := []) (ok := fun _ => True) (okp := fun _ => True) ?hr ?hp (fun _ hk => hk) trivial (Below.refl _ _) (Nat.le_refl _) (by simp) ?_; (case hd => rfl); (case hg => rfl); (case hr => first | (go_simp; done) | (go_simp; rfl)); (case hp => exact (Reps.none _ _)); intro v504 w45 ho46 hb hg_ hnew_; clear hg_ hnew_; (first | rw [← Ny503.out] at ho46 | (simp only [Int.reduceToNat] at ho46; rw [← Ny503.out] at ho46)); have n0_ := Aside0.mk (Kd.R_elder' (zR HO_7.out) (Kd.R_base ho46) hb); have n1_ := Aside0.mk (Kd.R_elder' (zR HO_8.out) (Kd.R_base ho46) hb); have n2_ := Aside0.mk (Kd.R_elder' (zR HO_9.out) (Kd.R_base ho46) hb); have n3_ := Aside0.mk (Kd.R_lower (Kd.R_new' (Kd.R_new' (Kd.R_new' ho46 (Kd.R_lt (zR HO_7.out))) (Kd.R_lt (zR HO_8.out))) (Kd.R_lt (zR HO_9.out))) (below_size (zB HB))); have n4_ := Aside0.mk (below_step (zB HB) hb); clear HO_7; clear HO_8; clear HO_9; clear HB; have HO_7 := n0_; have HO_8 := n1_; have HO_9 := n2_; have HO505 := n3_; have HB := n4_; clear n0_ n1_ n2_ n3_ n4_; clear hb ho46) | ((with_reducible refine gate_builtin (b := .append) (xs := #[.tmp 52, .tmp 53]) rfl ?_); at_builtin; refine Kd.R_append_rows k30 (w0 := w) w.heap.size rfl (.tmp 52) (.tmp 53) 22 30 (.agg #[(.int .i64 0), (.int .i64 0)]) 16 rfl Try.underlying22 info30 rfl (by decide) (by omega) v504 y503 l0 _ _ _ (fun k_ => some k_ ≠ (v491 : Value).ownBlock ∧ some k_ ≠ (v494 : Value).ownBlock ∧ some k_ ≠ (v497 : Value).ownBlock) (fun _ => False) rfl rfl ?aO ?aR (fun _ _ h => h) (fun _ h => h.elim) ?aF ?aB ?aS ?aL ?_; (case aR => exact zC (Kd.C_below HR0.out HB.out)); (case aB => exact (zB HB)); (case aF => exact (fun k_ hk => ⟨Kd.fresh' (Kd.R_lt (zR HO_7.out)) k_ hk, Kd.fresh' (Kd.R_lt (zR HO_8.out)) k_ hk, Kd.fresh' (Kd.R_lt (zR HO_9.out)) k_ hk⟩)); (case aO => exact (by (with_reducible repeat (first | apply Kd.R_alloc | apply Kd.R_drewN | apply Kd.R_drew)); exact Kd.R_mono HO505.out (fun _ hk => ⟨hk.1.1.2, ⟨hk.1.2, hk.2⟩⟩))); (case aS => exact (below_size (zB HB))); (case aL => have := LMc43.out; omega); intro v507 w47 ho hb hg hat; rw [← Ny506.out] at ho; have n0_ := Aside0.mk (Kd.R_after (ok := (fun k_ => some k_ ≠ (v494 : Value).ownBlock ∧ some k_ ≠ (v497 : Value).ownBlock)) (zR HO_7.out) hg hat); have n1_ := Aside0.mk (Kd.R_after (ok := (fun k_ => some k_ ≠ (v491 : Value).ownBlock ∧ some k_ ≠ (v497 : Value).ownBlock)) (zR HO_8.out) hg hat); have n2_ := Aside0.mk (Kd.R_after (ok := (fun k_ => some k_ ≠ (v491 : Value).ownBlock ∧ some k_ ≠ (v494 : Value).ownBlock)) (zR HO_9.out) hg hat); have n3_ := Aside0.mk (hb); have n4_ := Aside0.mk (ho); clear HO_7; clear HO_8; clear HO_9; clear HB; clear HO505; have HO_7 := n0_; have HO_8 := n1_; have HO_9 := n2_; have HB := n3_; have HO508 := n4_; clear n0_ n1_ n2_ n3_ n4_; clear ho hb hg hat) | ((with_reducible refine gate_builtin (b := .append) (xs := #[.tmp 54, .tmp 55]) rfl ?_); at_builtin; refine Kd.R_append_rows k30 (w0 := w) w.heap.size rfl (.tmp 54) (.tmp 55) 22 30 (.agg #[(.int .i64 0), (.int .i64 0)]) 16 rfl Try.underlying22 info30 rfl (by decide) (by omega) v507 y506 l1 _ _ _ (fun k_ => some k_ ≠ (v491 : Value).ownBlock ∧ some k_ ≠ (v494 : Value).ownBlock ∧ some k_ ≠ (v497 : Value).ownBlock) (fun _ => False) rfl rfl ?aO ?aR (fun _ _ h => h) (fun _ h => h.elim) ?aF ?aB ?aS ?aL ?_; (case aR => exact zC (Kd.C_below HR1.out HB.out)); (case aB => exact (zB HB)); (case aF => exact (fun k_ hk => ⟨Kd.fresh' (Kd.R_lt (zR HO_7.out)) k_ hk, Kd.fresh' (Kd.R_lt (zR HO_8.out)) k_ hk, Kd.fresh' (Kd.R_lt (zR HO_9.out)) k_ hk⟩)); (case aO => exact (zR HO508.out)); (case aS => exact (below_size (zB HB))); (case aL => have := LMc44.out; omega); intro v510 w48 ho hb hg hat; rw [← Ny509.out] at ho; have n0_ := Aside0.mk (Kd.R_after (ok := (fun k_ => some k_ ≠ (v494 : Value).ownBlock ∧ some k_ ≠ (v497 : Value).ownBlock)) (zR HO_7.out) hg hat); have n1_ := Aside0.mk (Kd.R_after (ok := (fun k_ => some k_ ≠ (v491 : Value).ownBlock ∧ some k_ ≠ (v497 : Value).ownBlock)) (zR HO_8.out) hg hat); have n2_ := Aside0.mk (Kd.R_after (ok := (fun k_ => some k_ ≠ (v491 : Value).ownBlock ∧ some k_ ≠ (v494 : Value).ownBlock)) (zR HO_9.out) hg hat); have n3_ := Aside0.mk (hb); have n4_ := Aside0.mk (ho); clear HO_7; clear HO_8; clear HO_9; clear HB; clear HO508; have HO_7 := n0_; have HO_8 := n1_; have HO_9 := n2_; have HB := n3_; have HO511 := n4_; clear n0_ n1_ n2_ n3_ n4_; clear ho hb hg hat))
        go_loopg [11] kj10 (fun kq v11 w' => ∃ (x11_2 : Int), v11 = .int .i64 x11_2 ∧ Aside0 (tapearchivelaw34_ExtentAlgebra.l0 kq l0 l1 t490 t493 t496 y509 x11_2 = some r) ∧ Aside0 (kq ≤ kj10) ∧ Aside0 (Kd.R k30 30 w' w.heap.size (fun k_ => some k_ ≠ (v494 : Value).ownBlock ∧ some k_ ≠ (v497 : Value).ownBlock ∧ some k_ ≠ (v510 : Value).ownBlock) v491 t490) ∧ Aside0 (Kd.R k30 30 w' w.heap.size (fun k_ => some k_ ≠ (v491 : Value).ownBlock ∧ some k_ ≠ (v497 : Value).ownBlock ∧ some k_ ≠ (v510 : Value).ownBlock) v494 t493) ∧ Aside0 (Kd.R k30 30 w' w.heap.size (fun k_ => some k_ ≠ (v491 : Value).ownBlock ∧ some k_ ≠ (v494 : Value).ownBlock ∧ some k_ ≠ (v510 : Value).ownBlock) v497 t496) ∧ Aside0 (Kd.R k30 30 w' w.heap.size (fun k_ => some k_ ≠ (v491 : Value).ownBlock ∧ some k_ ≠ (v494 : Value).ownBlock ∧ some k_ ≠ (v497 : Value).ownBlock) v510 y509) ∧ Aside0 (Below w.heap.size w w'))
        case atStart => exact ⟨(0), zS, H', ⟨Nat.le_refl _⟩, ⟨by (with_reducible repeat (first | apply Kd.R_alloc | apply Kd.R_drewN | apply Kd.R_drew)); exact Kd.R_mono HO_7.out (fun _ hk => ⟨hk.1.1, ⟨hk.1.2, hk.2⟩⟩)⟩, ⟨by (with_reducible repeat (first | apply Kd.R_alloc | apply Kd.R_drewN | apply Kd.R_drew)); exact Kd.R_mono HO_8.out (fun _ hk => ⟨hk.1.1, ⟨hk.1.2, hk.2⟩⟩)⟩, ⟨by (with_reducible repeat (first | apply Kd.R_alloc | apply Kd.R_drewN | apply Kd.R_drew)); exact Kd.R_mono HO_9.out (fun _ hk => ⟨hk.1.1, ⟨hk.1.2, hk.2⟩⟩)⟩, ⟨zR HO511.out⟩, ⟨zB HB⟩⟩
        case round =>
         clear H'
         try clear c1
         try clear c2
         try clear p2
         try clear c4
         try clear c5
         try clear c6
         try clear c7
         try clear c8
         try clear c9
         try clear c16
         try clear c17
         try clear c18
         try clear c19
         try clear c21
         try clear c42
         try clear c43
         try clear c44
         try clear p2
         obtain ⟨x11_2, rfl, HA, HK2, HO_7, HO_8, HO_9, HO_10, HB⟩ := hrel
         cases gk with
         | zero => exact absurd HA.out (by simp [tapearchivelaw34_ExtentAlgebra.l0])
         | succ k2 =>
          have H := HA.out
          clear HA
          simp only [tapearchivelaw34_ExtentAlgebra.l0] at H
          by_cases c49 : x11_2 < (y509.length : Int)
          ·rw [if_pos c49] at H
           have c49b0 : decide (x11_2 < (y509.length : Int)) = true := decide_eq_true c49
           clear c49
           by_cases c50 : 0 ≤ x11_2
           ·rw [if_pos c50] at H
            have c50b0 : decide (0 ≤ x11_2) = true := decide_eq_true c50
            clear c50
            have HC51 := Aside0.mk H
            clear H
            obtain ⟨Ao52, co52, eo52⟩ := Kd.R_slice HO_10.out
            subst eo52
            have p512 : 0 ≤ (x11_2 : Int) := of_decide_eq_true zA
            have q512 : x11_2 < (y509.length : Int) := of_decide_eq_true zA
            obtain ⟨ad512, e512, hx512_0, hx512_1⟩ := at_T30 (Kd.R_reads' HO_10.out).2.2 x11_2 p512 q512
            cases e512
            replace p512 := eq_true p512
            replace q512 := eq_true q512
            go_upto_region 13 with (first | ((with_reducible refine gate_dst (N := 12) rfl ?_); refine box_event ?hg (N := 12) ?hd (cs := #[.int .i64 0, .int .i64 0]) (t := 30) ?hr ?_; (case hd => rfl); (case hg => rfl); (case hr => first | (go_simp; done) | (go_simp; rfl)); intro gb513 hg w53 hbox hb; have n0_ := Aside0.mk (Kd.R_below (Kd.R_elderB (zR HO_7.out) gb513 (Nat.le_of_eq hg.symm)) hb); have n1_ := Aside0.mk (Kd.R_below (Kd.R_elderB (zR HO_8.out) gb513 (Nat.le_of_eq hg.symm)) hb); have n2_ := Aside0.mk (Kd.R_below (Kd.R_elderB (zR HO_9.out) gb513 (Nat.le_of_eq hg.symm)) hb); have n3_ := Aside0.mk (Kd.R_below (Kd.R_elderB (zR HO_10.out) gb513 (Nat.le_of_eq hg.symm)) hb); have n4_ := Aside0.mk (below_step (zB HB) hb); have n5_ := Aside0.mk (hbox); have n6_ := Aside0.mk ((by rw [hg]; exact (below_size (zB HB)) : w.heap.size ≤ gb513)); have n7_ := Aside0.mk ((by rw [hg]; exact (below_size (zB HB)) : w.heap.size ≤ gb513)); clear HO_7; clear HO_8; clear HO_9; clear HO_10; clear HB; have HO_7 := n0_; have HO_8 := n1_; have HO_9 := n2_; have HO_10 := n3_; have HB := n4_; have BK513 := n5_; have GW513 := n6_; have GE513 := n7_; clear n0_ n1_ n2_ n3_ n4_ n5_ n6_ n7_; clear hb hbox hg; have hcz54_0 : w53.cell? ⟨gb513, 0, none⟩ = some (.int .i64 0) := (blk_cell BK513.out 0).trans rfl; have hcz54_1 : w53.cell? ⟨gb513, 1, none⟩ = some (.int .i64 0) := (blk_cell BK513.out 1).trans rfl; have hfz54_0 := blk_frozen BK513.out 0; have hfz54_1 := blk_frozen BK513.out 1))
            (try simp only [Act.put, List.setIfInBounds_toArray, List.set_cons_zero, List.set_cons_succ])
            go_cut [84] (fun v84 wc => ∃ (kq : Nat) (x84_50 : Bool), v84 = .bool x84_50 ∧ Aside0 (tapearchivelaw34_ExtentAlgebra.j2 kq l0 l1 t490 t493 t496 y509 x11_2 x84_50 ((rd_T30 y509 x11_2).f0) ((rd_T30 y509 x11_2).f1) = some r) ∧ Aside0 (kq ≤ k2) ∧ Aside0 (Kd.R k30 30 wc w.heap.size (fun k_ => some k_ ≠ (v494 : Value).ownBlock ∧ some k_ ≠ (v497 : Value).ownBlock ∧ some k_ ≠ ((.slice (some ad512) y509.length co52) : Value).ownBlock ∧ k_ ≠ gb513) v491 t490) ∧ Aside0 (Kd.R k30 30 wc w.heap.size (fun k_ => some k_ ≠ (v491 : Value).ownBlock ∧ some k_ ≠ (v497 : Value).ownBlock ∧ some k_ ≠ ((.slice (some ad512) y509.length co52) : Value).ownBlock ∧ k_ ≠ gb513) v494 t493) ∧ Aside0 (Kd.R k30 30 wc w.heap.size (fun k_ => some k_ ≠ (v491 : Value).ownBlock ∧ some k_ ≠ (v494 : Value).ownBlock ∧ some k_ ≠ ((.slice (some ad512) y509.length co52) : Value).ownBlock ∧ k_ ≠ gb513) v497 t496) ∧ Aside0 (Kd.R k30 30 wc w.heap.size (fun k_ => some k_ ≠ (v491 : Value).ownBlock ∧ some k_ ≠ (v494 : Value).ownBlock ∧ some k_ ≠ (v497 : Value).ownBlock ∧ k_ ≠ gb513) (.slice (some ad512) y509.length co52) y509) ∧ Aside0 (wc.heap[gb513]? = some (.cells #[.int .i64 ((rd_T30 y509 x11_2).f0), .int .i64 ((rd_T30 y509 x11_2).f1)] 30 (0, 0))) ∧ Aside0 (Below w.heap.size w wc))
            case first =>
             have H := HC51.out
             clear HC51
             by_cases c55 : ((rd_T30 y509 x11_2).f0) < 0
             ·rw [if_pos c55] at H
              have c55b0 : decide (((rd_T30 y509 x11_2).f0) < 0) = true := decide_eq_true c55
              clear c55
              (first | rw [c55b0] | (simp only [i64_w, i32_w]; rw [c55b0]) | skip)
              have H' := Aside0.mk H
              clear H
              have hcz56_0 : w53.cell? ⟨gb513, 0, none⟩ = some (.int .i64 0) := (blk_cell BK513.out 0).trans rfl
              have hcz56_1 : w53.cell? ⟨gb513, 1, none⟩ = some (.int .i64 0) := (blk_cell BK513.out 1).trans rfl
              have hfz56_0 := blk_frozen BK513.out 0
              have hfz56_1 := blk_frozen BK513.out 1
              go_wp2
              go_meet
              case rel => exact ⟨_, (true), zS, H', ⟨by have := HJ10.out; have := HK2.out; first | omega | exact Nat.le_refl _⟩, ⟨by (with_reducible repeat (first | apply Kd.R_alloc | apply Kd.R_drewN | apply Kd.R_drew)); exact Kd.R_mono (Kd.R_far (p := ⟨gb513, 1, none⟩) (Kd.R_far (p := ⟨gb513, 0, none⟩) (Kd.R_mono HO_7.out (fun k_ hk => (⟨hk, hk.2⟩ : _ ∧ k_ ≠ gb513))) (fun _ hk => hk.2) (.int .i64 ((rd_T30 y509 x11_2).f0))) (fun _ hk => hk.2) (.int .i64 ((rd_T30 y509 x11_2).f1))) (fun _ hk => ⟨hk.1.1.1, ⟨hk.1.1.2.1, ⟨hk.1.1.2.2, hk.1.2⟩⟩⟩)⟩, ⟨by (with_reducible repeat (first | apply Kd.R_alloc | apply Kd.R_drewN | apply Kd.R_drew)); exact Kd.R_mono (Kd.R_far (p := ⟨gb513, 1, none⟩) (Kd.R_far (p := ⟨gb513, 0, none⟩) (Kd.R_mono HO_8.out (fun k_ hk => (⟨hk, hk.2⟩ : _ ∧ k_ ≠ gb513))) (fun _ hk => hk.2) (.int .i64 ((rd_T30 y509 x11_2).f0))) (fun _ hk => hk.2) (.int .i64 ((rd_T30 y509 x11_2).f1))) (fun _ hk => ⟨hk.1.1.1, ⟨hk.1.1.2.1, ⟨hk.1.1.2.2, hk.1.2⟩⟩⟩)⟩, ⟨by (with_reducible repeat (first | apply Kd.R_alloc | apply Kd.R_drewN | apply Kd.R_drew)); exact Kd.R_mono (Kd.R_far (p := ⟨gb513, 1, none⟩) (Kd.R_far (p := ⟨gb513, 0, none⟩) (Kd.R_mono HO_9.out (fun k_ hk => (⟨hk, hk.2⟩ : _ ∧ k_ ≠ gb513))) (fun _ hk => hk.2) (.int .i64 ((rd_T30 y509 x11_2).f0))) (fun _ hk => hk.2) (.int .i64 ((rd_T30 y509 x11_2).f1))) (fun _ hk => ⟨hk.1.1.1, ⟨hk.1.1.2.1, ⟨hk.1.1.2.2, hk.1.2⟩⟩⟩)⟩, ⟨by (with_reducible repeat (first | apply Kd.R_alloc | apply Kd.R_drewN | apply Kd.R_drew)); exact Kd.R_mono (Kd.R_far (p := ⟨gb513, 1, none⟩) (Kd.R_far (p := ⟨gb513, 0, none⟩) (Kd.R_mono HO_10.out (fun k_ hk => (⟨hk, hk.2⟩ : _ ∧ k_ ≠ gb513))) (fun _ hk => hk.2) (.int .i64 ((rd_T30 y509 x11_2).f0))) (fun _ hk => hk.2) (.int .i64 ((rd_T30 y509 x11_2).f1))) (fun _ hk => ⟨hk.1.1.1, ⟨hk.1.1.2.1, ⟨hk.1.1.2.2, hk.1.2⟩⟩⟩)⟩, ⟨by (with_reducible repeat (first | refine blk_drewN ?_ _ | refine blk_drew ?_ | refine blk_alloc ?_ _)); refine blk_put (cs := #[.int .i64 ((rd_T30 y509 x11_2).f0), .int .i64 0]) ?_ 1 _ rfl; (with_reducible repeat (first | refine blk_drewN ?_ _ | refine blk_drew ?_ | refine blk_alloc ?_ _)); refine blk_put (cs := #[.int .i64 0, .int .i64 0]) ?_ 0 _ rfl; (with_reducible repeat (first | refine blk_drewN ?_ _ | refine blk_drew ?_ | refine blk_alloc ?_ _)); exact BK513.out⟩, ⟨zG HB GE513⟩⟩
             ·rw [if_neg c55] at H
              have c55b0 : decide (((rd_T30 y509 x11_2).f0) < 0) = false := decide_eq_false c55
              clear c55
              (first | rw [c55b0] | (simp only [i64_w, i32_w]; rw [c55b0]) | skip)
              by_cases c57 : ((rd_T30 y509 x11_2).f0) > 1125899906842624
              ·rw [if_pos c57] at H
               have c57b0 : decide (1125899906842624 < ((rd_T30 y509 x11_2).f0)) = true := decide_eq_true c57
               clear c57
               have H' := Aside0.mk H
               clear H
               have hcz58_0 : w53.cell? ⟨gb513, 0, none⟩ = some (.int .i64 0) := (blk_cell BK513.out 0).trans rfl
               have hcz58_1 : w53.cell? ⟨gb513, 1, none⟩ = some (.int .i64 0) := (blk_cell BK513.out 1).trans rfl
               have hfz58_0 := blk_frozen BK513.out 0
               have hfz58_1 := blk_frozen BK513.out 1
               go_wp2
               go_meet
               case rel => exact ⟨_, (true), zS, H', ⟨by have := HJ10.out; have := HK2.out; first | omega | exact Nat.le_refl _⟩, ⟨by (with_reducible repeat (first | apply Kd.R_alloc | apply Kd.R_drewN | apply Kd.R_drew)); exact Kd.R_mono (Kd.R_far (p := ⟨gb513, 1, none⟩) (Kd.R_far (p := ⟨gb513, 0, none⟩) (Kd.R_mono HO_7.out (fun k_ hk => (⟨hk, hk.2⟩ : _ ∧ k_ ≠ gb513))) (fun _ hk => hk.2) (.int .i64 ((rd_T30 y509 x11_2).f0))) (fun _ hk => hk.2) (.int .i64 ((rd_T30 y509 x11_2).f1))) (fun _ hk => ⟨hk.1.1.1, ⟨hk.1.1.2.1, ⟨hk.1.1.2.2, hk.1.2⟩⟩⟩)⟩, ⟨by (with_reducible repeat (first | apply Kd.R_alloc | apply Kd.R_drewN | apply Kd.R_drew)); exact Kd.R_mono (Kd.R_far (p := ⟨gb513, 1, none⟩) (Kd.R_far (p := ⟨gb513, 0, none⟩) (Kd.R_mono HO_8.out (fun k_ hk => (⟨hk, hk.2⟩ : _ ∧ k_ ≠ gb513))) (fun _ hk => hk.2) (.int .i64 ((rd_T30 y509 x11_2).f0))) (fun _ hk => hk.2) (.int .i64 ((rd_T30 y509 x11_2).f1))) (fun _ hk => ⟨hk.1.1.1, ⟨hk.1.1.2.1, ⟨hk.1.1.2.2, hk.1.2⟩⟩⟩)⟩, ⟨by (with_reducible repeat (first | apply Kd.R_alloc | apply Kd.R_drewN | apply Kd.R_drew)); exact Kd.R_mono (Kd.R_far (p := ⟨gb513, 1, none⟩) (Kd.R_far (p := ⟨gb513, 0, none⟩) (Kd.R_mono HO_9.out (fun k_ hk => (⟨hk, hk.2⟩ : _ ∧ k_ ≠ gb513))) (fun _ hk => hk.2) (.int .i64 ((rd_T30 y509 x11_2).f0))) (fun _ hk => hk.2) (.int .i64 ((rd_T30 y509 x11_2).f1))) (fun _ hk => ⟨hk.1.1.1, ⟨hk.1.1.2.1, ⟨hk.1.1.2.2, hk.1.2⟩⟩⟩)⟩, ⟨by (with_reducible repeat (first | apply Kd.R_alloc | apply Kd.R_drewN | apply Kd.R_drew)); exact Kd.R_mono (Kd.R_far (p := ⟨gb513, 1, none⟩) (Kd.R_far (p := ⟨gb513, 0, none⟩) (Kd.R_mono HO_10.out (fun k_ hk => (⟨hk, hk.2⟩ : _ ∧ k_ ≠ gb513))) (fun _ hk => hk.2) (.int .i64 ((rd_T30 y509 x11_2).f0))) (fun _ hk => hk.2) (.int .i64 ((rd_T30 y509 x11_2).f1))) (fun _ hk => ⟨hk.1.1.1, ⟨hk.1.1.2.1, ⟨hk.1.1.2.2, hk.1.2⟩⟩⟩)⟩, ⟨by (with_reducible repeat (first | refine blk_drewN ?_ _ | refine blk_drew ?_ | refine blk_alloc ?_ _)); refine blk_put (cs := #[.int .i64 ((rd_T30 y509 x11_2).f0), .int .i64 0]) ?_ 1 _ rfl; (with_reducible repeat (first | refine blk_drewN ?_ _ | refine blk_drew ?_ | refine blk_alloc ?_ _)); refine blk_put (cs := #[.int .i64 0, .int .i64 0]) ?_ 0 _ rfl; (with_reducible repeat (first | refine blk_drewN ?_ _ | refine blk_drew ?_ | refine blk_alloc ?_ _)); exact BK513.out⟩, ⟨zG HB GE513⟩⟩
              ·rw [if_neg c57] at H
               have c57b0 : decide (1125899906842624 < ((rd_T30 y509 x11_2).f0)) = false := decide_eq_false c57
               clear c57
               by_cases c59 : ((rd_T30 y509 x11_2).f1) < 0
               ·rw [if_pos c59] at H
                have c59b0 : decide (((rd_T30 y509 x11_2).f1) < 0) = true := decide_eq_true c59
                clear c59
                have H' := Aside0.mk H
                clear H
                have hcz60_0 : w53.cell? ⟨gb513, 0, none⟩ = some (.int .i64 0) := (blk_cell BK513.out 0).trans rfl
                have hcz60_1 : w53.cell? ⟨gb513, 1, none⟩ = some (.int .i64 0) := (blk_cell BK513.out 1).trans rfl
                have hfz60_0 := blk_frozen BK513.out 0
                have hfz60_1 := blk_frozen BK513.out 1
                go_wp2
                go_meet
                case rel => exact ⟨_, (true), zS, H', ⟨by have := HJ10.out; have := HK2.out; first | omega | exact Nat.le_refl _⟩, ⟨by (with_reducible repeat (first | apply Kd.R_alloc | apply Kd.R_drewN | apply Kd.R_drew)); exact Kd.R_mono (Kd.R_far (p := ⟨gb513, 1, none⟩) (Kd.R_far (p := ⟨gb513, 0, none⟩) (Kd.R_mono HO_7.out (fun k_ hk => (⟨hk, hk.2⟩ : _ ∧ k_ ≠ gb513))) (fun _ hk => hk.2) (.int .i64 ((rd_T30 y509 x11_2).f0))) (fun _ hk => hk.2) (.int .i64 ((rd_T30 y509 x11_2).f1))) (fun _ hk => ⟨hk.1.1.1, ⟨hk.1.1.2.1, ⟨hk.1.1.2.2, hk.1.2⟩⟩⟩)⟩, ⟨by (with_reducible repeat (first | apply Kd.R_alloc | apply Kd.R_drewN | apply Kd.R_drew)); exact Kd.R_mono (Kd.R_far (p := ⟨gb513, 1, none⟩) (Kd.R_far (p := ⟨gb513, 0, none⟩) (Kd.R_mono HO_8.out (fun k_ hk => (⟨hk, hk.2⟩ : _ ∧ k_ ≠ gb513))) (fun _ hk => hk.2) (.int .i64 ((rd_T30 y509 x11_2).f0))) (fun _ hk => hk.2) (.int .i64 ((rd_T30 y509 x11_2).f1))) (fun _ hk => ⟨hk.1.1.1, ⟨hk.1.1.2.1, ⟨hk.1.1.2.2, hk.1.2⟩⟩⟩)⟩, ⟨by (with_reducible repeat (first | apply Kd.R_alloc | apply Kd.R_drewN | apply Kd.R_drew)); exact Kd.R_mono (Kd.R_far (p := ⟨gb513, 1, none⟩) (Kd.R_far (p := ⟨gb513, 0, none⟩) (Kd.R_mono HO_9.out (fun k_ hk => (⟨hk, hk.2⟩ : _ ∧ k_ ≠ gb513))) (fun _ hk => hk.2) (.int .i64 ((rd_T30 y509 x11_2).f0))) (fun _ hk => hk.2) (.int .i64 ((rd_T30 y509 x11_2).f1))) (fun _ hk => ⟨hk.1.1.1, ⟨hk.1.1.2.1, ⟨hk.1.1.2.2, hk.1.2⟩⟩⟩)⟩, ⟨by (with_reducible repeat (first | apply Kd.R_alloc | apply Kd.R_drewN | apply Kd.R_drew)); exact Kd.R_mono (Kd.R_far (p := ⟨gb513, 1, none⟩) (Kd.R_far (p := ⟨gb513, 0, none⟩) (Kd.R_mono HO_10.out (fun k_ hk => (⟨hk, hk.2⟩ : _ ∧ k_ ≠ gb513))) (fun _ hk => hk.2) (.int .i64 ((rd_T30 y509 x11_2).f0))) (fun _ hk => hk.2) (.int .i64 ((rd_T30 y509 x11_2).f1))) (fun _ hk => ⟨hk.1.1.1, ⟨hk.1.1.2.1, ⟨hk.1.1.2.2, hk.1.2⟩⟩⟩)⟩, ⟨by (with_reducible repeat (first | refine blk_drewN ?_ _ | refine blk_drew ?_ | refine blk_alloc ?_ _)); refine blk_put (cs := #[.int .i64 ((rd_T30 y509 x11_2).f0), .int .i64 0]) ?_ 1 _ rfl; (with_reducible repeat (first | refine blk_drewN ?_ _ | refine blk_drew ?_ | refine blk_alloc ?_ _)); refine blk_put (cs := #[.int .i64 0, .int .i64 0]) ?_ 0 _ rfl; (with_reducible repeat (first | refine blk_drewN ?_ _ | refine blk_drew ?_ | refine blk_alloc ?_ _)); exact BK513.out⟩, ⟨zG HB GE513⟩⟩
               ·rw [if_neg c59] at H
                have c59b0 : decide (((rd_T30 y509 x11_2).f1) < 0) = false := decide_eq_false c59
                clear c59
                have H' := Aside0.mk H
                clear H
                have hcz61_0 : w53.cell? ⟨gb513, 0, none⟩ = some (.int .i64 0) := (blk_cell BK513.out 0).trans rfl
                have hcz61_1 : w53.cell? ⟨gb513, 1, none⟩ = some (.int .i64 0) := (blk_cell BK513.out 1).trans rfl
                have hfz61_0 := blk_frozen BK513.out 0
                have hfz61_1 := blk_frozen BK513.out 1
                go_wp2
                go_meet
                case rel => exact ⟨_, (decide (((rd_T30 y509 x11_2).f1) > 1125899906842624)), zS, H', ⟨by have := HJ10.out; have := HK2.out; first | omega | exact Nat.le_refl _⟩, ⟨by (with_reducible repeat (first | apply Kd.R_alloc | apply Kd.R_drewN | apply Kd.R_drew)); exact Kd.R_mono (Kd.R_far (p := ⟨gb513, 1, none⟩) (Kd.R_far (p := ⟨gb513, 0, none⟩) (Kd.R_mono HO_7.out (fun k_ hk => (⟨hk, hk.2⟩ : _ ∧ k_ ≠ gb513))) (fun _ hk => hk.2) (.int .i64 ((rd_T30 y509 x11_2).f0))) (fun _ hk => hk.2) (.int .i64 ((rd_T30 y509 x11_2).f1))) (fun _ hk => ⟨hk.1.1.1, ⟨hk.1.1.2.1, ⟨hk.1.1.2.2, hk.1.2⟩⟩⟩)⟩, ⟨by (with_reducible repeat (first | apply Kd.R_alloc | apply Kd.R_drewN | apply Kd.R_drew)); exact Kd.R_mono (Kd.R_far (p := ⟨gb513, 1, none⟩) (Kd.R_far (p := ⟨gb513, 0, none⟩) (Kd.R_mono HO_8.out (fun k_ hk => (⟨hk, hk.2⟩ : _ ∧ k_ ≠ gb513))) (fun _ hk => hk.2) (.int .i64 ((rd_T30 y509 x11_2).f0))) (fun _ hk => hk.2) (.int .i64 ((rd_T30 y509 x11_2).f1))) (fun _ hk => ⟨hk.1.1.1, ⟨hk.1.1.2.1, ⟨hk.1.1.2.2, hk.1.2⟩⟩⟩)⟩, ⟨by (with_reducible repeat (first | apply Kd.R_alloc | apply Kd.R_drewN | apply Kd.R_drew)); exact Kd.R_mono (Kd.R_far (p := ⟨gb513, 1, none⟩) (Kd.R_far (p := ⟨gb513, 0, none⟩) (Kd.R_mono HO_9.out (fun k_ hk => (⟨hk, hk.2⟩ : _ ∧ k_ ≠ gb513))) (fun _ hk => hk.2) (.int .i64 ((rd_T30 y509 x11_2).f0))) (fun _ hk => hk.2) (.int .i64 ((rd_T30 y509 x11_2).f1))) (fun _ hk => ⟨hk.1.1.1, ⟨hk.1.1.2.1, ⟨hk.1.1.2.2, hk.1.2⟩⟩⟩)⟩, ⟨by (with_reducible repeat (first | apply Kd.R_alloc | apply Kd.R_drewN | apply Kd.R_drew)); exact Kd.R_mono (Kd.R_far (p := ⟨gb513, 1, none⟩) (Kd.R_far (p := ⟨gb513, 0, none⟩) (Kd.R_mono HO_10.out (fun k_ hk => (⟨hk, hk.2⟩ : _ ∧ k_ ≠ gb513))) (fun _ hk => hk.2) (.int .i64 ((rd_T30 y509 x11_2).f0))) (fun _ hk => hk.2) (.int .i64 ((rd_T30 y509 x11_2).f1))) (fun _ hk => ⟨hk.1.1.1, ⟨hk.1.1.2.1, ⟨hk.1.1.2.2, hk.1.2⟩⟩⟩)⟩, ⟨by (with_reducible repeat (first | refine blk_drewN ?_ _ | refine blk_drew ?_ | refine blk_alloc ?_ _)); refine blk_put (cs := #[.int .i64 ((rd_T30 y509 x11_2).f0), .int .i64 0]) ?_ 1 _ rfl; (with_reducible repeat (first | refine blk_drewN ?_ _ | refine blk_drew ?_ | refine blk_alloc ?_ _)); refine blk_put (cs := #[.int .i64 0, .int .i64 0]) ?_ 0 _ rfl; (with_reducible repeat (first | refine blk_drewN ?_ _ | refine blk_drew ?_ | refine blk_alloc ?_ _)); exact BK513.out⟩, ⟨zG HB GE513⟩⟩
            case rest =>
             clear HC51
             try clear c1
             try clear c2
             try clear p2
             try clear c4
             try clear c5
             try clear p5
             try clear q5
             try clear hx5
             try clear c6
             try clear c7
             try clear c8
             try clear c9
             try clear c16
             try clear c17
             try clear c18
             try clear c19
             try clear c21
             try clear c42
             try clear c43
             try clear c44
             try clear c49
             try clear c49b0
             try clear c50
             try clear c50b0
             try clear p51
             try clear q51
             try clear hx51
             try clear c55
             try clear c55b0
             try clear c57
             try clear c57b0
             try clear c59
             try clear c59b0
             try clear hcz54_0
             try clear hcz54_1
             try clear hcz56_0
             try clear hcz56_1
             try clear hcz58_0
             try clear hcz58_1
             try clear hcz60_0
             try clear hcz60_1
             try clear hcz61_0
             try clear hcz61_1
             try clear hfz54_0
             try clear hfz54_1
             try clear hfz56_0
             try clear hfz56_1
             try clear hfz58_0
             try clear hfz58_1
             try clear hfz60_0
             try clear hfz60_1
             try clear hfz61_0
             try clear hfz61_1
             try clear hx512_0
             try clear hx512_1
             try clear p2
             try clear p512
             try clear q512
             obtain ⟨kq, x84_50, rfl, HA, HJ50, HO_7, HO_8, HO_9, HO_10, BK513, HB⟩ := hcut
             cases kq with
             | zero => exact absurd HA.out (by simp [tapearchivelaw34_ExtentAlgebra.j2])
             | succ kj50 =>
              have H := HA.out
              clear HA
              simp only [tapearchivelaw34_ExtentAlgebra.j2] at H
              by_cases c62 : x84_50 = true
              ·subst c62
               have H1 : (tapearchivelaw34_ExtentAlgebra.l0 kj50 l0 l1 t490 t493 t496 y509 (wrap64 (x11_2 + 1))) = some r := by rw [if_pos rfl] at H; exact H
               clear H
               have H := H1
               clear H1
               have H' := Aside0.mk H
               clear H
               go_wp2
               go_roundg kj50
               case measure => have := HJ10.out; have := HK2.out; have := HJ50.out; omega
               case rel => exact ⟨(wrap64 (x11_2 + 1)), zS, H', ⟨by have := HJ10.out; have := HK2.out; have := HJ50.out; omega⟩, ⟨by (with_reducible repeat (first | apply Kd.R_alloc | apply Kd.R_drewN | apply Kd.R_drew)); exact Kd.R_mono HO_7.out (fun _ hk => ⟨hk.1, ⟨hk.2.1, hk.2.2.1⟩⟩)⟩, ⟨by (with_reducible repeat (first | apply Kd.R_alloc | apply Kd.R_drewN | apply Kd.R_drew)); exact Kd.R_mono HO_8.out (fun _ hk => ⟨hk.1, ⟨hk.2.1, hk.2.2.1⟩⟩)⟩, ⟨by (with_reducible repeat (first | apply Kd.R_alloc | apply Kd.R_drewN | apply Kd.R_drew)); exact Kd.R_mono HO_9.out (fun _ hk => ⟨hk.1, ⟨hk.2.1, hk.2.2.1⟩⟩)⟩, ⟨by (with_reducible repeat (first | apply Kd.R_alloc | apply Kd.R_drewN | apply Kd.R_drew)); exact Kd.R_mono HO_10.out (fun _ hk => ⟨hk.1, ⟨hk.2.1, hk.2.2.1⟩⟩)⟩, ⟨zG HB GE513⟩⟩
              ·replace c62 := Bool.eq_false_iff.mpr c62
               subst c62
               have H1 : (tapearchivelaw34_ExtentAlgebra.l1 kj50 l0 l1 t490 t493 t496 y509 x11_2 (-1) ((rd_T30 y509 x11_2).f0) ((rd_T30 y509 x11_2).f1)) = some r := by rw [if_neg (show ¬ (false = true) by decide)] at H; exact H
               clear H
               have H := H1
               clear H1
               have H' := Aside0.mk H
               clear H
               go_wp2
               go_loopg [13] kj50 (fun kq v13 w' => ∃ (x13_4 : Int), v13 = .int .i64 x13_4 ∧ Aside0 (tapearchivelaw34_ExtentAlgebra.l1 kq l0 l1 t490 t493 t496 y509 x11_2 x13_4 ((rd_T30 y509 x11_2).f0) ((rd_T30 y509 x11_2).f1) = some r) ∧ Aside0 (kq ≤ kj50) ∧ Aside0 (Kd.R k30 30 w' w.heap.size (fun k_ => some k_ ≠ (v494 : Value).ownBlock ∧ some k_ ≠ (v497 : Value).ownBlock ∧ some k_ ≠ ((.slice (some ad512) y509.length co52) : Value).ownBlock ∧ k_ ≠ gb513) v491 t490) ∧ Aside0 (Kd.R k30 30 w' w.heap.size (fun k_ => some k_ ≠ (v491 : Value).ownBlock ∧ some k_ ≠ (v497 : Value).ownBlock ∧ some k_ ≠ ((.slice (some ad512) y509.length co52) : Value).ownBlock ∧ k_ ≠ gb513) v494 t493) ∧ Aside0 (Kd.R k30 30 w' w.heap.size (fun k_ => some k_ ≠ (v491 : Value).ownBlock ∧ some k_ ≠ (v494 : Value).ownBlock ∧ some k_ ≠ ((.slice (some ad512) y509.length co52) : Value).ownBlock ∧ k_ ≠ gb513) v497 t496) ∧ Aside0 (Kd.R k30 30 w' w.heap.size (fun k_ => some k_ ≠ (v491 : Value).ownBlock ∧ some k_ ≠ (v494 : Value).ownBlock ∧ some k_ ≠ (v497 : Value).ownBlock ∧ k_ ≠ gb513) (.slice (some ad512) y509.length co52) y509) ∧ Aside0 (w'.heap[gb513]? = some (.cells #[.int .i64 ((rd_T30 y509 x11_2).f0), .int .i64 ((rd_T30 y509 x11_2).f1)] 30 (0, 0))) ∧ Aside0 (Below w.heap.size w w'))
               case atStart => exact ⟨((-1)), zS, H', ⟨Nat.le_refl _⟩, ⟨zR HO_7.out⟩, ⟨zR HO_8.out⟩, ⟨zR HO_9.out⟩, ⟨zR HO_10.out⟩, ⟨by (with_reducible repeat (first | refine blk_drewN ?_ _ | refine blk_drew ?_ | refine blk_alloc ?_ _)); exact BK513.out⟩, ⟨zG HB GE513⟩⟩
               case round =>
                clear H'
                try clear c1
                try clear c2
                try clear p2
                try clear c4
                try clear c5
                try clear p5
                try clear q5
                try clear hx5
                try clear c6
                try clear p6
                try clear c7
                try clear c8
                try clear c9
                try clear c16
                try clear c17
                try clear c18
                try clear c19
                try clear c21
                try clear c42
                try clear c43
                try clear c44
                try clear c49
                try clear c49b0
                try clear c50
                try clear c50b0
                try clear p51
                try clear q51
                try clear hx51
                try clear c55
                try clear c55b0
                try clear c57
                try clear c57b0
                try clear c59
                try clear c59b0
                try clear c62
                try clear hcz54_0
                try clear hcz54_1
                try clear hcz56_0
                try clear hcz56_1
                try clear hcz58_0
                try clear hcz58_1
                try clear hcz60_0
                try clear hcz60_1
                try clear hcz61_0
                try clear hcz61_1
                try clear hfz54_0
                try clear hfz54_1
                try clear hfz56_0
                try clear hfz56_1
                try clear hfz58_0
                try clear hfz58_1
                try clear hfz60_0
                try clear hfz60_1
                try clear hfz61_0
                try clear hfz61_1
                try clear hx512_0
                try clear hx512_1
                try clear p2
                try clear p5
                try clear p51
                try clear p512
                try clear q5
                try clear q51
                try clear q512
                obtain ⟨x13_4, rfl, HA, HK4, HO_7, HO_8, HO_9, HO_10, BK513, HB⟩ := hrel
                cases gk with
                | zero => exact absurd HA.out (by simp [tapearchivelaw34_ExtentAlgebra.l1])
                | succ k4 =>
                 have H := HA.out
                 clear HA
                 simp only [tapearchivelaw34_ExtentAlgebra.l1] at H
                 by_cases c63 : x13_4 ≤ 1
                 ·rw [if_pos c63] at H
                  have c63b0 : decide (x13_4 ≤ 1) = true := decide_eq_true c63
                  clear c63
                  have HC64 := Aside0.mk H
                  clear H
                  go_upto_region 17 with (fail)
                  go_cut [115] (fun v115 wc => ∃ (kq : Nat) (x115_63 : Bool), v115 = .bool x115_63 ∧ Aside0 (tapearchivelaw34_ExtentAlgebra.j4 kq l0 l1 t490 t493 t496 y509 x11_2 x13_4 x115_63 ((rd_T30 y509 x11_2).f0) ((rd_T30 y509 x11_2).f1) = some r) ∧ Aside0 (kq ≤ k4) ∧ Aside0 (Kd.R k30 30 wc w.heap.size (fun k_ => some k_ ≠ (v494 : Value).ownBlock ∧ some k_ ≠ (v497 : Value).ownBlock ∧ some k_ ≠ ((.slice (some ad512) y509.length co52) : Value).ownBlock ∧ k_ ≠ gb513) v491 t490) ∧ Aside0 (Kd.R k30 30 wc w.heap.size (fun k_ => some k_ ≠ (v491 : Value).ownBlock ∧ some k_ ≠ (v497 : Value).ownBlock ∧ some k_ ≠ ((.slice (some ad512) y509.length co52) : Value).ownBlock ∧ k_ ≠ gb513) v494 t493) ∧ Aside0 (Kd.R k30 30 wc w.heap.size (fun k_ => some k_ ≠ (v491 : Value).ownBlock ∧ some k_ ≠ (v494 : Value).ownBlock ∧ some k_ ≠ ((.slice (some ad512) y509.length co52) : Value).ownBlock ∧ k_ ≠ gb513) v497 t496) ∧ Aside0 (Kd.R k30 30 wc w.heap.size (fun k_ => some k_ ≠ (v491 : Value).ownBlock ∧ some k_ ≠ (v494 : Value).ownBlock ∧ some k_ ≠ (v497 : Value).ownBlock ∧ k_ ≠ gb513) (.slice (some ad512) y509.length co52) y509) ∧ Aside0 (wc.heap[gb513]? = some (.cells #[.int .i64 ((rd_T30 y509 x11_2).f0), .int .i64 ((rd_T30 y509 x11_2).f1)] 30 (0, 0))) ∧ Aside0 (Below w.heap.size w wc))
                  case first =>
                   have H := HC64.out
                   clear HC64
                   replace H := Option.bind_eq_some_iff.mp H
                   obtain ⟨t514, A650, H⟩ := H
                   replace H : (if t514 = true then ((tapearchivelaw34_agree.f k4 l0 l1 t490 t493 t496 (wrap64 ((wrap64 (((rd_T30 y509 x11_2).f0) + ((rd_T30 y509 x11_2).f1))) + x13_4))).bind fun t515 => (tapearchivelaw34_ExtentAlgebra.j4 k4 l0 l1 t490 t493 t496 y509 x11_2 x13_4 (!t515) ((rd_T30 y509 x11_2).f0) ((rd_T30 y509 x11_2).f1))) else (tapearchivelaw34_ExtentAlgebra.j4 k4 l0 l1 t490 t493 t496 y509 x11_2 x13_4 true ((rd_T30 y509 x11_2).f0) ((rd_T30 y509 x11_2).f1))) = some r := H
                   have A65 := Aside0.mk A650
                   clear A650
                   by_cases c66 : t514 = true
                   ·subst c66
                    have H1 : ((tapearchivelaw34_agree.f k4 l0 l1 t490 t493 t496 (wrap64 ((wrap64 (((rd_T30 y509 x11_2).f0) + ((rd_T30 y509 x11_2).f1))) + x13_4))).bind fun t515 => (tapearchivelaw34_ExtentAlgebra.j4 k4 l0 l1 t490 t493 t496 y509 x11_2 x13_4 (!t515) ((rd_T30 y509 x11_2).f0) ((rd_T30 y509 x11_2).f1))) = some r := by rw [if_pos rfl] at H; exact H
                    clear H
                    have H := H1
                    clear H1
                    replace H := Option.bind_eq_some_iff.mp H
                    obtain ⟨t515, A670, H⟩ := H
                    replace H : (tapearchivelaw34_ExtentAlgebra.j4 k4 l0 l1 t490 t493 t496 y509 x11_2 x13_4 (!t515) ((rd_T30 y509 x11_2).f0) ((rd_T30 y509 x11_2).f1)) = some r := H
                    have A67 := Aside0.mk A670
                    clear A670
                    have H' := Aside0.mk H
                    clear H
                    have hcz68_0 : wr.cell? ⟨gb513, 0, none⟩ = some (.int .i64 ((rd_T30 y509 x11_2).f0)) := (blk_cell BK513.out 0).trans rfl
                    have hcz68_1 : wr.cell? ⟨gb513, 1, none⟩ = some (.int .i64 ((rd_T30 y509 x11_2).f1)) := (blk_cell BK513.out 1).trans rfl
                    have hfz68_0 := blk_frozen BK513.out 0
                    have hfz68_1 := blk_frozen BK513.out 1
                    obtain ⟨Ao69, co69, eo69⟩ := Kd.R_slice HO_7.out
                    subst eo69
                    obtain ⟨Ao70, co70, eo70⟩ := Kd.R_slice HO_8.out
                    subst eo70
                    obtain ⟨Ao71, co71, eo71⟩ := Kd.R_slice HO_9.out
                    subst eo71
                    go_wp2_with (first | ((with_reducible refine gate_callee (f := 20) rfl ?_); refine goesL_ (some 98) rfl rfl Try.func20 (by kernel_rfl) rfl #[.slice A0 l0.length c0, .slice A1 l1.length c1, .slice Ao69 t490.length co69, .slice Ao70 t493.length co70, .slice Ao71 t496.length co71, .int .i64 (wrap64 (((rd_T30 y509 x11_2).f0) + x13_4))] rfl zM ?_; (with_reducible refine (tapearchivelaw34_agree.calls k4 _ _ l0 _ _ l1 _ _ t490 _ _ t493 _ _ t496 (wrap64 (((rd_T30 y509 x11_2).f0) + x13_4)) true _ ?side1 ?side2 ?side3 ?side4 ?side5 ?side6 ?side7 ?side8 ?side9 ?side10 A65.out).mono ?_); (case side1 => exact zC (Kd.C_below HR0.out HB.out)); (case side2 => exact HC0.out); (case side3 => exact zC (Kd.C_below HR1.out HB.out)); (case side4 => exact HC1.out); (case side5 => exact zC (Kd.R_reads' HO_7.out).2.2); (case side6 => exact (Kd.R_reads' HO_7.out).2.1); (case side7 => exact zC (Kd.R_reads' HO_8.out).2.2); (case side8 => exact (Kd.R_reads' HO_8.out).2.1); (case side9 => exact zC (Kd.R_reads' HO_9.out).2.2); (case side10 => exact (Kd.R_reads' HO_9.out).2.1); rintro e w72 ⟨rfl, hb⟩; refine ⟨_, rfl, ?_⟩; have n0_ := Aside0.mk (Kd.R_below (zR HO_7.out) hb); have n1_ := Aside0.mk (Kd.R_below (zR HO_8.out) hb); have n2_ := Aside0.mk (Kd.R_below (zR HO_9.out) hb); have n3_ := Aside0.mk (Kd.R_below (zR HO_10.out) hb); have n4_ := Aside0.mk (blk_below (g := gb513) (o := .cells #[.int .i64 ((rd_T30 y509 x11_2).f0), .int .i64 ((rd_T30 y509 x11_2).f1)] 30 (0, 0)) (zL BK513.out) hb); have n5_ := Aside0.mk (below_step (zG HB GE513) hb); clear HO_7; clear HO_8; clear HO_9; clear HO_10; clear BK513; clear HB; have HO_7 := n0_; have HO_8 := n1_; have HO_9 := n2_; have HO_10 := n3_; have BK513 := n4_; have HB := n5_; clear n0_ n1_ n2_ n3_ n4_ n5_; (try clear hb); (try clear hb2); (try clear hk); (try clear hi); have hcz73_0 : w72.cell? ⟨gb513, 0, none⟩ = some (.int .i64 ((rd_T30 y509 x11_2).f0)) := (blk_cell BK513.out 0).trans rfl; have hcz73_1 : w72.cell? ⟨gb513, 1, none⟩ = some (.int .i64 ((rd_T30 y509 x11_2).f1)) := (blk_cell BK513.out 1).trans rfl; have hfz73_0 := blk_frozen BK513.out 0; have hfz73_1 := blk_frozen BK513.out 1) | (go_at_call 20; (with_reducible refine (tapearchivelaw34_agree.calls k4 _ _ l0 _ _ l1 _ _ t490 _ _ t493 _ _ t496 (wrap64 ((wrap64 (((rd_T30 y509 x11_2).f0) + ((rd_T30 y509 x11_2).f1))) + x13_4)) t515 _ ?side1 ?side2 ?side3 ?side4 ?side5 ?side6 ?side7 ?side8 ?side9 ?side10 A67.out).mono ?_); (case side1 => exact zC (Kd.C_below HR0.out HB.out)); (case side2 => exact HC0.out); (case side3 => exact zC (Kd.C_below HR1.out HB.out)); (case side4 => exact HC1.out); (case side5 => exact zC (Kd.R_reads' HO_7.out).2.2); (case side6 => exact (Kd.R_reads' HO_7.out).2.1); (case side7 => exact zC (Kd.R_reads' HO_8.out).2.2); (case side8 => exact (Kd.R_reads' HO_8.out).2.1); (case side9 => exact zC (Kd.R_reads' HO_9.out).2.2); (case side10 => exact (Kd.R_reads' HO_9.out).2.1); rintro e w74 ⟨rfl, hb⟩; have n0_ := Aside0.mk (Kd.R_below (zR HO_7.out) hb); have n1_ := Aside0.mk (Kd.R_below (zR HO_8.out) hb); have n2_ := Aside0.mk (Kd.R_below (zR HO_9.out) hb); have n3_ := Aside0.mk (Kd.R_below (zR HO_10.out) hb); have n4_ := Aside0.mk (blk_below (g := gb513) (o := .cells #[.int .i64 ((rd_T30 y509 x11_2).f0), .int .i64 ((rd_T30 y509 x11_2).f1)] 30 (0, 0)) (zL BK513.out) hb); have n5_ := Aside0.mk (below_step (zG HB GE513) hb); clear HO_7; clear HO_8; clear HO_9; clear HO_10; clear BK513; clear HB; have HO_7 := n0_; have HO_8 := n1_; have HO_9 := n2_; have HO_10 := n3_; have BK513 := n4_; have HB := n5_; clear n0_ n1_ n2_ n3_ n4_ n5_; (try clear hb); (try clear hb2); (try clear hk); (try clear hi)))
                    go_meet
                    case rel => exact ⟨_, (!t515), zS, H', ⟨by have := HJ10.out; have := HK2.out; have := HJ50.out; have := HK4.out; first | omega | exact Nat.le_refl _⟩, ⟨zR HO_7.out⟩, ⟨zR HO_8.out⟩, ⟨zR HO_9.out⟩, ⟨zR HO_10.out⟩, ⟨by (with_reducible repeat (first | refine blk_drewN ?_ _ | refine blk_drew ?_ | refine blk_alloc ?_ _)); exact BK513.out⟩, ⟨zG HB GE513⟩⟩
                   ·replace c66 := Bool.eq_false_iff.mpr c66
                    subst c66
                    have H1 : (tapearchivelaw34_ExtentAlgebra.j4 k4 l0 l1 t490 t493 t496 y509 x11_2 x13_4 true ((rd_T30 y509 x11_2).f0) ((rd_T30 y509 x11_2).f1)) = some r := by rw [if_neg (show ¬ (false = true) by decide)] at H; exact H
                    clear H
                    have H := H1
                    clear H1
                    have H' := Aside0.mk H
                    clear H
                    have hcz75_0 : wr.cell? ⟨gb513, 0, none⟩ = some (.int .i64 ((rd_T30 y509 x11_2).f0)) := (blk_cell BK513.out 0).trans rfl
                    have hcz75_1 : wr.cell? ⟨gb513, 1, none⟩ = some (.int .i64 ((rd_T30 y509 x11_2).f1)) := (blk_cell BK513.out 1).trans rfl
                    have hfz75_0 := blk_frozen BK513.out 0
                    have hfz75_1 := blk_frozen BK513.out 1
                    obtain ⟨Ao76, co76, eo76⟩ := Kd.R_slice HO_7.out
                    subst eo76
                    obtain ⟨Ao77, co77, eo77⟩ := Kd.R_slice HO_8.out
                    subst eo77
                    obtain ⟨Ao78, co78, eo78⟩ := Kd.R_slice HO_9.out
                    subst eo78
                    go_wp2_with (first | ((with_reducible refine gate_callee (f := 20) rfl ?_); refine goesL_ (some 98) rfl rfl Try.func20 (by kernel_rfl) rfl #[.slice A0 l0.length c0, .slice A1 l1.length c1, .slice Ao76 t490.length co76, .slice Ao77 t493.length co77, .slice Ao78 t496.length co78, .int .i64 (wrap64 (((rd_T30 y509 x11_2).f0) + x13_4))] rfl zM ?_; (with_reducible refine (tapearchivelaw34_agree.calls k4 _ _ l0 _ _ l1 _ _ t490 _ _ t493 _ _ t496 (wrap64 (((rd_T30 y509 x11_2).f0) + x13_4)) false _ ?side1 ?side2 ?side3 ?side4 ?side5 ?side6 ?side7 ?side8 ?side9 ?side10 A65.out).mono ?_); (case side1 => exact zC (Kd.C_below HR0.out HB.out)); (case side2 => exact HC0.out); (case side3 => exact zC (Kd.C_below HR1.out HB.out)); (case side4 => exact HC1.out); (case side5 => exact zC (Kd.R_reads' HO_7.out).2.2); (case side6 => exact (Kd.R_reads' HO_7.out).2.1); (case side7 => exact zC (Kd.R_reads' HO_8.out).2.2); (case side8 => exact (Kd.R_reads' HO_8.out).2.1); (case side9 => exact zC (Kd.R_reads' HO_9.out).2.2); (case side10 => exact (Kd.R_reads' HO_9.out).2.1); rintro e w79 ⟨rfl, hb⟩; refine ⟨_, rfl, ?_⟩; have n0_ := Aside0.mk (Kd.R_below (zR HO_7.out) hb); have n1_ := Aside0.mk (Kd.R_below (zR HO_8.out) hb); have n2_ := Aside0.mk (Kd.R_below (zR HO_9.out) hb); have n3_ := Aside0.mk (Kd.R_below (zR HO_10.out) hb); have n4_ := Aside0.mk (blk_below (g := gb513) (o := .cells #[.int .i64 ((rd_T30 y509 x11_2).f0), .int .i64 ((rd_T30 y509 x11_2).f1)] 30 (0, 0)) (zL BK513.out) hb); have n5_ := Aside0.mk (below_step (zG HB GE513) hb); clear HO_7; clear HO_8; clear HO_9; clear HO_10; clear BK513; clear HB; have HO_7 := n0_; have HO_8 := n1_; have HO_9 := n2_; have HO_10 := n3_; have BK513 := n4_; have HB := n5_; clear n0_ n1_ n2_ n3_ n4_ n5_; (try clear hb); (try clear hb2); (try clear hk); (try clear hi)))
                    go_meet
                    case rel => exact ⟨_, (true), zS, H', ⟨by have := HJ10.out; have := HK2.out; have := HJ50.out; have := HK4.out; first | omega | exact Nat.le_refl _⟩, ⟨zR HO_7.out⟩, ⟨zR HO_8.out⟩, ⟨zR HO_9.out⟩, ⟨zR HO_10.out⟩, ⟨by (with_reducible repeat (first | refine blk_drewN ?_ _ | refine blk_drew ?_ | refine blk_alloc ?_ _)); exact BK513.out⟩, ⟨zG HB GE513⟩⟩
                  case rest =>
                   clear HC64
                   try clear c1
                   try clear c2
                   try clear p2
                   try clear c4
                   try clear c5
                   try clear p5
                   try clear q5
                   try clear hx5
                   try clear c6
                   try clear p6
                   try clear c7
                   try clear c8
                   try clear c9
                   try clear c16
                   try clear c17
                   try clear c18
                   try clear c19
                   try clear c20
                   try clear c21
                   try clear c42
                   try clear c43
                   try clear c44
                   try clear c49
                   try clear c49b0
                   try clear c50
                   try clear c50b0
                   try clear p51
                   try clear q51
                   try clear hx51
                   try clear c55
                   try clear c55b0
                   try clear c57
                   try clear c57b0
                   try clear c59
                   try clear c59b0
                   try clear c62
                   try clear c63
                   try clear c63b0
                   try clear p64
                   try clear c66
                   try clear hcz54_0
                   try clear hcz54_1
                   try clear hcz56_0
                   try clear hcz56_1
                   try clear hcz58_0
                   try clear hcz58_1
                   try clear hcz60_0
                   try clear hcz60_1
                   try clear hcz61_0
                   try clear hcz61_1
                   try clear hcz68_0
                   try clear hcz68_1
                   try clear hcz73_0
                   try clear hcz73_1
                   try clear hcz75_0
                   try clear hcz75_1
                   try clear hfz54_0
                   try clear hfz54_1
                   try clear hfz56_0
                   try clear hfz56_1
                   try clear hfz58_0
                   try clear hfz58_1
                   try clear hfz60_0
                   try clear hfz60_1
                   try clear hfz61_0
                   try clear hfz61_1
                   try clear hfz68_0
                   try clear hfz68_1
                   try clear hfz73_0
                   try clear hfz73_1
                   try clear hfz75_0
                   try clear hfz75_1
                   try clear hx512_0
                   try clear hx512_1
                   try clear p2
                   try clear p5
                   try clear p51
                   try clear p512
                   try clear p6
                   try clear q5
                   try clear q51
                   try clear q512
                   obtain ⟨kq, x115_63, rfl, HA, HJ63, HO_7, HO_8, HO_9, HO_10, BK513, HB⟩ := hcut
                   cases kq with
                   | zero => exact absurd HA.out (by simp [tapearchivelaw34_ExtentAlgebra.j4])
                   | succ kj63 =>
                    have H := HA.out
                    clear HA
                    simp only [tapearchivelaw34_ExtentAlgebra.j4] at H
                    by_cases c80 : x115_63 = true
                    ·subst c80
                     have H1 : (some false) = some r := by rw [if_pos rfl] at H; exact H
                     clear H
                     have H := H1
                     clear H1
                     exact absurd (Option.some.inj H) (by rw [ht_.out]; simp)
                    ·replace c80 := Bool.eq_false_iff.mpr c80
                     subst c80
                     have H1 : (tapearchivelaw34_ExtentAlgebra.l1 kj63 l0 l1 t490 t493 t496 y509 x11_2 (wrap64 (x13_4 + 1)) ((rd_T30 y509 x11_2).f0) ((rd_T30 y509 x11_2).f1)) = some r := by rw [if_neg (show ¬ (false = true) by decide)] at H; exact H
                     clear H
                     have H := H1
                     clear H1
                     have H' := Aside0.mk H
                     clear H
                     go_wp2
                     go_roundg kj63
                     case measure => have := HJ10.out; have := HK2.out; have := HJ50.out; have := HK4.out; have := HJ63.out; omega
                     case rel => exact ⟨(wrap64 (x13_4 + 1)), zS, H', ⟨by have := HJ10.out; have := HK2.out; have := HJ50.out; have := HK4.out; have := HJ63.out; omega⟩, ⟨zR HO_7.out⟩, ⟨zR HO_8.out⟩, ⟨zR HO_9.out⟩, ⟨zR HO_10.out⟩, ⟨by (with_reducible repeat (first | refine blk_drewN ?_ _ | refine blk_drew ?_ | refine blk_alloc ?_ _)); exact BK513.out⟩, ⟨zG HB GE513⟩⟩
                 ·rw [if_neg c63] at H
                  have c63b0 : decide (x13_4 ≤ 1) = false := decide_eq_false c63
                  clear c63
                  have H' := Aside0.mk H
                  clear H
                  go_wp2
                  go_roundg k4
                  case measure => have := HJ10.out; have := HK2.out; have := HJ50.out; have := HK4.out; omega
                  case rel => exact ⟨(wrap64 (x11_2 + 1)), zS, H', ⟨by have := HJ10.out; have := HK2.out; have := HJ50.out; have := HK4.out; omega⟩, ⟨by (with_reducible repeat (first | apply Kd.R_alloc | apply Kd.R_drewN | apply Kd.R_drew)); exact Kd.R_mono HO_7.out (fun _ hk => ⟨hk.1, ⟨hk.2.1, hk.2.2.1⟩⟩)⟩, ⟨by (with_reducible repeat (first | apply Kd.R_alloc | apply Kd.R_drewN | apply Kd.R_drew)); exact Kd.R_mono HO_8.out (fun _ hk => ⟨hk.1, ⟨hk.2.1, hk.2.2.1⟩⟩)⟩, ⟨by (with_reducible repeat (first | apply Kd.R_alloc | apply Kd.R_drewN | apply Kd.R_drew)); exact Kd.R_mono HO_9.out (fun _ hk => ⟨hk.1, ⟨hk.2.1, hk.2.2.1⟩⟩)⟩, ⟨by (with_reducible repeat (first | apply Kd.R_alloc | apply Kd.R_drewN | apply Kd.R_drew)); exact Kd.R_mono HO_10.out (fun _ hk => ⟨hk.1, ⟨hk.2.1, hk.2.2.1⟩⟩)⟩, ⟨zG HB GE513⟩⟩
           ·rw [if_neg c50] at H
            exact absurd H (by simp)
          ·rw [if_neg c49] at H
           have c49b0 : decide (x11_2 < (y509.length : Int)) = false := decide_eq_false c49
           clear c49
           replace H := Option.bind_eq_some_iff.mp H
           obtain ⟨t516, A810, H⟩ := H
           replace H : ((extent_Total.f k2 t493).bind fun t517 => ((extent_Total.f k2 l0).bind fun t518 => ((extent_Total.f k2 l1).bind fun t519 => (if (wrap64 (t516 + t517)) = (wrap64 (t518 + t519)) then ((extent_Total.f k2 t496).bind fun t520 => ((extent_Total.f k2 t493).bind fun t521 => ((extent_Total.f k2 l0).bind fun t522 => (some ((wrap64 (t520 + t521)) == t522))))) else (some false))))) = some r := H
           have A81 := Aside0.mk A810
           clear A810
           replace H := Option.bind_eq_some_iff.mp H
           obtain ⟨t517, A820, H⟩ := H
           replace H : ((extent_Total.f k2 l0).bind fun t518 => ((extent_Total.f k2 l1).bind fun t519 => (if (wrap64 (t516 + t517)) = (wrap64 (t518 + t519)) then ((extent_Total.f k2 t496).bind fun t520 => ((extent_Total.f k2 t493).bind fun t521 => ((extent_Total.f k2 l0).bind fun t522 => (some ((wrap64 (t520 + t521)) == t522))))) else (some false)))) = some r := H
           have A82 := Aside0.mk A820
           clear A820
           replace H := Option.bind_eq_some_iff.mp H
           obtain ⟨t518, A830, H⟩ := H
           replace H : ((extent_Total.f k2 l1).bind fun t519 => (if (wrap64 (t516 + t517)) = (wrap64 (t518 + t519)) then ((extent_Total.f k2 t496).bind fun t520 => ((extent_Total.f k2 t493).bind fun t521 => ((extent_Total.f k2 l0).bind fun t522 => (some ((wrap64 (t520 + t521)) == t522))))) else (some false))) = some r := H
           have A83 := Aside0.mk A830
           clear A830
           replace H := Option.bind_eq_some_iff.mp H
           obtain ⟨t519, A840, H⟩ := H
           replace H : (if (wrap64 (t516 + t517)) = (wrap64 (t518 + t519)) then ((extent_Total.f k2 t496).bind fun t520 => ((extent_Total.f k2 t493).bind fun t521 => ((extent_Total.f k2 l0).bind fun t522 => (some ((wrap64 (t520 + t521)) == t522))))) else (some false)) = some r := H
           have A84 := Aside0.mk A840
           clear A840
           by_cases c85 : (wrap64 (t516 + t517)) = (wrap64 (t518 + t519))
           ·rw [if_pos c85] at H
            have c85b0 : ((wrap64 (t516 + t517)) == (wrap64 (t518 + t519))) = true := beq_iff_eq.mpr c85
            have c85b1 : ((wrap64 (t516 + t517)) != (wrap64 (t518 + t519))) = false := bne_eq_false_iff_eq.mpr c85
            clear c85
            replace H := Option.bind_eq_some_iff.mp H
            obtain ⟨t520, A860, H⟩ := H
            replace H : ((extent_Total.f k2 t493).bind fun t521 => ((extent_Total.f k2 l0).bind fun t522 => (some ((wrap64 (t520 + t521)) == t522)))) = some r := H
            have A86 := Aside0.mk A860
            clear A860
            replace H := Option.bind_eq_some_iff.mp H
            obtain ⟨t521, A870, H⟩ := H
            replace H : ((extent_Total.f k2 l0).bind fun t522 => (some ((wrap64 (t520 + t521)) == t522))) = some r := H
            have A87 := Aside0.mk A870
            clear A870
            replace H := Option.bind_eq_some_iff.mp H
            obtain ⟨t522, A880, H⟩ := H
            replace H : (some ((wrap64 (t520 + t521)) == t522)) = some r := H
            have A88 := Aside0.mk A880
            clear A880
            obtain rfl := Option.some.inj H
            obtain ⟨Ao89, co89, eo89⟩ := Kd.R_slice HO_10.out
            subst eo89
            obtain ⟨Ao90, co90, eo90⟩ := Kd.R_slice HO_7.out
            subst eo90
            go_wp2_with (first | ((with_reducible refine gate_callee (f := 21) rfl ?_); refine goesL_ (some 117) rfl rfl Try.func21 (by kernel_rfl) rfl #[.slice Ao90 t490.length co90] rfl zM ?_; (with_reducible refine (extent_Total.calls k2 _ _ t490 t516 _ ?side1 ?side2 A81.out).mono ?_); (case side1 => exact zC (Kd.R_reads' HO_7.out).2.2); (case side2 => exact (Kd.R_reads' HO_7.out).2.1); rintro e w91 ⟨rfl, hb⟩; refine ⟨_, rfl, ?_⟩; have n0_ := Aside0.mk (Kd.R_below (zR HO_7.out) hb); have n1_ := Aside0.mk (Kd.R_below (zR HO_8.out) hb); have n2_ := Aside0.mk (Kd.R_below (zR HO_9.out) hb); have n3_ := Aside0.mk (Kd.R_below (zR HO_10.out) hb); have n4_ := Aside0.mk (below_step (zB HB) hb); clear HO_7; clear HO_8; clear HO_9; clear HO_10; clear HB; have HO_7 := n0_; have HO_8 := n1_; have HO_9 := n2_; have HO_10 := n3_; have HB := n4_; clear n0_ n1_ n2_ n3_ n4_; (try clear hb); (try clear hb2); (try clear hk); (try clear hi); obtain ⟨Ao92, co92, eo92⟩ := Kd.R_slice HO_8.out; subst eo92) | ((with_reducible refine gate_callee (f := 21) rfl ?_); refine goesL_ (some 119) rfl rfl Try.func21 (by kernel_rfl) rfl #[.slice Ao92 t493.length co92] rfl zM ?_; (with_reducible refine (extent_Total.calls k2 _ _ t493 t517 _ ?side1 ?side2 A82.out).mono ?_); (case side1 => exact zC (Kd.R_reads' HO_8.out).2.2); (case side2 => exact (Kd.R_reads' HO_8.out).2.1); rintro e w93 ⟨rfl, hb⟩; refine ⟨_, rfl, ?_⟩; have n0_ := Aside0.mk (Kd.R_below (zR HO_7.out) hb); have n1_ := Aside0.mk (Kd.R_below (zR HO_8.out) hb); have n2_ := Aside0.mk (Kd.R_below (zR HO_9.out) hb); have n3_ := Aside0.mk (Kd.R_below (zR HO_10.out) hb); have n4_ := Aside0.mk (below_step (zB HB) hb); clear HO_7; clear HO_8; clear HO_9; clear HO_10; clear HB; have HO_7 := n0_; have HO_8 := n1_; have HO_9 := n2_; have HO_10 := n3_; have HB := n4_; clear n0_ n1_ n2_ n3_ n4_; (try clear hb); (try clear hb2); (try clear hk); (try clear hi)) | ((with_reducible refine gate_callee (f := 21) rfl ?_); refine goesL_ (some 122) rfl rfl Try.func21 (by kernel_rfl) rfl #[.slice A0 l0.length c0] rfl zM ?_; (with_reducible refine (extent_Total.calls k2 _ _ l0 t518 _ ?side1 ?side2 A83.out).mono ?_); (case side1 => exact zC (Kd.C_below HR0.out HB.out)); (case side2 => exact HC0.out); rintro e w94 ⟨rfl, hb⟩; refine ⟨_, rfl, ?_⟩; have n0_ := Aside0.mk (Kd.R_below (zR HO_7.out) hb); have n1_ := Aside0.mk (Kd.R_below (zR HO_8.out) hb); have n2_ := Aside0.mk (Kd.R_below (zR HO_9.out) hb); have n3_ := Aside0.mk (Kd.R_below (zR HO_10.out) hb); have n4_ := Aside0.mk (below_step (zB HB) hb); clear HO_7; clear HO_8; clear HO_9; clear HO_10; clear HB; have HO_7 := n0_; have HO_8 := n1_; have HO_9 := n2_; have HO_10 := n3_; have HB := n4_; clear n0_ n1_ n2_ n3_ n4_; (try clear hb); (try clear hb2); (try clear hk); (try clear hi)) | ((with_reducible refine gate_callee (f := 21) rfl ?_); refine goesL_ (some 124) rfl rfl Try.func21 (by kernel_rfl) rfl #[.slice A1 l1.length c1] rfl zM ?_; (with_reducible refine (extent_Total.calls k2 _ _ l1 t519 _ ?side1 ?side2 A84.out).mono ?_); (case side1 => exact zC (Kd.C_below HR1.out HB.out)); (case side2 => exact HC1.out); rintro e w95 ⟨rfl, hb⟩; refine ⟨_, rfl, ?_⟩; have n0_ := Aside0.mk (Kd.R_below (zR HO_7.out) hb); have n1_ := Aside0.mk (Kd.R_below (zR HO_8.out) hb); have n2_ := Aside0.mk (Kd.R_below (zR HO_9.out) hb); have n3_ := Aside0.mk (Kd.R_below (zR HO_10.out) hb); have n4_ := Aside0.mk (below_step (zB HB) hb); clear HO_7; clear HO_8; clear HO_9; clear HO_10; clear HB; have HO_7 := n0_; have HO_8 := n1_; have HO_9 := n2_; have HO_10 := n3_; have HB := n4_; clear n0_ n1_ n2_ n3_ n4_; (try clear hb); (try clear hb2); (try clear hk); (try clear hi); obtain ⟨Ao96, co96, eo96⟩ := Kd.R_slice HO_9.out; subst eo96) | (go_at_call 21; (with_reducible refine (extent_Total.calls k2 _ _ t496 t520 _ ?side1 ?side2 A86.out).mono ?_); (case side1 => exact zC (Kd.R_reads' HO_9.out).2.2); (case side2 => exact (Kd.R_reads' HO_9.out).2.1); rintro e w97 ⟨rfl, hb⟩; have n0_ := Aside0.mk (Kd.R_below (zR HO_7.out) hb); have n1_ := Aside0.mk (Kd.R_below (zR HO_8.out) hb); have n2_ := Aside0.mk (Kd.R_below (zR HO_9.out) hb); have n3_ := Aside0.mk (Kd.R_below (zR HO_10.out) hb); have n4_ := Aside0.mk (below_step (zB HB) hb); clear HO_7; clear HO_8; clear HO_9; clear HO_10; clear HB; have HO_7 := n0_; have HO_8 := n1_; have HO_9 := n2_; have HO_10 := n3_; have HB := n4_; clear n0_ n1_ n2_ n3_ n4_; (try clear hb); (try clear hb2); (try clear hk); (try clear hi)) | (go_at_call 21; (with_reducible refine (extent_Total.calls k2 _ _ t493 t521 _ ?side1 ?side2 A87.out).mono ?_); (case side1 => exact zC (Kd.R_reads' HO_8.out).2.2); (case side2 => exact (Kd.R_reads' HO_8.out).2.1); rintro e w98 ⟨rfl, hb⟩; have n0_ := Aside0.mk (Kd.R_below (zR HO_7.out) hb); have n1_ := Aside0.mk (Kd.R_below (zR HO_8.out) hb); have n2_ := Aside0.mk (Kd.R_below (zR HO_9.out) hb); have n3_ := Aside0.mk (Kd.R_below (zR HO_10.out) hb); have n4_ := Aside0.mk (below_step (zB HB) hb); clear HO_7; clear HO_8; clear HO_9; clear HO_10; clear HB; have HO_7 := n0_; have HO_8 := n1_; have HO_9 := n2_; have HO_10 := n3_; have HB := n4_; clear n0_ n1_ n2_ n3_ n4_; (try clear hb); (try clear hb2); (try clear hk); (try clear hi)) | (go_at_call 21; (with_reducible refine (extent_Total.calls k2 _ _ l0 t522 _ ?side1 ?side2 A88.out).mono ?_); (case side1 => exact zC (Kd.C_below HR0.out HB.out)); (case side2 => exact HC0.out); rintro e w99 ⟨rfl, hb⟩; have n0_ := Aside0.mk (Kd.R_below (zR HO_7.out) hb); have n1_ := Aside0.mk (Kd.R_below (zR HO_8.out) hb); have n2_ := Aside0.mk (Kd.R_below (zR HO_9.out) hb); have n3_ := Aside0.mk (Kd.R_below (zR HO_10.out) hb); have n4_ := Aside0.mk (below_step (zB HB) hb); clear HO_7; clear HO_8; clear HO_9; clear HO_10; clear HB; have HO_7 := n0_; have HO_8 := n1_; have HO_9 := n2_; have HO_10 := n3_; have HB := n4_; clear n0_ n1_ n2_ n3_ n4_; (try clear hb); (try clear hb2); (try clear hk); (try clear hi)))
            go_ret
            exact ⟨by first | rfl | (simp [errW_none, errW_some] <;> rfl) | (simp [*, errW_none, errW_some] <;> rfl), by repeat (first | (with_reducible first | exact HB.out | apply below_alloc | apply pw_below_drewN | apply below_drew1) | exact HB.out)⟩
           ·rw [if_neg c85] at H
            have c85b0 : ((wrap64 (t516 + t517)) == (wrap64 (t518 + t519))) = false := beq_eq_false_iff_ne.mpr c85
            have c85b1 : ((wrap64 (t516 + t517)) != (wrap64 (t518 + t519))) = true := bne_iff_ne.mpr c85
            exact absurd (Option.some.inj H) (by rw [ht_.out]; simp)
       ·rw [if_neg c44] at H
        exact absurd H (by simp)
      ·rw [if_neg c43] at H
       exact absurd H (by simp)
  ·replace c7 := Bool.eq_false_iff.mpr c7
   subst c7
   have H1 : (some true) = some r := by rw [if_neg (show ¬ (false = true) by decide)] at H; exact H
   clear H
   have H := H1
   clear H1
   obtain rfl := Option.some.inj H
   go_enter Try.func6, Try.ntmps6
   go_wp2_with (first | ((with_reducible refine gate_callee (f := 8) rfl ?_); refine goesL_ (some 14) rfl rfl Try.func8 (by kernel_rfl) rfl #[] rfl zM ?_; (with_reducible refine (tapearchivelaw34_lives_s.calls  true _ A4.out).mono ?_); rintro e w100 ⟨rfl, hb⟩; refine ⟨_, rfl, ?_⟩; have n0_ := Aside0.mk (below_step (zB HB) hb); clear HB; have HB := n0_; clear n0_; (try clear hb); (try clear hb2); (try clear hk); (try clear hi)) | ((with_reducible refine gate_callee (f := 9) rfl ?_); refine goesL_ (some 18) rfl rfl Try.func9 (by kernel_rfl) rfl #[.slice A0 l0.length c0, .slice A1 l1.length c1] rfl zM ?_; (with_reducible refine (tapearchivelaw34_few.calls _ _ l0 _ _ l1 false _ ?side1 ?side2 ?side3 ?side4 A6.out).mono ?_); (case side1 => exact zC (Kd.C_below HR0.out HB.out)); (case side2 => exact HC0.out); (case side3 => exact zC (Kd.C_below HR1.out HB.out)); (case side4 => exact HC1.out); rintro e w' ⟨rfl, ⟨nd, rfl⟩⟩; refine ⟨_, rfl, ?_⟩))
   go_ret
   exact ⟨by first | rfl | (simp [errW_none, errW_some] <;> rfl) | (simp [*, errW_none, errW_some] <;> rfl), by repeat (first | (with_reducible first | exact HB.out | apply below_alloc | apply pw_below_drewN | apply below_drew1) | exact HB.out)⟩
 ·replace c5 := Bool.eq_false_iff.mpr c5
  subst c5
  have H1 : (some false) = some r := by rw [if_neg (show ¬ (false = true) by decide)] at H; exact H
  clear H
  have H := H1
  clear H1
  exact absurd (Option.some.inj H) (by rw [ht_.out]; simp)

end
end Go.Proofs.Ytcckacamocaofaa.P
