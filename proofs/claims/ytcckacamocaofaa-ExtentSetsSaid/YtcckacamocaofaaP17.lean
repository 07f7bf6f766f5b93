-- Written by this session's wip/tools/px.py out of the translation. Lean checks it.
import Derived.Test.YtcckacamocaofaaP0
import Derived.Test.YtcckacamocaofaaP8
import Derived.Test.YtcckacamocaofaaP9
import Derived.Test.YtcckacamocaofaaP15
import Derived.Test.YtcckacamocaofaaP16
import Derived.Test.YtcckacamocaofaaExtE
import Derived.Test.YtcckacamocaofaaLives
namespace Go.Proofs.Ytcckacamocaofaa.P
noncomputable section
open Go.RowKit Go.Proofs.YtcckacamocaofaaW.PrintWords Go.Proofs.YtcckacamocaofaaW.PrintLast Go.Proofs.YtcckacamocaofaaW.PrintMore
attribute [local go_sem] max2_int min2_int max_two min_two max_three min_three max_four min_four   -- for this text's walks alone
set_option linter.unusedVariables false
set_option linter.unusedSimpArgs false

/-! ### tapearchivelaw34_ExtentSets: function 7 -/
def tapearchivelaw34_ExtentSets.f (k : Nat) (l0 : List (S30)) (l1 : List (S30)) (a2_0 : Int) (a2_1 : Int) : Option (Bool) := (tapearchivelaw34_lives_s.f).bind fun t338 => (if t338 = true then ((tapearchivelaw34_few.f l0 l1).bind fun t339 => (if t339 = true then ((extent_Normal.f l0).bind fun t340 => ((tapearchiveref34_Normal.f k l0).bind fun t343 => ((tapearchiveref34_Same.f k t340 t343).bind fun t346 => (if t346 = true then ((extent_Union.f l0 l1).bind fun t347 => ((tapearchiveref34_Union.f k l0 l1).bind fun t350 => ((tapearchiveref34_Same.f k t347 t350).bind fun t353 => (if t353 = true then ((extent_Intersect.f l0 l1).bind fun t354 => ((tapearchiveref34_Intersect.f k l0 l1).bind fun t357 => ((tapearchiveref34_Same.f k t354 t357).bind fun t360 => (if t360 = true then ((extent_Subtract.f l0 l1).bind fun t361 => ((tapearchiveref34_Subtract.f k l0 l1).bind fun t364 => ((tapearchiveref34_Same.f k t361 t364).bind fun t367 => (if t367 = true then ((extent_Covers.f l0 a2_0 a2_1).bind fun t368 => ((tapearchiveref34_Covers.f k l0 a2_0 a2_1).bind fun t369 => (if (t368 == t369) = true then ((extent_Total.f k l0).bind fun t370 => ((tapearchiveref34_Total.f k l0).bind fun t371 => (some (t370 == t371)))) else (some false)))) else (some false))))) else (some false))))) else (some false))))) else (some false))))) else (some true))) else (some false))
theorem tapearchivelaw34_ExtentSets.mono : ∀ a0 a1 a2 a3 k, LeO (tapearchivelaw34_ExtentSets.f k a0 a1 a2 a3) (tapearchivelaw34_ExtentSets.f (k + 1) a0 a1 a2 a3) := by
 intro a0 a1 a2 a3 k
 unfold tapearchivelaw34_ExtentSets.f
 repeat' first
   | (with_reducible exact extent_Total.mono _ _)
   | (with_reducible exact tapearchiveref34_Covers.mono _ _ _ _)
   | (with_reducible exact tapearchiveref34_Intersect.mono _ _ _)
   | (with_reducible exact tapearchiveref34_Normal.mono _ _)
   | (with_reducible exact tapearchiveref34_Same.mono _ _ _)
   | (with_reducible exact tapearchiveref34_Subtract.mono _ _ _)
   | (with_reducible exact tapearchiveref34_Total.mono _ _)
   | (with_reducible exact tapearchiveref34_Union.mono _ _ _)
   | (with_reducible exact LeO.refl _)
   | (with_reducible exact LeO.none _)
   | (with_reducible refine LeO.ite ?_ ?_)
   | (with_reducible refine LeO.bind ?_ (fun _ => ?_))
   | exact extent_Total.mono _ _
   | exact tapearchiveref34_Covers.mono _ _ _ _
   | exact tapearchiveref34_Intersect.mono _ _ _
   | exact tapearchiveref34_Normal.mono _ _
   | exact tapearchiveref34_Same.mono _ _ _
   | exact tapearchiveref34_Subtract.mono _ _ _
   | exact tapearchiveref34_Total.mono _ _
   | exact tapearchiveref34_Union.mono _ _ _
   | exact LeO.none _
   | refine LeO.ite ?_ ?_
   | refine LeO.bind ?_ (fun _ => ?_)
def tapearchivelaw34_ExtentSets.T5 : Bool × List (List Nat × List Nat) := (true, [([], []), ([0], [0]), ([], []), ([2, 1], [2]), ([1, 3, 3], [1, 3]), ([4, 4], [4]), ([5], [5]), ([5], [5]), ([6, 7, 5, 5], [5, 6, 7]), ([5], [5]), ([5], [5]), ([9, 10, 8, 5], [5, 9, 10]), ([8, 11, 11, 5], [5, 8, 11]), ([5, 12], [5, 12]), ([13, 12], [13]), ([14], [14]), ([14], [14]), ([15, 16, 14, 14], [14, 15, 16]), ([14], [14]), ([14], [14]), ([18, 19, 17, 14], [14, 18, 19]), ([17, 20, 20, 14], [14, 17, 20]), ([14, 21], [14, 21]), ([22, 21], [22]), ([23], [23]), ([23], [23]), ([24, 25, 23, 23], [23, 24, 25]), ([23], [23]), ([23], [23]), ([27, 28, 26, 23], [23, 27, 28]), ([26, 29, 29, 23], [23, 26, 29]), ([23, 30], [23, 30]), ([31, 30], [31]), ([32], [32]), ([32], [32]), ([33, 34, 32, 32], [32, 33, 34]), ([32], [32]), ([32], [32]), ([36, 37, 35, 32], [32, 36, 37]), ([35, 38, 32], [32, 35, 38]), ([32, 39], [32, 39]), ([40, 38], [40]), ([41], [41]), ([42, 41, 41], [41, 42]), ([41], [41]), ([44, 43, 41], [41, 44]), ([43, 45, 41], [41, 43, 45]), ([41, 46], [41, 46]), ([47, 45, 0, 1, 2, 3, 4, 5, 6, 7, 8, 9, 10, 11, 12, 13, 14, 15, 16, 17, 18, 19, 20, 21, 22, 23, 24, 25, 26, 27, 28, 29, 30, 31, 32, 33, 34, 35, 36, 37, 38, 39, 40, 41, 42, 43, 44, 45, 46, 47], [47])])
def tapearchivelaw34_ExtentSets.B5 : List Nat := [0, 1, 0, 7, 15, 31, 63, 63, 255, 63, 63, 2047, 4095, 8191, 16383, 32767, 32767, 131071, 32767, 32767, 1048575, 2097151, 4194303, 8388607, 16777215, 16777215, 67108863, 16777215, 16777215, 536870911, 1073741823, 2147483647, 4294967295, 8589934591, 8589934591, 34359738367, 8589934591, 8589934591, 274877906943, 549755813887, 1099511627775, 2199023255551, 4398046511103, 8796093022207, 4398046511103, 35184372088831, 70368744177663, 140737488355327, 281474976710655]
theorem tapearchivelaw34_ExtentSets.tab5 : rtab .any (opsOf Try.f7 5) = tapearchivelaw34_ExtentSets.T5 := by kernel_rfl
theorem tapearchivelaw34_ExtentSets.bits5 : waitsOk tapearchivelaw34_ExtentSets.T5.2 tapearchivelaw34_ExtentSets.B5 = true := by kernel_rfl
set_option maxHeartbeats 8000000 in
set_option maxRecDepth 100000 in
theorem tapearchivelaw34_ExtentSets.calls (k : Nat) (A0 : Option Addr) (c0 : Nat) (l0 : List (S30)) (A1 : Option Addr) (c1 : Nat) (l1 : List (S30)) (a2_0 : Int) (a2_1 : Int) (r : Bool) (w : World) (hr0 : Kd.C k30 w A0 l0.length l0) (hc0 : l0.length ≤ c0) (hr1 : Kd.C k30 w A1 l1.length l1) (hc1 : l1.length ≤ c1) (ht_ : Aside0 (r = true)) (h : tapearchivelaw34_ExtentSets.f k l0 l1 a2_0 a2_1 = some r) :
  Calls Try.prog 7 #[.slice A0 l0.length c0, .slice A1 l1.length c1, .agg #[.int .i64 a2_0, .int .i64 a2_1]] w fun e w' => e = .returned (.bool r) ∧ Below w.heap.size w w' := by
 have hu30 := Try.underlying30
 have HR0 := Aside0.mk hr0
 have HC0 := Aside0.mk hc0
 clear hr0 hc0
 have HR1 := Aside0.mk hr1
 have HC1 := Aside0.mk hc1
 clear hr1 hc1
 have HB := Aside0.mk (Below.refl w.heap.size w)
 have H : ((tapearchivelaw34_lives_s.f).bind fun t338 => (if t338 = true then ((tapearchivelaw34_few.f l0 l1).bind fun t339 => (if t339 = true then ((extent_Normal.f l0).bind fun t340 => ((tapearchiveref34_Normal.f k l0).bind fun t343 => ((tapearchiveref34_Same.f k t340 t343).bind fun t346 => (if t346 = true then ((extent_Union.f l0 l1).bind fun t347 => ((tapearchiveref34_Union.f k l0 l1).bind fun t350 => ((tapearchiveref34_Same.f k t347 t350).bind fun t353 => (if t353 = true then ((extent_Intersect.f l0 l1).bind fun t354 => ((tapearchiveref34_Intersect.f k l0 l1).bind fun t357 => ((tapearchiveref34_Same.f k t354 t357).bind fun t360 => (if t360 = true then ((extent_Subtract.f l0 l1).bind fun t361 => ((tapearchiveref34_Subtract.f k l0 l1).bind fun t364 => ((tapearchiveref34_Same.f k t361 t364).bind fun t367 => (if t367 = true then ((extent_Covers.f l0 a2_0 a2_1).bind fun t368 => ((tapearchiveref34_Covers.f k l0 a2_0 a2_1).bind fun t369 => (if (t368 == t369) = true then ((extent_Total.f k l0).bind fun t370 => ((tapearchiveref34_Total.f k l0).bind fun t371 => (some (t370 == t371)))) else (some false)))) else (some false))))) else (some false))))) else (some false))))) else (some false))))) else (some true))) else (some false))) = some r := h
 clear h
 replace H := Option.bind_eq_some_iff.mp H
 obtain ⟨t338, A40, H⟩ := H
 replace H : (if t338 = true then ((tapearchivelaw34_few.f l0 l1).bind fun t339 => (if t339 = true then ((extent_Normal.f l0).bind fun t340 => ((tapearchiveref34_Normal.f k l0).bind fun t343 => ((tapearchiveref34_Same.f k t340 t343).bind fun t346 => (if t346 = true then ((extent_Union.f l0 l1).bind fun t347 => ((tapearchiveref34_Union.f k l0 l1).bind fun t350 => ((tapearchiveref34_Same.f k t347 t350).bind fun t353 => (if t353 = true then ((extent_Intersect.f l0 l1).bind fun t354 => ((tapearchiveref34_Intersect.f k l0 l1).bind fun t357 => ((tapearchiveref34_Same.f k t354 t357).bind fun t360 => (if t360 = true then ((extent_Subtract.f l0 l1).bind fun t361 => ((tapearchiveref34_Subtract.f k l0 l1).bind fun t364 => ((tapearchiveref34_Same.f k t361 t364).bind fun t367 => (if t367 = true then ((extent_Covers.f l0 a2_0 a2_1).bind fun t368 => ((tapearchiveref34_Covers.f k l0 a2_0 a2_1).bind fun t369 => (if (t368 == t369) = true then ((extent_Total.f k l0).bind fun t370 => ((tapearchiveref34_Total.f k l0).bind fun t371 => (some (t370 == t371)))) else (some false)))) else (some false))))) else (some false))))) else (some false))))) else (some false))))) else (some true))) else (some false)) = some r := H
 have A4 := Aside0.mk A40
 clear A40
 by_cases c5 : t338 = true
 ·subst c5
  have H1 : ((tapearchivelaw34_few.f l0 l1).bind fun t339 => (if t339 = true then ((extent_Normal.f l0).bind fun t340 => ((tapearchiveref34_Normal.f k l0).bind fun t343 => ((tapearchiveref34_Same.f k t340 t343).bind fun t346 => (if t346 = true then ((extent_Union.f l0 l1).bind fun t347 => ((tapearchiveref34_Union.f k l0 l1).bind fun t350 => ((tapearchiveref34_Same.f k t347 t350).bind fun t353 => (if t353 = true then ((extent_Intersect.f l0 l1).bind fun t354 => ((tapearchiveref34_Intersect.f k l0 l1).bind fun t357 => ((tapearchiveref34_Same.f k t354 t357).bind fun t360 => (if t360 = true then ((extent_Subtract.f l0 l1).bind fun t361 => ((tapearchiveref34_Subtract.f k l0 l1).bind fun t364 => ((tapearchiveref34_Same.f k t361 t364).bind fun t367 => (if t367 = true then ((extent_Covers.f l0 a2_0 a2_1).bind fun t368 => ((tapearchiveref34_Covers.f k l0 a2_0 a2_1).bind fun t369 => (if (t368 == t369) = true then ((extent_Total.f k l0).bind fun t370 => ((tapearchiveref34_Total.f k l0).bind fun t371 => (some (t370 == t371)))) else (some false)))) else (some false))))) else (some false))))) else (some false))))) else (some false))))) else (some true))) = some r := by rw [if_pos rfl] at H; exact H
  clear H
  have H := H1
  clear H1
  replace H := Option.bind_eq_some_iff.mp H
  obtain ⟨t339, A60, H⟩ := H
  replace H : (if t339 = true then ((extent_Normal.f l0).bind fun t340 => ((tapearchiveref34_Normal.f k l0).bind fun t343 => ((tapearchiveref34_Same.f k t340 t343).bind fun t346 => (if t346 = true then ((extent_Union.f l0 l1).bind fun t347 => ((tapearchiveref34_Union.f k l0 l1).bind fun t350 => ((tapearchiveref34_Same.f k t347 t350).bind fun t353 => (if t353 = true then ((extent_Intersect.f l0 l1).bind fun t354 => ((tapearchiveref34_Intersect.f k l0 l1).bind fun t357 => ((tapearchiveref34_Same.f k t354 t357).bind fun t360 => (if t360 = true then ((extent_Subtract.f l0 l1).bind fun t361 => ((tapearchiveref34_Subtract.f k l0 l1).bind fun t364 => ((tapearchiveref34_Same.f k t361 t364).bind fun t367 => (if t367 = true then ((extent_Covers.f l0 a2_0 a2_1).bind fun t368 => ((tapearchiveref34_Covers.f k l0 a2_0 a2_1).bind fun t369 => (if (t368 == t369) = true then ((extent_Total.f k l0).bind fun t370 => ((tapearchiveref34_Total.f k l0).bind fun t371 => (some (t370 == t371)))) else (some false)))) else (some false))))) else (some false))))) else (some false))))) else (some false))))) else (some true)) = some r := H
  have A6 := Aside0.mk A60
  clear A60
  by_cases c7 : t339 = true
  ·subst c7
   have H1 : ((extent_Normal.f l0).bind fun t340 => ((tapearchiveref34_Normal.f k l0).bind fun t343 => ((tapearchiveref34_Same.f k t340 t343).bind fun t346 => (if t346 = true then ((extent_Union.f l0 l1).bind fun t347 => ((tapearchiveref34_Union.f k l0 l1).bind fun t350 => ((tapearchiveref34_Same.f k t347 t350).bind fun t353 => (if t353 = true then ((extent_Intersect.f l0 l1).bind fun t354 => ((tapearchiveref34_Intersect.f k l0 l1).bind fun t357 => ((tapearchiveref34_Same.f k t354 t357).bind fun t360 => (if t360 = true then ((extent_Subtract.f l0 l1).bind fun t361 => ((tapearchiveref34_Subtract.f k l0 l1).bind fun t364 => ((tapearchiveref34_Same.f k t361 t364).bind fun t367 => (if t367 = true then ((extent_Covers.f l0 a2_0 a2_1).bind fun t368 => ((tapearchiveref34_Covers.f k l0 a2_0 a2_1).bind fun t369 => (if (t368 == t369) = true then ((extent_Total.f k l0).bind fun t370 => ((tapearchiveref34_Total.f k l0).bind fun t371 => (some (t370 == t371)))) else (some false)))) else (some false))))) else (some false))))) else (some false))))) else (some false))))) = some r := by rw [if_pos rfl] at H; exact H
   clear H
   have H := H1
   clear H1
   replace H := Option.bind_eq_some_iff.mp H
   obtain ⟨t340, A80, H⟩ := H
   replace H : ((tapearchiveref34_Normal.f k l0).bind fun t343 => ((tapearchiveref34_Same.f k t340 t343).bind fun t346 => (if t346 = true then ((extent_Union.f l0 l1).bind fun t347 => ((tapearchiveref34_Union.f k l0 l1).bind fun t350 => ((tapearchiveref34_Same.f k t347 t350).bind fun t353 => (if t353 = true then ((extent_Intersect.f l0 l1).bind fun t354 => ((tapearchiveref34_Intersect.f k l0 l1).bind fun t357 => ((tapearchiveref34_Same.f k t354 t357).bind fun t360 => (if t360 = true then ((extent_Subtract.f l0 l1).bind fun t361 => ((tapearchiveref34_Subtract.f k l0 l1).bind fun t364 => ((tapearchiveref34_Same.f k t361 t364).bind fun t367 => (if t367 = true then ((extent_Covers.f l0 a2_0 a2_1).bind fun t368 => ((tapearchiveref34_Covers.f k l0 a2_0 a2_1).bind fun t369 => (if (t368 == t369) = true then ((extent_Total.f k l0).bind fun t370 => ((tapearchiveref34_Total.f k l0).bind fun t371 => (some (t370 == t371)))) else (some false)))) else (some false))))) else (some false))))) else (some false))))) else (some false)))) = some r := H
   have A8 := Aside0.mk A80
   clear A80
   replace H := Option.bind_eq_some_iff.mp H
   obtain ⟨t343, A90, H⟩ := H
   replace H : ((tapearchiveref34_Same.f k t340 t343).bind fun t346 => (if t346 = true then ((extent_Union.f l0 l1).bind fun t347 => ((tapearchiveref34_Union.f k l0 l1).bind fun t350 => ((tapearchiveref34_Same.f k t347 t350).bind fun t353 => (if t353 = true then ((extent_Intersect.f l0 l1).bind fun t354 => ((tapearchiveref34_Intersect.f k l0 l1).bind fun t357 => ((tapearchiveref34_Same.f k t354 t357).bind fun t360 => (if t360 = true then ((extent_Subtract.f l0 l1).bind fun t361 => ((tapearchiveref34_Subtract.f k l0 l1).bind fun t364 => ((tapearchiveref34_Same.f k t361 t364).bind fun t367 => (if t367 = true then ((extent_Covers.f l0 a2_0 a2_1).bind fun t368 => ((tapearchiveref34_Covers.f k l0 a2_0 a2_1).bind fun t369 => (if (t368 == t369) = true then ((extent_Total.f k l0).bind fun t370 => ((tapearchiveref34_Total.f k l0).bind fun t371 => (some (t370 == t371)))) else (some false)))) else (some false))))) else (some false))))) else (some false))))) else (some false))) = some r := H
   have A9 := Aside0.mk A90
   clear A90
   replace H := Option.bind_eq_some_iff.mp H
   obtain ⟨t346, A100, H⟩ := H
   replace H : (if t346 = true then ((extent_Union.f l0 l1).bind fun t347 => ((tapearchiveref34_Union.f k l0 l1).bind fun t350 => ((tapearchiveref34_Same.f k t347 t350).bind fun t353 => (if t353 = true then ((extent_Intersect.f l0 l1).bind fun t354 => ((tapearchiveref34_Intersect.f k l0 l1).bind fun t357 => ((tapearchiveref34_Same.f k t354 t357).bind fun t360 => (if t360 = true then ((extent_Subtract.f l0 l1).bind fun t361 => ((tapearchiveref34_Subtract.f k l0 l1).bind fun t364 => ((tapearchiveref34_Same.f k t361 t364).bind fun t367 => (if t367 = true then ((extent_Covers.f l0 a2_0 a2_1).bind fun t368 => ((tapearchiveref34_Covers.f k l0 a2_0 a2_1).bind fun t369 => (if (t368 == t369) = true then ((extent_Total.f k l0).bind fun t370 => ((tapearchiveref34_Total.f k l0).bind fun t371 => (some (t370 == t371)))) else (some false)))) else (some false))))) else (some false))))) else (some false))))) else (some false)) = some r := H
   have A10 := Aside0.mk A100
   clear A100
   by_cases c11 : t346 = true
   ·subst c11
    have H1 : ((extent_Union.f l0 l1).bind fun t347 => ((tapearchiveref34_Union.f k l0 l1).bind fun t350 => ((tapearchiveref34_Same.f k t347 t350).bind fun t353 => (if t353 = true then ((extent_Intersect.f l0 l1).bind fun t354 => ((tapearchiveref34_Intersect.f k l0 l1).bind fun t357 => ((tapearchiveref34_Same.f k t354 t357).bind fun t360 => (if t360 = true then ((extent_Subtract.f l0 l1).bind fun t361 => ((tapearchiveref34_Subtract.f k l0 l1).bind fun t364 => ((tapearchiveref34_Same.f k t361 t364).bind fun t367 => (if t367 = true then ((extent_Covers.f l0 a2_0 a2_1).bind fun t368 => ((tapearchiveref34_Covers.f k l0 a2_0 a2_1).bind fun t369 => (if (t368 == t369) = true then ((extent_Total.f k l0).bind fun t370 => ((tapearchiveref34_Total.f k l0).bind fun t371 => (some (t370 == t371)))) else (some false)))) else (some false))))) else (some false))))) else (some false))))) = some r := by rw [if_pos rfl] at H; exact H
    clear H
    have H := H1
    clear H1
    replace H := Option.bind_eq_some_iff.mp H
    obtain ⟨t347, A120, H⟩ := H
    replace H : ((tapearchiveref34_Union.f k l0 l1).bind fun t350 => ((tapearchiveref34_Same.f k t347 t350).bind fun t353 => (if t353 = true then ((extent_Intersect.f l0 l1).bind fun t354 => ((tapearchiveref34_Intersect.f k l0 l1).bind fun t357 => ((tapearchiveref34_Same.f k t354 t357).bind fun t360 => (if t360 = true then ((extent_Subtract.f l0 l1).bind fun t361 => ((tapearchiveref34_Subtract.f k l0 l1).bind fun t364 => ((tapearchiveref34_Same.f k t361 t364).bind fun t367 => (if t367 = true then ((extent_Covers.f l0 a2_0 a2_1).bind fun t368 => ((tapearchiveref34_Covers.f k l0 a2_0 a2_1).bind fun t369 => (if (t368 == t369) = true then ((extent_Total.f k l0).bind fun t370 => ((tapearchiveref34_Total.f k l0).bind fun t371 => (some (t370 == t371)))) else (some false)))) else (some false))))) else (some false))))) else (some false)))) = some r := H
    have A12 := Aside0.mk A120
    clear A120
    replace H := Option.bind_eq_some_iff.mp H
    obtain ⟨t350, A130, H⟩ := H
    replace H : ((tapearchiveref34_Same.f k t347 t350).bind fun t353 => (if t353 = true then ((extent_Intersect.f l0 l1).bind fun t354 => ((tapearchiveref34_Intersect.f k l0 l1).bind fun t357 => ((tapearchiveref34_Same.f k t354 t357).bind fun t360 => (if t360 = true then ((extent_Subtract.f l0 l1).bind fun t361 => ((tapearchiveref34_Subtract.f k l0 l1).bind fun t364 => ((tapearchiveref34_Same.f k t361 t364).bind fun t367 => (if t367 = true then ((extent_Covers.f l0 a2_0 a2_1).bind fun t368 => ((tapearchiveref34_Covers.f k l0 a2_0 a2_1).bind fun t369 => (if (t368 == t369) = true then ((extent_Total.f k l0).bind fun t370 => ((tapearchiveref34_Total.f k l0).bind fun t371 => (some (t370 == t371)))) else (some false)))) else (some false))))) else (some false))))) else (some false))) = some r := H
    have A13 := Aside0.mk A130
    clear A130
    replace H := Option.bind_eq_some_iff.mp H
    obtain ⟨t353, A140, H⟩ := H
    replace H : (if t353 = true then ((extent_Intersect.f l0 l1).bind fun t354 => ((tapearchiveref34_Intersect.f k l0 l1).bind fun t357 => ((tapearchiveref34_Same.f k t354 t357).bind fun t360 => (if t360 = true then ((extent_Subtract.f l0 l1).bind fun t361 => ((tapearchiveref34_Subtract.f k l0 l1).bind fun t364 => ((tapearchiveref34_Same.f k t361 t364).bind fun t367 => (if t367 = true then ((extent_Covers.f l0 a2_0 a2_1).bind fun t368 => ((tapearchiveref34_Covers.f k l0 a2_0 a2_1).bind fun t369 => (if (t368 == t369) = true then ((extent_Total.f k l0).bind fun t370 => ((tapearchiveref34_Total.f k l0).bind fun t371 => (some (t370 == t371)))) else (some false)))) else (some false))))) else (some false))))) else (some false)) = some r := H
    have A14 := Aside0.mk A140
    clear A140
    by_cases c15 : t353 = true
    ·subst c15
     have H1 : ((extent_Intersect.f l0 l1).bind fun t354 => ((tapearchiveref34_Intersect.f k l0 l1).bind fun t357 => ((tapearchiveref34_Same.f k t354 t357).bind fun t360 => (if t360 = true then ((extent_Subtract.f l0 l1).bind fun t361 => ((tapearchiveref34_Subtract.f k l0 l1).bind fun t364 => ((tapearchiveref34_Same.f k t361 t364).bind fun t367 => (if t367 = true then ((extent_Covers.f l0 a2_0 a2_1).bind fun t368 => ((tapearchiveref34_Covers.f k l0 a2_0 a2_1).bind fun t369 => (if (t368 == t369) = true then ((extent_Total.f k l0).bind fun t370 => ((tapearchiveref34_Total.f k l0).bind fun t371 => (some (t370 == t371)))) else (some false)))) else (some false))))) else (some false))))) = some r := by rw [if_pos rfl] at H; exact H
     clear H
     have H := H1
     clear H1
     replace H := Option.bind_eq_some_iff.mp H
     obtain ⟨t354, A160, H⟩ := H
     replace H : ((tapearchiveref34_Intersect.f k l0 l1).bind fun t357 => ((tapearchiveref34_Same.f k t354 t357).bind fun t360 => (if t360 = true then ((extent_Subtract.f l0 l1).bind fun t361 => ((tapearchiveref34_Subtract.f k l0 l1).bind fun t364 => ((tapearchiveref34_Same.f k t361 t364).bind fun t367 => (if t367 = true then ((extent_Covers.f l0 a2_0 a2_1).bind fun t368 => ((tapearchiveref34_Covers.f k l0 a2_0 a2_1).bind fun t369 => (if (t368 == t369) = true then ((extent_Total.f k l0).bind fun t370 => ((tapearchiveref34_Total.f k l0).bind fun t371 => (some (t370 == t371)))) else (some false)))) else (some false))))) else (some false)))) = some r := H
     have A16 := Aside0.mk A160
     clear A160
     replace H := Option.bind_eq_some_iff.mp H
     obtain ⟨t357, A170, H⟩ := H
     replace H : ((tapearchiveref34_Same.f k t354 t357).bind fun t360 => (if t360 = true then ((extent_Subtract.f l0 l1).bind fun t361 => ((tapearchiveref34_Subtract.f k l0 l1).bind fun t364 => ((tapearchiveref34_Same.f k t361 t364).bind fun t367 => (if t367 = true then ((extent_Covers.f l0 a2_0 a2_1).bind fun t368 => ((tapearchiveref34_Covers.f k l0 a2_0 a2_1).bind fun t369 => (if (t368 == t369) = true then ((extent_Total.f k l0).bind fun t370 => ((tapearchiveref34_Total.f k l0).bind fun t371 => (some (t370 == t371)))) else (some false)))) else (some false))))) else (some false))) = some r := H
     have A17 := Aside0.mk A170
     clear A170
     replace H := Option.bind_eq_some_iff.mp H
     obtain ⟨t360, A180, H⟩ := H
     replace H : (if t360 = true then ((extent_Subtract.f l0 l1).bind fun t361 => ((tapearchiveref34_Subtract.f k l0 l1).bind fun t364 => ((tapearchiveref34_Same.f k t361 t364).bind fun t367 => (if t367 = true then ((extent_Covers.f l0 a2_0 a2_1).bind fun t368 => ((tapearchiveref34_Covers.f k l0 a2_0 a2_1).bind fun t369 => (if (t368 == t369) = true then ((extent_Total.f k l0).bind fun t370 => ((tapearchiveref34_Total.f k l0).bind fun t371 => (some (t370 == t371)))) else (some false)))) else (some false))))) else (some false)) = some r := H
     have A18 := Aside0.mk A180
     clear A180
     by_cases c19 : t360 = true
     ·subst c19
      have H1 : ((extent_Subtract.f l0 l1).bind fun t361 => ((tapearchiveref34_Subtract.f k l0 l1).bind fun t364 => ((tapearchiveref34_Same.f k t361 t364).bind fun t367 => (if t367 = true then ((extent_Covers.f l0 a2_0 a2_1).bind fun t368 => ((tapearchiveref34_Covers.f k l0 a2_0 a2_1).bind fun t369 => (if (t368 == t369) = true then ((extent_Total.f k l0).bind fun t370 => ((tapearchiveref34_Total.f k l0).bind fun t371 => (some (t370 == t371)))) else (some false)))) else (some false))))) = some r := by rw [if_pos rfl] at H; exact H
      clear H
      have H := H1
      clear H1
      replace H := Option.bind_eq_some_iff.mp H
      obtain ⟨t361, A200, H⟩ := H
      replace H : ((tapearchiveref34_Subtract.f k l0 l1).bind fun t364 => ((tapearchiveref34_Same.f k t361 t364).bind fun t367 => (if t367 = true then ((extent_Covers.f l0 a2_0 a2_1).bind fun t368 => ((tapearchiveref34_Covers.f k l0 a2_0 a2_1).bind fun t369 => (if (t368 == t369) = true then ((extent_Total.f k l0).bind fun t370 => ((tapearchiveref34_Total.f k l0).bind fun t371 => (some (t370 == t371)))) else (some false)))) else (some false)))) = some r := H
      have A20 := Aside0.mk A200
      clear A200
      replace H := Option.bind_eq_some_iff.mp H
      obtain ⟨t364, A210, H⟩ := H
      replace H : ((tapearchiveref34_Same.f k t361 t364).bind fun t367 => (if t367 = true then ((extent_Covers.f l0 a2_0 a2_1).bind fun t368 => ((tapearchiveref34_Covers.f k l0 a2_0 a2_1).bind fun t369 => (if (t368 == t369) = true then ((extent_Total.f k l0).bind fun t370 => ((tapearchiveref34_Total.f k l0).bind fun t371 => (some (t370 == t371)))) else (some false)))) else (some false))) = some r := H
      have A21 := Aside0.mk A210
      clear A210
      replace H := Option.bind_eq_some_iff.mp H
      obtain ⟨t367, A220, H⟩ := H
      replace H : (if t367 = true then ((extent_Covers.f l0 a2_0 a2_1).bind fun t368 => ((tapearchiveref34_Covers.f k l0 a2_0 a2_1).bind fun t369 => (if (t368 == t369) = true then ((extent_Total.f k l0).bind fun t370 => ((tapearchiveref34_Total.f k l0).bind fun t371 => (some (t370 == t371)))) else (some false)))) else (some false)) = some r := H
      have A22 := Aside0.mk A220
      clear A220
      by_cases c23 : t367 = true
      ·subst c23
       have H1 : ((extent_Covers.f l0 a2_0 a2_1).bind fun t368 => ((tapearchiveref34_Covers.f k l0 a2_0 a2_1).bind fun t369 => (if (t368 == t369) = true then ((extent_Total.f k l0).bind fun t370 => ((tapearchiveref34_Total.f k l0).bind fun t371 => (some (t370 == t371)))) else (some false)))) = some r := by rw [if_pos rfl] at H; exact H
       clear H
       have H := H1
       clear H1
       replace H := Option.bind_eq_some_iff.mp H
       obtain ⟨t368, A240, H⟩ := H
       replace H : ((tapearchiveref34_Covers.f k l0 a2_0 a2_1).bind fun t369 => (if (t368 == t369) = true then ((extent_Total.f k l0).bind fun t370 => ((tapearchiveref34_Total.f k l0).bind fun t371 => (some (t370 == t371)))) else (some false))) = some r := H
       have A24 := Aside0.mk A240
       clear A240
       replace H := Option.bind_eq_some_iff.mp H
       obtain ⟨t369, A250, H⟩ := H
       replace H : (if (t368 == t369) = true then ((extent_Total.f k l0).bind fun t370 => ((tapearchiveref34_Total.f k l0).bind fun t371 => (some (t370 == t371)))) else (some false)) = some r := H
       have A25 := Aside0.mk A250
       clear A250
       by_cases c26 : (t368 == t369) = true
       ·rw [if_pos c26] at H
        have c26b0 : (t368 == t369) = true := c26
        (try (have c26b1 : decide (t368 = t369) = true := by simpa using c26))
        (try (have c26b2 : (t368 == t369) = true := by simpa using c26))
        clear c26
        replace H := Option.bind_eq_some_iff.mp H
        obtain ⟨t370, A270, H⟩ := H
        replace H : ((tapearchiveref34_Total.f k l0).bind fun t371 => (some (t370 == t371))) = some r := H
        have A27 := Aside0.mk A270
        clear A270
        replace H := Option.bind_eq_some_iff.mp H
        obtain ⟨t371, A280, H⟩ := H
        replace H : (some (t370 == t371)) = some r := H
        have A28 := Aside0.mk A280
        clear A280
        obtain rfl := Option.some.inj H
        go_enter Try.func7, Try.ntmps7
        try go_wp2_with (first | ((with_reducible refine gate_dst (N := 5) rfl ?_); refine box_event ?hg (N := 5) ?hd (cs := #[.int .i64 a2_0, .int .i64 a2_1]) (t := 30) ?hr ?_; (case hd => rfl); (case hg => rfl); (case hr => first | (go_simp; done) | (go_simp; rfl)); intro gb337 hg w29 hbox hb; have n0_ := Aside0.mk (below_step (zB HB) hb); have n1_ := Aside0.mk (hbox); have n2_ := Aside0.mk ((by rw [hg]; exact (below_size (zB HB)) : w.heap.size ≤ gb337)); have n3_ := Aside0.mk ((by rw [hg]; exact (below_size (zB HB)) : w.heap.size ≤ gb337)); clear HB; have HB := n0_; have BK337 := n1_; have GW337 := n2_; have GE337 := n3_; clear n0_ n1_ n2_ n3_; clear hb hbox hg) | ((with_reducible refine gate_callee (f := 8) rfl ?_); refine goesL_ (some 7) rfl rfl Try.func8 (by kernel_rfl) rfl #[] rfl zM ?_; (with_reducible refine (tapearchivelaw34_lives_s.calls  true _ A4.out).mono ?_); rintro e w30 ⟨rfl, hb⟩; refine ⟨_, rfl, ?_⟩; have n0_ := Aside0.mk (blk_below (g := gb337) (o := .cells #[.int .i64 a2_0, .int .i64 a2_1] 30 (0, 0)) (zL BK337.out) hb); have n1_ := Aside0.mk (below_step (zG HB GE337) hb); clear BK337; clear HB; have BK337 := n0_; have HB := n1_; clear n0_ n1_; (try clear hb); (try clear hb2); (try clear hk); (try clear hi)) | ((with_reducible refine gate_callee (f := 9) rfl ?_); refine goesL_ (some 11) rfl rfl Try.func9 (by kernel_rfl) rfl #[.slice A0 l0.length c0, .slice A1 l1.length c1] rfl zM ?_; (with_reducible refine (tapearchivelaw34_few.calls _ _ l0 _ _ l1 true _ ?side1 ?side2 ?side3 ?side4 A6.out).mono ?_); (case side1 => exact zC (Kd.C_below HR0.out HB.out)); (case side2 => exact HC0.out); (case side3 => exact zC (Kd.C_below HR1.out HB.out)); (case side4 => exact HC1.out); rintro e w' ⟨rfl, ⟨nd, rfl⟩⟩; refine ⟨_, rfl, ?_⟩))
        (try (rw [drewN_self w30]; generalize hq_ : World.drewN w30 _ = w30; have n0_ : Aside0 (w30.heap[gb337]? = some (.cells #[.int .i64 a2_0, .int .i64 a2_1] 30 (0, 0))) := ⟨by rw [← hq_]; exact (zL BK337.out)⟩; have n1_ : Aside0 (Below w.heap.size w w30) := ⟨by rw [← hq_]; exact (zG HB GE337)⟩; clear BK337 HB hq_; have BK337 := n0_; have HB := n1_; clear n0_ n1_))
        have n0_ := Aside0.mk (blk_drew BK337.out)
        have n1_ := Aside0.mk (below_drew1 HB.out)
        clear BK337
        clear HB
        have BK337 := n0_
        have HB := n1_
        clear n0_ n1_
        refine start_ (n := 49) (S := fun w' => w'.cell? ⟨gb337, 0, none⟩ = some (.int .i64 a2_0) ∧ w'.cell? ⟨gb337, 1, none⟩ = some (.int .i64 a2_1)) (ds := []) #[false, false, false, false, false, false, false, false, false, false, false, false, false, false, false, false, false, false, false, false, false, false, false, false, false, false, false, false, false, false, false, false, false, false, false, false, false, false, false, false, false, false, false, false, false, false, false, false, false] (by kernel_rfl) rfl rfl ⟨(blk_cell BK337.out 0).trans rfl, (blk_cell BK337.out 1).trans rfl⟩ (fun hHeld => ?_); refine with_tabW tapearchivelaw34_ExtentSets.tab5 tapearchivelaw34_ExtentSets.bits5 (fun HT_ HW_ => ?_)
        generalize w30.drew = w31 at BK337 HB hHeld ⊢
        refine pure_ (i := 0) (N := some 13) (v := ?_) (a' := ?_) #[true, false, false, false, false, false, false, false, false, false, false, false, false, false, false, false, false, false, false, false, false, false, false, false, false, false, false, false, false, false, false, false, false, false, false, false, false, false, false, false, false, false, false, false, false, false, false, false, false] rfl rfl (any_of HT_.out (by kernel_rfl)) (fun _ _ _ h => h) (Or.inl ⟨by rfl, ?_⟩) ?_ ?_
        rotate_left
        ·intro w'
         go_simp
         with_reducible rfl
        rotate_left
        ·exact zP i64_w i32_w
        refine pure_ (i := 2) (N := some 15) (v := ?_) (a' := ?_) #[true, false, true, false, false, false, false, false, false, false, false, false, false, false, false, false, false, false, false, false, false, false, false, false, false, false, false, false, false, false, false, false, false, false, false, false, false, false, false, false, false, false, false, false, false, false, false, false, false] rfl rfl (any_of HT_.out (by kernel_rfl)) (fun _ _ _ h => h) (Or.inl ⟨by rfl, ?_⟩) ?_ ?_
        rotate_left
        ·intro w'
         go_simp
         with_reducible rfl
        rotate_left
        ·exact zP i64_w i32_w
        refine one_ (i := 1) (N := some 14) #[true, true, true, false, false, false, false, false, false, false, false, false, false, false, false, false, false, false, false, false, false, false, false, false, false, false, false, false, false, false, false, false, false, false, false, false, false, false, false, false, false, false, false, false, false, false, false, false, false] rfl rfl (one_of HT_.out (by kernel_rfl)) (by decide) (fun K hK => ?_)
        refine goes_ Try.func15 (by kernel_rfl) rfl #[.slice A0 l0.length c0] (by rfl) rfl rfl zM ?_
        with_reducible refine (extent_Normal.calls _ _ l0 t340 _ ?side1 ?side2 A8.out).mono ?_
        (case side1 => exact zC (Kd.C_below HR0.out HB.out))
        (case side2 => exact HC0.out)
        rintro e w32 ⟨v341, rfl, ho0, hb⟩
        refine ⟨_, rfl, ?_⟩
        have n0_ := Aside0.mk (Kd.R_lower (Kd.R_newB ho0 (g := gb337) (o := .cells #[.int .i64 a2_0, .int .i64 a2_1] 30 (0, 0)) (zL BK337.out)) (below_size (zG HB GE337)))
        have n1_ := Aside0.mk (blk_below (g := gb337) (o := .cells #[.int .i64 a2_0, .int .i64 a2_1] 30 (0, 0)) (zL BK337.out) hb)
        have n2_ := Aside0.mk (below_step (zG HB GE337) hb)
        clear BK337
        clear HB
        have HO342 := n0_
        have BK337 := n1_
        have HB := n2_
        clear n0_ n1_ n2_
        (try clear hb)
        (try clear hb2)
        (try clear hk)
        (try clear hi)
        (try clear ho0)
        refine hK.out _ _ ⟨(blk_cell BK337.out 0).trans rfl, (blk_cell BK337.out 1).trans rfl⟩ (fun hHeld => ?_)
        clear hK K
        refine norm_ (a' := ?_) ?_ ?_
        rotate_left
        ·show Act.put _ (some 14) _ = _
         simp only [Act.put, List.setIfInBounds_toArray, List.set_cons_zero, List.set_cons_succ, i64_w, i32_w]
         rfl
        refine one_ (i := 3) (N := some 16) #[true, true, true, true, false, false, false, false, false, false, false, false, false, false, false, false, false, false, false, false, false, false, false, false, false, false, false, false, false, false, false, false, false, false, false, false, false, false, false, false, false, false, false, false, false, false, false, false, false] rfl rfl (one_of HT_.out (by kernel_rfl)) (by decide) (fun K hK => ?_)
        refine goes_ Try.func22 (by kernel_rfl) rfl #[.slice A0 l0.length c0] (by rfl) rfl rfl zM ?_
        with_reducible refine (tapearchiveref34_Normal.calls k _ _ l0 t343 _ ?side1 ?side2 A9.out).mono ?_
        (case side1 => exact zC (Kd.C_below HR0.out HB.out))
        (case side2 => exact HC0.out)
        rintro e w33 ⟨v344, rfl, ho0, hb⟩
        refine ⟨_, rfl, ?_⟩
        have n0_ := Aside0.mk (Kd.R_elder' (zR HO342.out) (Kd.R_base ho0) hb)
        have n1_ := Aside0.mk (Kd.R_lower (Kd.R_newB (Kd.R_new' ho0 (Kd.R_lt (zR HO342.out))) (g := gb337) (o := .cells #[.int .i64 a2_0, .int .i64 a2_1] 30 (0, 0)) (zL BK337.out)) (below_size (zG HB GE337)))
        have n2_ := Aside0.mk (blk_below (g := gb337) (o := .cells #[.int .i64 a2_0, .int .i64 a2_1] 30 (0, 0)) (zL BK337.out) hb)
        have n3_ := Aside0.mk (below_step (zG HB GE337) hb)
        clear HO342
        clear BK337
        clear HB
        have HO342 := n0_
        have HO345 := n1_
        have BK337 := n2_
        have HB := n3_
        clear n0_ n1_ n2_ n3_
        (try clear hb)
        (try clear hb2)
        (try clear hk)
        (try clear hi)
        (try clear ho0)
        obtain ⟨Ao34, co34, eo34⟩ := Kd.R_slice HO342.out
        (first | subst eo34 | (injection eo34 with f1_ f2_ f3_; have f4_ := f1_.symm; have f5_ := f3_.symm; clear f1_ f2_ f3_; subst f4_; subst f5_))
        obtain ⟨Ao35, co35, eo35⟩ := Kd.R_slice HO345.out
        (first | subst eo35 | (injection eo35 with f1_ f2_ f3_; have f4_ := f1_.symm; have f5_ := f3_.symm; clear f1_ f2_ f3_; subst f4_; subst f5_))
        refine hK.out _ _ ⟨(blk_cell BK337.out 0).trans rfl, (blk_cell BK337.out 1).trans rfl⟩ (fun hHeld => ?_)
        clear hK K
        refine norm_ (a' := ?_) ?_ ?_
        rotate_left
        ·show Act.put _ (some 16) _ = _
         simp only [Act.put, List.setIfInBounds_toArray, List.set_cons_zero, List.set_cons_succ, i64_w, i32_w]
         rfl
        refine one_ (i := 4) (N := some 17) #[true, true, true, true, true, false, false, false, false, false, false, false, false, false, false, false, false, false, false, false, false, false, false, false, false, false, false, false, false, false, false, false, false, false, false, false, false, false, false, false, false, false, false, false, false, false, false, false, false] rfl rfl (one_of HT_.out (by kernel_rfl)) (by decide) (fun K hK => ?_)
        refine goes_ Try.func10 (by kernel_rfl) rfl #[.slice Ao34 t340.length co34, .slice Ao35 t343.length co35] (by rfl) rfl rfl zM ?_
        with_reducible refine (tapearchiveref34_Same.calls k _ _ t340 _ _ t343 true _ ?side1 ?side2 ?side3 ?side4 A10.out).mono ?_
        (case side1 => exact zC (Kd.R_reads' HO342.out).2.2)
        (case side2 => exact (Kd.R_reads' HO342.out).2.1)
        (case side3 => exact zC (Kd.R_reads' HO345.out).2.2)
        (case side4 => exact (Kd.R_reads' HO345.out).2.1)
        rintro e w' ⟨rfl, ⟨nd, rfl⟩⟩
        refine ⟨_, rfl, ?_⟩
        refine hK.out _ _ ⟨(blk_cell BK337.out 0).trans rfl, (blk_cell BK337.out 1).trans rfl⟩ (fun hHeld => ?_)
        clear hK K
        refine norm_ (a' := ?_) ?_ ?_
        rotate_left
        ·show Act.put _ (some 17) _ = _
         simp only [Act.put, List.setIfInBounds_toArray, List.set_cons_zero, List.set_cons_succ, i64_w, i32_w]
         rfl
        refine pure_ (i := 5) (N := some 18) (v := ?_) (a' := ?_) #[true, true, true, true, true, true, false, false, false, false, false, false, false, false, false, false, false, false, false, false, false, false, false, false, false, false, false, false, false, false, false, false, false, false, false, false, false, false, false, false, false, false, false, false, false, false, false, false, false] rfl rfl (any_of HT_.out (by kernel_rfl)) (fun _ _ _ h => h) (Or.inl ⟨by rfl, ?_⟩) ?_ ?_
        rotate_left
        ·intro w'
         go_simp
         with_reducible rfl
        rotate_left
        ·exact zP i64_w i32_w
        refine pure_ (i := 6) (N := some 19) (v := ?_) (a' := ?_) #[true, true, true, true, true, true, true, false, false, false, false, false, false, false, false, false, false, false, false, false, false, false, false, false, false, false, false, false, false, false, false, false, false, false, false, false, false, false, false, false, false, false, false, false, false, false, false, false, false] rfl rfl (any_of HT_.out (by kernel_rfl)) (fun _ _ _ h => h) (Or.inl ⟨by rfl, ?_⟩) ?_ ?_
        rotate_left
        ·intro w'
         go_simp
         with_reducible rfl
        rotate_left
        ·exact zP i64_w i32_w
        refine pure_ (i := 7) (N := some 20) (v := ?_) (a' := ?_) #[true, true, true, true, true, true, true, true, false, false, false, false, false, false, false, false, false, false, false, false, false, false, false, false, false, false, false, false, false, false, false, false, false, false, false, false, false, false, false, false, false, false, false, false, false, false, false, false, false] rfl rfl (any_of HT_.out (by kernel_rfl)) (fun _ _ _ h => h) (Or.inl ⟨by rfl, ?_⟩) ?_ ?_
        rotate_left
        ·intro w'
         go_simp
         with_reducible rfl
        rotate_left
        ·exact zP i64_w i32_w
        refine pure_ (i := 9) (N := some 22) (v := ?_) (a' := ?_) #[true, true, true, true, true, true, true, true, false, true, false, false, false, false, false, false, false, false, false, false, false, false, false, false, false, false, false, false, false, false, false, false, false, false, false, false, false, false, false, false, false, false, false, false, false, false, false, false, false] rfl rfl (any_of HT_.out (by kernel_rfl)) (fun _ _ _ h => h) (Or.inl ⟨by rfl, ?_⟩) ?_ ?_
        rotate_left
        ·intro w'
         go_simp
         with_reducible rfl
        rotate_left
        ·exact zP i64_w i32_w
        refine pure_ (i := 10) (N := some 23) (v := ?_) (a' := ?_) #[true, true, true, true, true, true, true, true, false, true, true, false, false, false, false, false, false, false, false, false, false, false, false, false, false, false, false, false, false, false, false, false, false, false, false, false, false, false, false, false, false, false, false, false, false, false, false, false, false] rfl rfl (any_of HT_.out (by kernel_rfl)) (fun _ _ _ h => h) (Or.inl ⟨by rfl, ?_⟩) ?_ ?_
        rotate_left
        ·intro w'
         go_simp
         with_reducible rfl
        rotate_left
        ·exact zP i64_w i32_w
        refine one_ (i := 8) (N := some 21) #[true, true, true, true, true, true, true, true, true, true, true, false, false, false, false, false, false, false, false, false, false, false, false, false, false, false, false, false, false, false, false, false, false, false, false, false, false, false, false, false, false, false, false, false, false, false, false, false, false] rfl rfl (one_of HT_.out (by kernel_rfl)) (by decide) (fun K hK => ?_)
        refine goes_ Try.func18 (by kernel_rfl) rfl #[.slice A0 l0.length c0, .slice A1 l1.length c1] (by rfl) rfl rfl zM ?_
        with_reducible refine (extent_Union.calls _ _ l0 _ _ l1 t347 _ ?side1 ?side2 ?side3 ?side4 A12.out).mono ?_
        (case side1 => repeat (first | exact (Kd.C_below HR0.out (zG HB GE337)) | (with_reducible refine Kd.C_alloc ?_ _) | (with_reducible refine Kd.C_drewN ?_ _) | (with_reducible refine Kd.C_drew ?_)))
        (case side2 => exact HC0.out)
        (case side3 => repeat (first | exact (Kd.C_below HR1.out (zG HB GE337)) | (with_reducible refine Kd.C_alloc ?_ _) | (with_reducible refine Kd.C_drewN ?_ _) | (with_reducible refine Kd.C_drew ?_)))
        (case side4 => exact HC1.out)
        rintro e w36 ⟨v348, rfl, ho0, hb⟩
        refine ⟨_, rfl, ?_⟩
        have n0_ := Aside0.mk (Kd.R_elder' (zR HO342.out) (Kd.R_base ho0) hb)
        have n1_ := Aside0.mk (Kd.R_elder' (zR HO345.out) (Kd.R_base ho0) hb)
        have n2_ := Aside0.mk (Kd.R_lower (Kd.R_newB (Kd.R_new' (Kd.R_new' ho0 (Kd.R_lt (zR HO342.out))) (Kd.R_lt (zR HO345.out))) (g := gb337) (o := .cells #[.int .i64 a2_0, .int .i64 a2_1] 30 (0, 0)) (zL BK337.out)) (below_size (zG HB GE337)))
        have n3_ := Aside0.mk (blk_below (g := gb337) (o := .cells #[.int .i64 a2_0, .int .i64 a2_1] 30 (0, 0)) (zL BK337.out) hb)
        have n4_ := Aside0.mk (below_step (zG HB GE337) hb)
        clear HO342
        clear HO345
        clear BK337
        clear HB
        have HO342 := n0_
        have HO345 := n1_
        have HO349 := n2_
        have BK337 := n3_
        have HB := n4_
        clear n0_ n1_ n2_ n3_ n4_
        (try clear hb)
        (try clear hb2)
        (try clear hk)
        (try clear hi)
        (try clear ho0)
        refine hK.out _ _ ⟨(blk_cell BK337.out 0).trans rfl, (blk_cell BK337.out 1).trans rfl⟩ (fun hHeld => ?_)
        clear hK K
        refine norm_ (a' := ?_) ?_ ?_
        rotate_left
        ·show Act.put _ (some 21) _ = _
         simp only [Act.put, List.setIfInBounds_toArray, List.set_cons_zero, List.set_cons_succ, i64_w, i32_w]
         rfl
        refine one_ (i := 11) (N := some 24) #[true, true, true, true, true, true, true, true, true, true, true, true, false, false, false, false, false, false, false, false, false, false, false, false, false, false, false, false, false, false, false, false, false, false, false, false, false, false, false, false, false, false, false, false, false, false, false, false, false] rfl rfl (one_of HT_.out (by kernel_rfl)) (by decide) (fun K hK => ?_)
        refine goes_ Try.func23 (by kernel_rfl) rfl #[.slice A0 l0.length c0, .slice A1 l1.length c1] (by rfl) rfl rfl zM ?_
        with_reducible refine (tapearchiveref34_Union.calls k _ _ l0 _ _ l1 t350 _ ?side1 ?side2 ?side3 ?side4 A13.out).mono ?_
        (case side1 => exact zC (Kd.C_below HR0.out HB.out))
        (case side2 => exact HC0.out)
        (case side3 => exact zC (Kd.C_below HR1.out HB.out))
        (case side4 => exact HC1.out)
        rintro e w37 ⟨v351, rfl, ho0, hb⟩
        refine ⟨_, rfl, ?_⟩
        have n0_ := Aside0.mk (Kd.R_elder' (zR HO342.out) (Kd.R_base ho0) hb)
        have n1_ := Aside0.mk (Kd.R_elder' (zR HO345.out) (Kd.R_base ho0) hb)
        have n2_ := Aside0.mk (Kd.R_elder' (zR HO349.out) (Kd.R_base ho0) hb)
        have n3_ := Aside0.mk (Kd.R_lower (Kd.R_newB (Kd.R_new' (Kd.R_new' (Kd.R_new' ho0 (Kd.R_lt (zR HO342.out))) (Kd.R_lt (zR HO345.out))) (Kd.R_lt (zR HO349.out))) (g := gb337) (o := .cells #[.int .i64 a2_0, .int .i64 a2_1] 30 (0, 0)) (zL BK337.out)) (below_size (zG HB GE337)))
        have n4_ := Aside0.mk (blk_below (g := gb337) (o := .cells #[.int .i64 a2_0, .int .i64 a2_1] 30 (0, 0)) (zL BK337.out) hb)
        have n5_ := Aside0.mk (below_step (zG HB GE337) hb)
        clear HO342
        clear HO345
        clear HO349
        clear BK337
        clear HB
        have HO342 := n0_
        have HO345 := n1_
        have HO349 := n2_
        have HO352 := n3_
        have BK337 := n4_
        have HB := n5_
        clear n0_ n1_ n2_ n3_ n4_ n5_
        (try clear hb)
        (try clear hb2)
        (try clear hk)
        (try clear hi)
        (try clear ho0)
        obtain ⟨Ao38, co38, eo38⟩ := Kd.R_slice HO349.out
        (first | subst eo38 | (injection eo38 with f1_ f2_ f3_; have f4_ := f1_.symm; have f5_ := f3_.symm; clear f1_ f2_ f3_; subst f4_; subst f5_))
        obtain ⟨Ao39, co39, eo39⟩ := Kd.R_slice HO352.out
        (first | subst eo39 | (injection eo39 with f1_ f2_ f3_; have f4_ := f1_.symm; have f5_ := f3_.symm; clear f1_ f2_ f3_; subst f4_; subst f5_))
        refine hK.out _ _ ⟨(blk_cell BK337.out 0).trans rfl, (blk_cell BK337.out 1).trans rfl⟩ (fun hHeld => ?_)
        clear hK K
        refine norm_ (a' := ?_) ?_ ?_
        rotate_left
        ·show Act.put _ (some 24) _ = _
         simp only [Act.put, List.setIfInBounds_toArray, List.set_cons_zero, List.set_cons_succ, i64_w, i32_w]
         rfl
        refine one_ (i := 12) (N := some 25) #[true, true, true, true, true, true, true, true, true, true, true, true, true, false, false, false, false, false, false, false, false, false, false, false, false, false, false, false, false, false, false, false, false, false, false, false, false, false, false, false, false, false, false, false, false, false, false, false, false] rfl rfl (one_of HT_.out (by kernel_rfl)) (by decide) (fun K hK => ?_)
        refine goes_ Try.func10 (by kernel_rfl) rfl #[.slice Ao38 t347.length co38, .slice Ao39 t350.length co39] (by rfl) rfl rfl zM ?_
        with_reducible refine (tapearchiveref34_Same.calls k _ _ t347 _ _ t350 true _ ?side1 ?side2 ?side3 ?side4 A14.out).mono ?_
        (case side1 => exact zC (Kd.R_reads' HO349.out).2.2)
        (case side2 => exact (Kd.R_reads' HO349.out).2.1)
        (case side3 => exact zC (Kd.R_reads' HO352.out).2.2)
        (case side4 => exact (Kd.R_reads' HO352.out).2.1)
        rintro e w' ⟨rfl, ⟨nd, rfl⟩⟩
        refine ⟨_, rfl, ?_⟩
        refine hK.out _ _ ⟨(blk_cell BK337.out 0).trans rfl, (blk_cell BK337.out 1).trans rfl⟩ (fun hHeld => ?_)
        clear hK K
        refine norm_ (a' := ?_) ?_ ?_
        rotate_left
        ·show Act.put _ (some 25) _ = _
         simp only [Act.put, List.setIfInBounds_toArray, List.set_cons_zero, List.set_cons_succ, i64_w, i32_w]
         rfl
        refine pure_ (i := 13) (N := some 26) (v := ?_) (a' := ?_) #[true, true, true, true, true, true, true, true, true, true, true, true, true, true, false, false, false, false, false, false, false, false, false, false, false, false, false, false, false, false, false, false, false, false, false, false, false, false, false, false, false, false, false, false, false, false, false, false, false] rfl rfl (any_of HT_.out (by kernel_rfl)) (fun _ _ _ h => h) (Or.inl ⟨by rfl, ?_⟩) ?_ ?_
        rotate_left
        ·intro w'
         go_simp
         with_reducible rfl
        rotate_left
        ·exact zP i64_w i32_w
        refine pure_ (i := 14) (N := some 27) (v := ?_) (a' := ?_) #[true, true, true, true, true, true, true, true, true, true, true, true, true, true, true, false, false, false, false, false, false, false, false, false, false, false, false, false, false, false, false, false, false, false, false, false, false, false, false, false, false, false, false, false, false, false, false, false, false] rfl rfl (any_of HT_.out (by kernel_rfl)) (fun _ _ _ h => h) (Or.inl ⟨by rfl, ?_⟩) ?_ ?_
        rotate_left
        ·intro w'
         go_simp
         with_reducible rfl
        rotate_left
        ·exact zP i64_w i32_w
        refine pure_ (i := 15) (N := some 28) (v := ?_) (a' := ?_) #[true, true, true, true, true, true, true, true, true, true, true, true, true, true, true, true, false, false, false, false, false, false, false, false, false, false, false, false, false, false, false, false, false, false, false, false, false, false, false, false, false, false, false, false, false, false, false, false, false] rfl rfl (any_of HT_.out (by kernel_rfl)) (fun _ _ _ h => h) (Or.inl ⟨by rfl, ?_⟩) ?_ ?_
        rotate_left
        ·intro w'
         go_simp
         with_reducible rfl
        rotate_left
        ·exact zP i64_w i32_w
        refine pure_ (i := 16) (N := some 29) (v := ?_) (a' := ?_) #[true, true, true, true, true, true, true, true, true, true, true, true, true, true, true, true, true, false, false, false, false, false, false, false, false, false, false, false, false, false, false, false, false, false, false, false, false, false, false, false, false, false, false, false, false, false, false, false, false] rfl rfl (any_of HT_.out (by kernel_rfl)) (fun _ _ _ h => h) (Or.inl ⟨by rfl, ?_⟩) ?_ ?_
        rotate_left
        ·intro w'
         go_simp
         with_reducible rfl
        rotate_left
        ·exact zP i64_w i32_w
        refine pure_ (i := 18) (N := some 31) (v := ?_) (a' := ?_) #[true, true, true, true, true, true, true, true, true, true, true, true, true, true, true, true, true, false, true, false, false, false, false, false, false, false, false, false, false, false, false, false, false, false, false, false, false, false, false, false, false, false, false, false, false, false, false, false, false] rfl rfl (any_of HT_.out (by kernel_rfl)) (fun _ _ _ h => h) (Or.inl ⟨by rfl, ?_⟩) ?_ ?_
        rotate_left
        ·intro w'
         go_simp
         with_reducible rfl
        rotate_left
        ·exact zP i64_w i32_w
        refine pure_ (i := 19) (N := some 32) (v := ?_) (a' := ?_) #[true, true, true, true, true, true, true, true, true, true, true, true, true, true, true, true, true, false, true, true, false, false, false, false, false, false, false, false, false, false, false, false, false, false, false, false, false, false, false, false, false, false, false, false, false, false, false, false, false] rfl rfl (any_of HT_.out (by kernel_rfl)) (fun _ _ _ h => h) (Or.inl ⟨by rfl, ?_⟩) ?_ ?_
        rotate_left
        ·intro w'
         go_simp
         with_reducible rfl
        rotate_left
        ·exact zP i64_w i32_w
        refine one_ (i := 17) (N := some 30) #[true, true, true, true, true, true, true, true, true, true, true, true, true, true, true, true, true, true, true, true, false, false, false, false, false, false, false, false, false, false, false, false, false, false, false, false, false, false, false, false, false, false, false, false, false, false, false, false, false] rfl rfl (one_of HT_.out (by kernel_rfl)) (by decide) (fun K hK => ?_)
        refine goes_ Try.func19 (by kernel_rfl) rfl #[.slice A0 l0.length c0, .slice A1 l1.length c1] (by rfl) rfl rfl zM ?_
        with_reducible refine (extent_Intersect.calls _ _ l0 _ _ l1 t354 _ ?side1 ?side2 ?side3 ?side4 A16.out).mono ?_
        (case side1 => repeat (first | exact (Kd.C_below HR0.out (zG HB GE337)) | (with_reducible refine Kd.C_alloc ?_ _) | (with_reducible refine Kd.C_drewN ?_ _) | (with_reducible refine Kd.C_drew ?_)))
        (case side2 => exact HC0.out)
        (case side3 => repeat (first | exact (Kd.C_below HR1.out (zG HB GE337)) | (with_reducible refine Kd.C_alloc ?_ _) | (with_reducible refine Kd.C_drewN ?_ _) | (with_reducible refine Kd.C_drew ?_)))
        (case side4 => exact HC1.out)
        rintro e w40 ⟨v355, rfl, ho0, hb⟩
        refine ⟨_, rfl, ?_⟩
        have n0_ := Aside0.mk (Kd.R_elder' (zR HO342.out) (Kd.R_base ho0) hb)
        have n1_ := Aside0.mk (Kd.R_elder' (zR HO345.out) (Kd.R_base ho0) hb)
        have n2_ := Aside0.mk (Kd.R_elder' (zR HO349.out) (Kd.R_base ho0) hb)
        have n3_ := Aside0.mk (Kd.R_elder' (zR HO352.out) (Kd.R_base ho0) hb)
        have n4_ := Aside0.mk (Kd.R_lower (Kd.R_newB (Kd.R_new' (Kd.R_new' (Kd.R_new' (Kd.R_new' ho0 (Kd.R_lt (zR HO342.out))) (Kd.R_lt (zR HO345.out))) (Kd.R_lt (zR HO349.out))) (Kd.R_lt (zR HO352.out))) (g := gb337) (o := .cells #[.int .i64 a2_0, .int .i64 a2_1] 30 (0, 0)) (zL BK337.out)) (below_size (zG HB GE337)))
        have n5_ := Aside0.mk (blk_below (g := gb337) (o := .cells #[.int .i64 a2_0, .int .i64 a2_1] 30 (0, 0)) (zL BK337.out) hb)
        have n6_ := Aside0.mk (below_step (zG HB GE337) hb)
        clear HO342
        clear HO345
        clear HO349
        clear HO352
        clear BK337
        clear HB
        have HO342 := n0_
        have HO345 := n1_
        have HO349 := n2_
        have HO352 := n3_
        have HO356 := n4_
        have BK337 := n5_
        have HB := n6_
        clear n0_ n1_ n2_ n3_ n4_ n5_ n6_
        (try clear hb)
        (try clear hb2)
        (try clear hk)
        (try clear hi)
        (try clear ho0)
        refine hK.out _ _ ⟨(blk_cell BK337.out 0).trans rfl, (blk_cell BK337.out 1).trans rfl⟩ (fun hHeld => ?_)
        clear hK K
        refine norm_ (a' := ?_) ?_ ?_
        rotate_left
        ·show Act.put _ (some 30) _ = _
         simp only [Act.put, List.setIfInBounds_toArray, List.set_cons_zero, List.set_cons_succ, i64_w, i32_w]
         rfl
        refine one_ (i := 20) (N := some 33) #[true, true, true, true, true, true, true, true, true, true, true, true, true, true, true, true, true, true, true, true, true, false, false, false, false, false, false, false, false, false, false, false, false, false, false, false, false, false, false, false, false, false, false, false, false, false, false, false, false] rfl rfl (one_of HT_.out (by kernel_rfl)) (by decide) (fun K hK => ?_)
        refine goes_ Try.func24 (by kernel_rfl) rfl #[.slice A0 l0.length c0, .slice A1 l1.length c1] (by rfl) rfl rfl zM ?_
        with_reducible refine (tapearchiveref34_Intersect.calls k _ _ l0 _ _ l1 t357 _ ?side1 ?side2 ?side3 ?side4 A17.out).mono ?_
        (case side1 => exact zC (Kd.C_below HR0.out HB.out))
        (case side2 => exact HC0.out)
        (case side3 => exact zC (Kd.C_below HR1.out HB.out))
        (case side4 => exact HC1.out)
        rintro e w41 ⟨v358, rfl, ho0, hb⟩
        refine ⟨_, rfl, ?_⟩
        have n0_ := Aside0.mk (Kd.R_elder' (zR HO342.out) (Kd.R_base ho0) hb)
        have n1_ := Aside0.mk (Kd.R_elder' (zR HO345.out) (Kd.R_base ho0) hb)
        have n2_ := Aside0.mk (Kd.R_elder' (zR HO349.out) (Kd.R_base ho0) hb)
        have n3_ := Aside0.mk (Kd.R_elder' (zR HO352.out) (Kd.R_base ho0) hb)
        have n4_ := Aside0.mk (Kd.R_elder' (zR HO356.out) (Kd.R_base ho0) hb)
        have n5_ := Aside0.mk (Kd.R_lower (Kd.R_newB (Kd.R_new' (Kd.R_new' (Kd.R_new' (Kd.R_new' (Kd.R_new' ho0 (Kd.R_lt (zR HO342.out))) (Kd.R_lt (zR HO345.out))) (Kd.R_lt (zR HO349.out))) (Kd.R_lt (zR HO352.out))) (Kd.R_lt (zR HO356.out))) (g := gb337) (o := .cells #[.int .i64 a2_0, .int .i64 a2_1] 30 (0, 0)) (zL BK337.out)) (below_size (zG HB GE337)))
        have n6_ := Aside0.mk (blk_below (g := gb337) (o := .cells #[.int .i64 a2_0, .int .i64 a2_1] 30 (0, 0)) (zL BK337.out) hb)
        have n7_ := Aside0.mk (below_step (zG HB GE337) hb)
        clear HO342
        clear HO345
        clear HO349
        clear HO352
        clear HO356
        clear BK337
        clear HB
        have HO342 := n0_
        have HO345 := n1_
        have HO349 := n2_
        have HO352 := n3_
        have HO356 := n4_
        have HO359 := n5_
        have BK337 := n6_
        have HB := n7_
        clear n0_ n1_ n2_ n3_ n4_ n5_ n6_ n7_
        (try clear hb)
        (try clear hb2)
        (try clear hk)
        (try clear hi)
        (try clear ho0)
        obtain ⟨Ao42, co42, eo42⟩ := Kd.R_slice HO356.out
        (first | subst eo42 | (injection eo42 with f1_ f2_ f3_; have f4_ := f1_.symm; have f5_ := f3_.symm; clear f1_ f2_ f3_; subst f4_; subst f5_))
        obtain ⟨Ao43, co43, eo43⟩ := Kd.R_slice HO359.out
        (first | subst eo43 | (injection eo43 with f1_ f2_ f3_; have f4_ := f1_.symm; have f5_ := f3_.symm; clear f1_ f2_ f3_; subst f4_; subst f5_))
        refine hK.out _ _ ⟨(blk_cell BK337.out 0).trans rfl, (blk_cell BK337.out 1).trans rfl⟩ (fun hHeld => ?_)
        clear hK K
        refine norm_ (a' := ?_) ?_ ?_
        rotate_left
        ·show Act.put _ (some 33) _ = _
         simp only [Act.put, List.setIfInBounds_toArray, List.set_cons_zero, List.set_cons_succ, i64_w, i32_w]
         rfl
        refine one_ (i := 21) (N := some 34) #[true, true, true, true, true, true, true, true, true, true, true, true, true, true, true, true, true, true, true, true, true, true, false, false, false, false, false, false, false, false, false, false, false, false, false, false, false, false, false, false, false, false, false, false, false, false, false, false, false] rfl rfl (one_of HT_.out (by kernel_rfl)) (by decide) (fun K hK => ?_)
        refine goes_ Try.func10 (by kernel_rfl) rfl #[.slice Ao42 t354.length co42, .slice Ao43 t357.length co43] (by rfl) rfl rfl zM ?_
        with_reducible refine (tapearchiveref34_Same.calls k _ _ t354 _ _ t357 true _ ?side1 ?side2 ?side3 ?side4 A18.out).mono ?_
        (case side1 => exact zC (Kd.R_reads' HO356.out).2.2)
        (case side2 => exact (Kd.R_reads' HO356.out).2.1)
        (case side3 => exact zC (Kd.R_reads' HO359.out).2.2)
        (case side4 => exact (Kd.R_reads' HO359.out).2.1)
        rintro e w' ⟨rfl, ⟨nd, rfl⟩⟩
        refine ⟨_, rfl, ?_⟩
        refine hK.out _ _ ⟨(blk_cell BK337.out 0).trans rfl, (blk_cell BK337.out 1).trans rfl⟩ (fun hHeld => ?_)
        clear hK K
        refine norm_ (a' := ?_) ?_ ?_
        rotate_left
        ·show Act.put _ (some 34) _ = _
         simp only [Act.put, List.setIfInBounds_toArray, List.set_cons_zero, List.set_cons_succ, i64_w, i32_w]
         rfl
        refine pure_ (i := 22) (N := some 35) (v := ?_) (a' := ?_) #[true, true, true, true, true, true, true, true, true, true, true, true, true, true, true, true, true, true, true, true, true, true, true, false, false, false, false, false, false, false, false, false, false, false, false, false, false, false, false, false, false, false, false, false, false, false, false, false, false] rfl rfl (any_of HT_.out (by kernel_rfl)) (fun _ _ _ h => h) (Or.inl ⟨by rfl, ?_⟩) ?_ ?_
        rotate_left
        ·intro w'
         go_simp
         with_reducible rfl
        rotate_left
        ·exact zP i64_w i32_w
        refine pure_ (i := 23) (N := some 36) (v := ?_) (a' := ?_) #[true, true, true, true, true, true, true, true, true, true, true, true, true, true, true, true, true, true, true, true, true, true, true, true, false, false, false, false, false, false, false, false, false, false, false, false, false, false, false, false, false, false, false, false, false, false, false, false, false] rfl rfl (any_of HT_.out (by kernel_rfl)) (fun _ _ _ h => h) (Or.inl ⟨by rfl, ?_⟩) ?_ ?_
        rotate_left
        ·intro w'
         go_simp
         with_reducible rfl
        rotate_left
        ·exact zP i64_w i32_w
        refine pure_ (i := 24) (N := some 37) (v := ?_) (a' := ?_) #[true, true, true, true, true, true, true, true, true, true, true, true, true, true, true, true, true, true, true, true, true, true, true, true, true, false, false, false, false, false, false, false, false, false, false, false, false, false, false, false, false, false, false, false, false, false, false, false, false] rfl rfl (any_of HT_.out (by kernel_rfl)) (fun _ _ _ h => h) (Or.inl ⟨by rfl, ?_⟩) ?_ ?_
        rotate_left
        ·intro w'
         go_simp
         with_reducible rfl
        rotate_left
        ·exact zP i64_w i32_w
        refine pure_ (i := 25) (N := some 38) (v := ?_) (a' := ?_) #[true, true, true, true, true, true, true, true, true, true, true, true, true, true, true, true, true, true, true, true, true, true, true, true, true, true, false, false, false, false, false, false, false, false, false, false, false, false, false, false, false, false, false, false, false, false, false, false, false] rfl rfl (any_of HT_.out (by kernel_rfl)) (fun _ _ _ h => h) (Or.inl ⟨by rfl, ?_⟩) ?_ ?_
        rotate_left
        ·intro w'
         go_simp
         with_reducible rfl
        rotate_left
        ·exact zP i64_w i32_w
        refine pure_ (i := 27) (N := some 40) (v := ?_) (a' := ?_) #[true, true, true, true, true, true, true, true, true, true, true, true, true, true, true, true, true, true, true, true, true, true, true, true, true, true, false, true, false, false, false, false, false, false, false, false, false, false, false, false, false, false, false, false, false, false, false, false, false] rfl rfl (any_of HT_.out (by kernel_rfl)) (fun _ _ _ h => h) (Or.inl ⟨by rfl, ?_⟩) ?_ ?_
        rotate_left
        ·intro w'
         go_simp
         with_reducible rfl
        rotate_left
        ·exact zP i64_w i32_w
        refine pure_ (i := 28) (N := some 41) (v := ?_) (a' := ?_) #[true, true, true, true, true, true, true, true, true, true, true, true, true, true, true, true, true, true, true, true, true, true, true, true, true, true, false, true, true, false, false, false, false, false, false, false, false, false, false, false, false, false, false, false, false, false, false, false, false] rfl rfl (any_of HT_.out (by kernel_rfl)) (fun _ _ _ h => h) (Or.inl ⟨by rfl, ?_⟩) ?_ ?_
        rotate_left
        ·intro w'
         go_simp
         with_reducible rfl
        rotate_left
        ·exact zP i64_w i32_w
        refine one_ (i := 26) (N := some 39) #[true, true, true, true, true, true, true, true, true, true, true, true, true, true, true, true, true, true, true, true, true, true, true, true, true, true, true, true, true, false, false, false, false, false, false, false, false, false, false, false, false, false, false, false, false, false, false, false, false] rfl rfl (one_of HT_.out (by kernel_rfl)) (by decide) (fun K hK => ?_)
        refine goes_ Try.func17 (by kernel_rfl) rfl #[.slice A0 l0.length c0, .slice A1 l1.length c1] (by rfl) rfl rfl zM ?_
        with_reducible refine (extent_Subtract.calls _ _ l0 _ _ l1 t361 _ ?side1 ?side2 ?side3 ?side4 A20.out).mono ?_
        (case side1 => repeat (first | exact (Kd.C_below HR0.out (zG HB GE337)) | (with_reducible refine Kd.C_alloc ?_ _) | (with_reducible refine Kd.C_drewN ?_ _) | (with_reducible refine Kd.C_drew ?_)))
        (case side2 => exact HC0.out)
        (case side3 => repeat (first | exact (Kd.C_below HR1.out (zG HB GE337)) | (with_reducible refine Kd.C_alloc ?_ _) | (with_reducible refine Kd.C_drewN ?_ _) | (with_reducible refine Kd.C_drew ?_)))
        (case side4 => exact HC1.out)
        rintro e w44 ⟨v362, rfl, ho0, hb⟩
        refine ⟨_, rfl, ?_⟩
        have n0_ := Aside0.mk (Kd.R_elder' (zR HO342.out) (Kd.R_base ho0) hb)
        have n1_ := Aside0.mk (Kd.R_elder' (zR HO345.out) (Kd.R_base ho0) hb)
        have n2_ := Aside0.mk (Kd.R_elder' (zR HO349.out) (Kd.R_base ho0) hb)
        have n3_ := Aside0.mk (Kd.R_elder' (zR HO352.out) (Kd.R_base ho0) hb)
        have n4_ := Aside0.mk (Kd.R_elder' (zR HO356.out) (Kd.R_base ho0) hb)
        have n5_ := Aside0.mk (Kd.R_elder' (zR HO359.out) (Kd.R_base ho0) hb)
        have n6_ := Aside0.mk (Kd.R_lower (Kd.R_newB (Kd.R_new' (Kd.R_new' (Kd.R_new' (Kd.R_new' (Kd.R_new' (Kd.R_new' ho0 (Kd.R_lt (zR HO342.out))) (Kd.R_lt (zR HO345.out))) (Kd.R_lt (zR HO349.out))) (Kd.R_lt (zR HO352.out))) (Kd.R_lt (zR HO356.out))) (Kd.R_lt (zR HO359.out))) (g := gb337) (o := .cells #[.int .i64 a2_0, .int .i64 a2_1] 30 (0, 0)) (zL BK337.out)) (below_size (zG HB GE337)))
        have n7_ := Aside0.mk (blk_below (g := gb337) (o := .cells #[.int .i64 a2_0, .int .i64 a2_1] 30 (0, 0)) (zL BK337.out) hb)
        have n8_ := Aside0.mk (below_step (zG HB GE337) hb)
        clear HO342
        clear HO345
        clear HO349
        clear HO352
        clear HO356
        clear HO359
        clear BK337
        clear HB
        have HO342 := n0_
        have HO345 := n1_
        have HO349 := n2_
        have HO352 := n3_
        have HO356 := n4_
        have HO359 := n5_
        have HO363 := n6_
        have BK337 := n7_
        have HB := n8_
        clear n0_ n1_ n2_ n3_ n4_ n5_ n6_ n7_ n8_
        (try clear hb)
        (try clear hb2)
        (try clear hk)
        (try clear hi)
        (try clear ho0)
        refine hK.out _ _ ⟨(blk_cell BK337.out 0).trans rfl, (blk_cell BK337.out 1).trans rfl⟩ (fun hHeld => ?_)
        clear hK K
        refine norm_ (a' := ?_) ?_ ?_
        rotate_left
        ·show Act.put _ (some 39) _ = _
         simp only [Act.put, List.setIfInBounds_toArray, List.set_cons_zero, List.set_cons_succ, i64_w, i32_w]
         rfl
        refine one_ (i := 29) (N := some 42) #[true, true, true, true, true, true, true, true, true, true, true, true, true, true, true, true, true, true, true, true, true, true, true, true, true, true, true, true, true, true, false, false, false, false, false, false, false, false, false, false, false, false, false, false, false, false, false, false, false] rfl rfl (one_of HT_.out (by kernel_rfl)) (by decide) (fun K hK => ?_)
        refine goes_ Try.func25 (by kernel_rfl) rfl #[.slice A0 l0.length c0, .slice A1 l1.length c1] (by rfl) rfl rfl zM ?_
        with_reducible refine (tapearchiveref34_Subtract.calls k _ _ l0 _ _ l1 t364 _ ?side1 ?side2 ?side3 ?side4 A21.out).mono ?_
        (case side1 => exact zC (Kd.C_below HR0.out HB.out))
        (case side2 => exact HC0.out)
        (case side3 => exact zC (Kd.C_below HR1.out HB.out))
        (case side4 => exact HC1.out)
        rintro e w45 ⟨v365, rfl, ho0, hb⟩
        refine ⟨_, rfl, ?_⟩
        have n0_ := Aside0.mk (Kd.R_elder' (zR HO342.out) (Kd.R_base ho0) hb)
        have n1_ := Aside0.mk (Kd.R_elder' (zR HO345.out) (Kd.R_base ho0) hb)
        have n2_ := Aside0.mk (Kd.R_elder' (zR HO349.out) (Kd.R_base ho0) hb)
        have n3_ := Aside0.mk (Kd.R_elder' (zR HO352.out) (Kd.R_base ho0) hb)
        have n4_ := Aside0.mk (Kd.R_elder' (zR HO356.out) (Kd.R_base ho0) hb)
        have n5_ := Aside0.mk (Kd.R_elder' (zR HO359.out) (Kd.R_base ho0) hb)
        have n6_ := Aside0.mk (Kd.R_elder' (zR HO363.out) (Kd.R_base ho0) hb)
        have n7_ := Aside0.mk (Kd.R_lower (Kd.R_newB (Kd.R_new' (Kd.R_new' (Kd.R_new' (Kd.R_new' (Kd.R_new' (Kd.R_new' (Kd.R_new' ho0 (Kd.R_lt (zR HO342.out))) (Kd.R_lt (zR HO345.out))) (Kd.R_lt (zR HO349.out))) (Kd.R_lt (zR HO352.out))) (Kd.R_lt (zR HO356.out))) (Kd.R_lt (zR HO359.out))) (Kd.R_lt (zR HO363.out))) (g := gb337) (o := .cells #[.int .i64 a2_0, .int .i64 a2_1] 30 (0, 0)) (zL BK337.out)) (below_size (zG HB GE337)))
        have n8_ := Aside0.mk (blk_below (g := gb337) (o := .cells #[.int .i64 a2_0, .int .i64 a2_1] 30 (0, 0)) (zL BK337.out) hb)
        have n9_ := Aside0.mk (below_step (zG HB GE337) hb)
        clear HO342
        clear HO345
        clear HO349
        clear HO352
        clear HO356
        clear HO359
        clear HO363
        clear BK337
        clear HB
        have HO342 := n0_
        have HO345 := n1_
        have HO349 := n2_
        have HO352 := n3_
        have HO356 := n4_
        have HO359 := n5_
        have HO363 := n6_
        have HO366 := n7_
        have BK337 := n8_
        have HB := n9_
        clear n0_ n1_ n2_ n3_ n4_ n5_ n6_ n7_ n8_ n9_
        (try clear hb)
        (try clear hb2)
        (try clear hk)
        (try clear hi)
        (try clear ho0)
        obtain ⟨Ao46, co46, eo46⟩ := Kd.R_slice HO363.out
        (first | subst eo46 | (injection eo46 with f1_ f2_ f3_; have f4_ := f1_.symm; have f5_ := f3_.symm; clear f1_ f2_ f3_; subst f4_; subst f5_))
        obtain ⟨Ao47, co47, eo47⟩ := Kd.R_slice HO366.out
        (first | subst eo47 | (injection eo47 with f1_ f2_ f3_; have f4_ := f1_.symm; have f5_ := f3_.symm; clear f1_ f2_ f3_; subst f4_; subst f5_))
        refine hK.out _ _ ⟨(blk_cell BK337.out 0).trans rfl, (blk_cell BK337.out 1).trans rfl⟩ (fun hHeld => ?_)
        clear hK K
        refine norm_ (a' := ?_) ?_ ?_
        rotate_left
        ·show Act.put _ (some 42) _ = _
         simp only [Act.put, List.setIfInBounds_toArray, List.set_cons_zero, List.set_cons_succ, i64_w, i32_w]
         rfl
        refine one_ (i := 30) (N := some 43) #[true, true, true, true, true, true, true, true, true, true, true, true, true, true, true, true, true, true, true, true, true, true, true, true, true, true, true, true, true, true, true, false, false, false, false, false, false, false, false, false, false, false, false, false, false, false, false, false, false] rfl rfl (one_of HT_.out (by kernel_rfl)) (by decide) (fun K hK => ?_)
        refine goes_ Try.func10 (by kernel_rfl) rfl #[.slice Ao46 t361.length co46, .slice Ao47 t364.length co47] (by rfl) rfl rfl zM ?_
        with_reducible refine (tapearchiveref34_Same.calls k _ _ t361 _ _ t364 true _ ?side1 ?side2 ?side3 ?side4 A22.out).mono ?_
        (case side1 => exact zC (Kd.R_reads' HO363.out).2.2)
        (case side2 => exact (Kd.R_reads' HO363.out).2.1)
        (case side3 => exact zC (Kd.R_reads' HO366.out).2.2)
        (case side4 => exact (Kd.R_reads' HO366.out).2.1)
        rintro e w' ⟨rfl, ⟨nd, rfl⟩⟩
        refine ⟨_, rfl, ?_⟩
        refine hK.out _ _ ⟨(blk_cell BK337.out 0).trans rfl, (blk_cell BK337.out 1).trans rfl⟩ (fun hHeld => ?_)
        clear hK K
        refine norm_ (a' := ?_) ?_ ?_
        rotate_left
        ·show Act.put _ (some 43) _ = _
         simp only [Act.put, List.setIfInBounds_toArray, List.set_cons_zero, List.set_cons_succ, i64_w, i32_w]
         rfl
        refine pure_ (i := 31) (N := some 44) (v := ?_) (a' := ?_) #[true, true, true, true, true, true, true, true, true, true, true, true, true, true, true, true, true, true, true, true, true, true, true, true, true, true, true, true, true, true, true, true, false, false, false, false, false, false, false, false, false, false, false, false, false, false, false, false, false] rfl rfl (any_of HT_.out (by kernel_rfl)) (fun _ _ _ h => h) (Or.inl ⟨by rfl, ?_⟩) ?_ ?_
        rotate_left
        ·intro w'
         go_simp
         with_reducible rfl
        rotate_left
        ·exact zP i64_w i32_w
        refine pure_ (i := 32) (N := some 45) (v := ?_) (a' := ?_) #[true, true, true, true, true, true, true, true, true, true, true, true, true, true, true, true, true, true, true, true, true, true, true, true, true, true, true, true, true, true, true, true, true, false, false, false, false, false, false, false, false, false, false, false, false, false, false, false, false] rfl rfl (any_of HT_.out (by kernel_rfl)) (fun _ _ _ h => h) (Or.inl ⟨by rfl, ?_⟩) ?_ ?_
        rotate_left
        ·intro w'
         go_simp
         with_reducible rfl
        rotate_left
        ·exact zP i64_w i32_w
        refine pure_ (i := 33) (N := some 46) (v := ?_) (a' := ?_) #[true, true, true, true, true, true, true, true, true, true, true, true, true, true, true, true, true, true, true, true, true, true, true, true, true, true, true, true, true, true, true, true, true, true, false, false, false, false, false, false, false, false, false, false, false, false, false, false, false] rfl rfl (any_of HT_.out (by kernel_rfl)) (fun _ _ _ h => h) (Or.inl ⟨by rfl, ?_⟩) ?_ ?_
        rotate_left
        ·intro w'
         go_simp
         with_reducible rfl
        rotate_left
        ·exact zP i64_w i32_w
        refine pure_ (i := 36) (N := some 49) (v := ?_) (a' := ?_) #[true, true, true, true, true, true, true, true, true, true, true, true, true, true, true, true, true, true, true, true, true, true, true, true, true, true, true, true, true, true, true, true, true, true, false, false, true, false, false, false, false, false, false, false, false, false, false, false, false] rfl rfl (any_of HT_.out (by kernel_rfl)) (fun _ _ _ h => h) (Or.inl ⟨by rfl, ?_⟩) ?_ ?_
        rotate_left
        ·intro w'
         go_simp
         with_reducible rfl
        rotate_left
        ·exact zP i64_w i32_w
        refine take_ (i := 34) (N := some 47) (v := ?_) (a' := ?_) #[true, true, true, true, true, true, true, true, true, true, true, true, true, true, true, true, true, true, true, true, true, true, true, true, true, true, true, true, true, true, true, true, true, true, true, false, true, false, false, false, false, false, false, false, false, false, false, false, false] rfl rfl (take_ofW HT_.out HW_.out (by kernel_rfl)) (fun _ _ _ h => h) (Or.inl ⟨by rfl, ?_⟩) hHeld ?_ ?_
        rotate_left
        ·rintro w' ⟨s0, s1⟩
         go_simp
         with_reducible rfl
        rotate_left
        ·exact zP i64_w i32_w
        refine take_ (i := 37) (N := some 50) (v := ?_) (a' := ?_) #[true, true, true, true, true, true, true, true, true, true, true, true, true, true, true, true, true, true, true, true, true, true, true, true, true, true, true, true, true, true, true, true, true, true, true, false, true, true, false, false, false, false, false, false, false, false, false, false, false] rfl rfl (take_ofW HT_.out HW_.out (by kernel_rfl)) (fun _ _ _ h => h) (Or.inl ⟨by rfl, ?_⟩) hHeld ?_ ?_
        rotate_left
        ·rintro w' ⟨s0, s1⟩
         go_simp
         with_reducible rfl
        rotate_left
        ·exact zP i64_w i32_w
        refine one_ (i := 35) (N := some 48) #[true, true, true, true, true, true, true, true, true, true, true, true, true, true, true, true, true, true, true, true, true, true, true, true, true, true, true, true, true, true, true, true, true, true, true, true, true, true, false, false, false, false, false, false, false, false, false, false, false] rfl rfl (one_of HT_.out (by kernel_rfl)) (by decide) (fun K hK => ?_)
        refine goes_ Try.func26 (by kernel_rfl) rfl #[.slice A0 l0.length c0, .agg #[.int .i64 a2_0, .int .i64 a2_1]] (by rfl) rfl rfl zM ?_
        with_reducible refine (extent_Covers.calls _ _ l0 a2_0 a2_1 t368 _ ?side1 ?side2 A24.out).mono ?_
        (case side1 => repeat (first | exact (Kd.C_below HR0.out (zG HB GE337)) | (with_reducible refine Kd.C_alloc ?_ _) | (with_reducible refine Kd.C_drewN ?_ _) | (with_reducible refine Kd.C_drew ?_)))
        (case side2 => exact HC0.out)
        rintro e w48 ⟨rfl, hb⟩
        refine ⟨_, rfl, ?_⟩
        have n0_ := Aside0.mk (Kd.R_below (zR HO342.out) hb)
        have n1_ := Aside0.mk (Kd.R_below (zR HO345.out) hb)
        have n2_ := Aside0.mk (Kd.R_below (zR HO349.out) hb)
        have n3_ := Aside0.mk (Kd.R_below (zR HO352.out) hb)
        have n4_ := Aside0.mk (Kd.R_below (zR HO356.out) hb)
        have n5_ := Aside0.mk (Kd.R_below (zR HO359.out) hb)
        have n6_ := Aside0.mk (Kd.R_below (zR HO363.out) hb)
        have n7_ := Aside0.mk (Kd.R_below (zR HO366.out) hb)
        have n8_ := Aside0.mk (blk_below (g := gb337) (o := .cells #[.int .i64 a2_0, .int .i64 a2_1] 30 (0, 0)) (zL BK337.out) hb)
        have n9_ := Aside0.mk (below_step (zG HB GE337) hb)
        clear HO342
        clear HO345
        clear HO349
        clear HO352
        clear HO356
        clear HO359
        clear HO363
        clear HO366
        clear BK337
        clear HB
        have HO342 := n0_
        have HO345 := n1_
        have HO349 := n2_
        have HO352 := n3_
        have HO356 := n4_
        have HO359 := n5_
        have HO363 := n6_
        have HO366 := n7_
        have BK337 := n8_
        have HB := n9_
        clear n0_ n1_ n2_ n3_ n4_ n5_ n6_ n7_ n8_ n9_
        (try clear hb)
        (try clear hb2)
        (try clear hk)
        (try clear hi)
        refine hK.out _ _ ⟨(blk_cell BK337.out 0).trans rfl, (blk_cell BK337.out 1).trans rfl⟩ (fun hHeld => ?_)
        clear hK K
        refine norm_ (a' := ?_) ?_ ?_
        rotate_left
        ·show Act.put _ (some 48) _ = _
         simp only [Act.put, List.setIfInBounds_toArray, List.set_cons_zero, List.set_cons_succ, i64_w, i32_w]
         rfl
        refine one_ (i := 38) (N := some 51) #[true, true, true, true, true, true, true, true, true, true, true, true, true, true, true, true, true, true, true, true, true, true, true, true, true, true, true, true, true, true, true, true, true, true, true, true, true, true, true, false, false, false, false, false, false, false, false, false, false] rfl rfl (one_of HT_.out (by kernel_rfl)) (by decide) (fun K hK => ?_)
        refine goes_ Try.func27 (by kernel_rfl) rfl #[.slice A0 l0.length c0, .agg #[.int .i64 a2_0, .int .i64 a2_1]] (by rfl) rfl rfl zM ?_
        with_reducible refine (tapearchiveref34_Covers.calls k _ _ l0 a2_0 a2_1 t369 _ ?side1 ?side2 A25.out).mono ?_
        (case side1 => exact zC (Kd.C_below HR0.out HB.out))
        (case side2 => exact HC0.out)
        rintro e w49 ⟨rfl, hb⟩
        refine ⟨_, rfl, ?_⟩
        have n0_ := Aside0.mk (Kd.R_below (zR HO342.out) hb)
        have n1_ := Aside0.mk (Kd.R_below (zR HO345.out) hb)
        have n2_ := Aside0.mk (Kd.R_below (zR HO349.out) hb)
        have n3_ := Aside0.mk (Kd.R_below (zR HO352.out) hb)
        have n4_ := Aside0.mk (Kd.R_below (zR HO356.out) hb)
        have n5_ := Aside0.mk (Kd.R_below (zR HO359.out) hb)
        have n6_ := Aside0.mk (Kd.R_below (zR HO363.out) hb)
        have n7_ := Aside0.mk (Kd.R_below (zR HO366.out) hb)
        have n8_ := Aside0.mk (blk_below (g := gb337) (o := .cells #[.int .i64 a2_0, .int .i64 a2_1] 30 (0, 0)) (zL BK337.out) hb)
        have n9_ := Aside0.mk (below_step (zG HB GE337) hb)
        clear HO342
        clear HO345
        clear HO349
        clear HO352
        clear HO356
        clear HO359
        clear HO363
        clear HO366
        clear BK337
        clear HB
        have HO342 := n0_
        have HO345 := n1_
        have HO349 := n2_
        have HO352 := n3_
        have HO356 := n4_
        have HO359 := n5_
        have HO363 := n6_
        have HO366 := n7_
        have BK337 := n8_
        have HB := n9_
        clear n0_ n1_ n2_ n3_ n4_ n5_ n6_ n7_ n8_ n9_
        (try clear hb)
        (try clear hb2)
        (try clear hk)
        (try clear hi)
        refine hK.out _ _ ⟨(blk_cell BK337.out 0).trans rfl, (blk_cell BK337.out 1).trans rfl⟩ (fun hHeld => ?_)
        clear hK K
        refine norm_ (a' := ?_) ?_ ?_
        rotate_left
        ·show Act.put _ (some 51) _ = _
         simp only [Act.put, List.setIfInBounds_toArray, List.set_cons_zero, List.set_cons_succ, i64_w, i32_w]
         rfl
        refine pure_ (i := 39) (N := some 52) (v := ?_) (a' := ?_) #[true, true, true, true, true, true, true, true, true, true, true, true, true, true, true, true, true, true, true, true, true, true, true, true, true, true, true, true, true, true, true, true, true, true, true, true, true, true, true, true, false, false, false, false, false, false, false, false, false] rfl rfl (any_of HT_.out (by kernel_rfl)) (fun _ _ _ h => h) (Or.inl ⟨by rfl, ?_⟩) ?_ ?_
        rotate_left
        ·intro w'
         go_simp
         with_reducible rfl
        rotate_left
        ·exact zP i64_w i32_w
        refine pure_ (i := 40) (N := some 53) (v := ?_) (a' := ?_) #[true, true, true, true, true, true, true, true, true, true, true, true, true, true, true, true, true, true, true, true, true, true, true, true, true, true, true, true, true, true, true, true, true, true, true, true, true, true, true, true, true, false, false, false, false, false, false, false, false] rfl rfl (any_of HT_.out (by kernel_rfl)) (fun _ _ _ h => h) (Or.inl ⟨by rfl, ?_⟩) ?_ ?_
        rotate_left
        ·intro w'
         go_simp
         with_reducible rfl
        rotate_left
        ·exact zP i64_w i32_w
        refine pure_ (i := 41) (N := some 54) (v := ?_) (a' := ?_) #[true, true, true, true, true, true, true, true, true, true, true, true, true, true, true, true, true, true, true, true, true, true, true, true, true, true, true, true, true, true, true, true, true, true, true, true, true, true, true, true, true, true, false, false, false, false, false, false, false] rfl rfl (any_of HT_.out (by kernel_rfl)) (fun _ _ _ h => h) (Or.inl ⟨by rfl, ?_⟩) ?_ ?_
        rotate_left
        ·intro w'
         go_simp
         with_reducible rfl
        rotate_left
        ·exact zP i64_w i32_w
        refine pure_ (i := 42) (N := some 55) (v := ?_) (a' := ?_) #[true, true, true, true, true, true, true, true, true, true, true, true, true, true, true, true, true, true, true, true, true, true, true, true, true, true, true, true, true, true, true, true, true, true, true, true, true, true, true, true, true, true, true, false, false, false, false, false, false] rfl rfl (any_of HT_.out (by kernel_rfl)) (fun _ _ _ h => h) (Or.inl ⟨by rfl, ?_⟩) ?_ ?_
        rotate_left
        ·intro w'
         go_simp
         with_reducible rfl
        rotate_left
        ·exact zP i64_w i32_w
        refine pure_ (i := 44) (N := some 57) (v := ?_) (a' := ?_) #[true, true, true, true, true, true, true, true, true, true, true, true, true, true, true, true, true, true, true, true, true, true, true, true, true, true, true, true, true, true, true, true, true, true, true, true, true, true, true, true, true, true, true, false, true, false, false, false, false] rfl rfl (any_of HT_.out (by kernel_rfl)) (fun _ _ _ h => h) (Or.inl ⟨by rfl, ?_⟩) ?_ ?_
        rotate_left
        ·intro w'
         go_simp
         with_reducible rfl
        rotate_left
        ·exact zP i64_w i32_w
        refine one_ (i := 43) (N := some 56) #[true, true, true, true, true, true, true, true, true, true, true, true, true, true, true, true, true, true, true, true, true, true, true, true, true, true, true, true, true, true, true, true, true, true, true, true, true, true, true, true, true, true, true, true, true, false, false, false, false] rfl rfl (one_of HT_.out (by kernel_rfl)) (by decide) (fun K hK => ?_)
        refine goes_ Try.func21 (by kernel_rfl) rfl #[.slice A0 l0.length c0] (by rfl) rfl rfl zM ?_
        with_reducible refine (extent_Total.calls k _ _ l0 t370 _ ?side1 ?side2 A27.out).mono ?_
        (case side1 => exact zC (Kd.C_below HR0.out HB.out))
        (case side2 => exact HC0.out)
        rintro e w50 ⟨rfl, hb⟩
        refine ⟨_, rfl, ?_⟩
        have n0_ := Aside0.mk (Kd.R_below (zR HO342.out) hb)
        have n1_ := Aside0.mk (Kd.R_below (zR HO345.out) hb)
        have n2_ := Aside0.mk (Kd.R_below (zR HO349.out) hb)
        have n3_ := Aside0.mk (Kd.R_below (zR HO352.out) hb)
        have n4_ := Aside0.mk (Kd.R_below (zR HO356.out) hb)
        have n5_ := Aside0.mk (Kd.R_below (zR HO359.out) hb)
        have n6_ := Aside0.mk (Kd.R_below (zR HO363.out) hb)
        have n7_ := Aside0.mk (Kd.R_below (zR HO366.out) hb)
        have n8_ := Aside0.mk (blk_below (g := gb337) (o := .cells #[.int .i64 a2_0, .int .i64 a2_1] 30 (0, 0)) (zL BK337.out) hb)
        have n9_ := Aside0.mk (below_step (zG HB GE337) hb)
        clear HO342
        clear HO345
        clear HO349
        clear HO352
        clear HO356
        clear HO359
        clear HO363
        clear HO366
        clear BK337
        clear HB
        have HO342 := n0_
        have HO345 := n1_
        have HO349 := n2_
        have HO352 := n3_
        have HO356 := n4_
        have HO359 := n5_
        have HO363 := n6_
        have HO366 := n7_
        have BK337 := n8_
        have HB := n9_
        clear n0_ n1_ n2_ n3_ n4_ n5_ n6_ n7_ n8_ n9_
        (try clear hb)
        (try clear hb2)
        (try clear hk)
        (try clear hi)
        refine hK.out _ _ ⟨(blk_cell BK337.out 0).trans rfl, (blk_cell BK337.out 1).trans rfl⟩ (fun hHeld => ?_)
        clear hK K
        refine norm_ (a' := ?_) ?_ ?_
        rotate_left
        ·show Act.put _ (some 56) _ = _
         simp only [Act.put, List.setIfInBounds_toArray, List.set_cons_zero, List.set_cons_succ, i64_w, i32_w]
         rfl
        refine one_ (i := 45) (N := some 58) #[true, true, true, true, true, true, true, true, true, true, true, true, true, true, true, true, true, true, true, true, true, true, true, true, true, true, true, true, true, true, true, true, true, true, true, true, true, true, true, true, true, true, true, true, true, true, false, false, false] rfl rfl (one_of HT_.out (by kernel_rfl)) (by decide) (fun K hK => ?_)
        refine goes_ Try.func28 (by kernel_rfl) rfl #[.slice A0 l0.length c0] (by rfl) rfl rfl zM ?_
        with_reducible refine (tapearchiveref34_Total.calls k _ _ l0 t371 _ ?side1 ?side2 A28.out).mono ?_
        (case side1 => exact zC (Kd.C_below HR0.out HB.out))
        (case side2 => exact HC0.out)
        rintro e w51 ⟨rfl, hb⟩
        refine ⟨_, rfl, ?_⟩
        have n0_ := Aside0.mk (Kd.R_below (zR HO342.out) hb)
        have n1_ := Aside0.mk (Kd.R_below (zR HO345.out) hb)
        have n2_ := Aside0.mk (Kd.R_below (zR HO349.out) hb)
        have n3_ := Aside0.mk (Kd.R_below (zR HO352.out) hb)
        have n4_ := Aside0.mk (Kd.R_below (zR HO356.out) hb)
        have n5_ := Aside0.mk (Kd.R_below (zR HO359.out) hb)
        have n6_ := Aside0.mk (Kd.R_below (zR HO363.out) hb)
        have n7_ := Aside0.mk (Kd.R_below (zR HO366.out) hb)
        have n8_ := Aside0.mk (blk_below (g := gb337) (o := .cells #[.int .i64 a2_0, .int .i64 a2_1] 30 (0, 0)) (zL BK337.out) hb)
        have n9_ := Aside0.mk (below_step (zG HB GE337) hb)
        clear HO342
        clear HO345
        clear HO349
        clear HO352
        clear HO356
        clear HO359
        clear HO363
        clear HO366
        clear BK337
        clear HB
        have HO342 := n0_
        have HO345 := n1_
        have HO349 := n2_
        have HO352 := n3_
        have HO356 := n4_
        have HO359 := n5_
        have HO363 := n6_
        have HO366 := n7_
        have BK337 := n8_
        have HB := n9_
        clear n0_ n1_ n2_ n3_ n4_ n5_ n6_ n7_ n8_ n9_
        (try clear hb)
        (try clear hb2)
        (try clear hk)
        (try clear hi)
        refine hK.out _ _ ⟨(blk_cell BK337.out 0).trans rfl, (blk_cell BK337.out 1).trans rfl⟩ (fun hHeld => ?_)
        clear hK K
        refine norm_ (a' := ?_) ?_ ?_
        rotate_left
        ·show Act.put _ (some 58) _ = _
         simp only [Act.put, List.setIfInBounds_toArray, List.set_cons_zero, List.set_cons_succ, i64_w, i32_w]
         rfl
        refine pure_ (i := 46) (N := some 59) (v := ?_) (a' := ?_) #[true, true, true, true, true, true, true, true, true, true, true, true, true, true, true, true, true, true, true, true, true, true, true, true, true, true, true, true, true, true, true, true, true, true, true, true, true, true, true, true, true, true, true, true, true, true, true, false, false] rfl rfl (any_of HT_.out (by kernel_rfl)) (fun _ _ _ h => h) (Or.inl ⟨by rfl, ?_⟩) ?_ ?_
        rotate_left
        ·intro w'
         go_simp
         with_reducible rfl
        rotate_left
        ·exact zP i64_w i32_w
        refine pure_ (i := 47) (N := some 60) (v := ?_) (a' := ?_) #[true, true, true, true, true, true, true, true, true, true, true, true, true, true, true, true, true, true, true, true, true, true, true, true, true, true, true, true, true, true, true, true, true, true, true, true, true, true, true, true, true, true, true, true, true, true, true, true, false] rfl rfl (any_of HT_.out (by kernel_rfl)) (fun _ _ _ h => h) (Or.inl ⟨by rfl, ?_⟩) ?_ ?_
        rotate_left
        ·intro w'
         go_simp
         with_reducible rfl
        rotate_left
        ·exact zP i64_w i32_w
        refine pure_ (i := 48) (N := some 6) (v := ?_) (a' := ?_) #[true, true, true, true, true, true, true, true, true, true, true, true, true, true, true, true, true, true, true, true, true, true, true, true, true, true, true, true, true, true, true, true, true, true, true, true, true, true, true, true, true, true, true, true, true, true, true, true, true] rfl rfl (any_of HT_.out (by kernel_rfl)) (fun _ _ _ h => h) (Or.inl ⟨by rfl, ?_⟩) ?_ ?_
        rotate_left
        ·intro w'
         go_simp
         with_reducible rfl
        rotate_left
        ·exact zP i64_w i32_w
        refine done_ (done_of HT_.out (by kernel_rfl)) ?_
        try go_wp2
        go_ret
        exact ⟨by first | rfl | (simp [errW_none, errW_some] <;> rfl) | (simp [*, errW_none, errW_some] <;> rfl), by repeat (first | (with_reducible first | exact HB.out | apply below_alloc | apply pw_below_drewN | apply below_drew1 | refine below_set ?_ GE337.out) | exact HB.out)⟩
       ·rw [if_neg c26] at H
        have c26b0 : (t368 == t369) = false := by simpa using c26
        (try (have c26b1 : decide (t368 = t369) = false := by simpa using c26))
        (try (have c26b2 : (t368 == t369) = false := by simpa using c26))
        (try (have c26b3 : ¬ (t368 = t369) := by simpa using c26))
        clear c26
        exact absurd (Option.some.inj H) (by rw [ht_.out]; simp)
      ·replace c23 := Bool.eq_false_iff.mpr c23
       subst c23
       have H1 : (some false) = some r := by rw [if_neg (show ¬ (false = true) by decide)] at H; exact H
       clear H
       have H := H1
       clear H1
       exact absurd (Option.some.inj H) (by rw [ht_.out]; simp)
     ·replace c19 := Bool.eq_false_iff.mpr c19
      subst c19
      have H1 : (some false) = some r := by rw [if_neg (show ¬ (false = true) by decide)] at H; exact H
      clear H
      have H := H1
      clear H1
      exact absurd (Option.some.inj H) (by rw [ht_.out]; simp)
    ·replace c15 := Bool.eq_false_iff.mpr c15
     subst c15
     have H1 : (some false) = some r := by rw [if_neg (show ¬ (false = true) by decide)] at H; exact H
     clear H
     have H := H1
     clear H1
     exact absurd (Option.some.inj H) (by rw [ht_.out]; simp)
   ·replace c11 := Bool.eq_false_iff.mpr c11
    subst c11
    have H1 : (some false) = some r := by rw [if_neg (show ¬ (false = true) by decide)] at H; exact H
    clear H
    have H := H1
    clear H1
    exact absurd (Option.some.inj H) (by rw [ht_.out]; simp)
  ·replace c7 := Bool.eq_false_iff.mpr c7
   subst c7
   have H1 : (some true) = some r := by rw [if_neg (show ¬ (false = true) by decide)] at H; exact H
   clear H
   have H := H1
   clear H1
   obtain rfl := Option.some.inj H
   go_enter Try.func7, Try.ntmps7
   go_wp2_with (first | ((with_reducible refine gate_dst (N := 5) rfl ?_); refine box_event ?hg (N := 5) ?hd (cs := #[.int .i64 a2_0, .int .i64 a2_1]) (t := 30) ?hr ?_; (case hd => rfl); (case hg => rfl); (case hr => first | (go_simp; done) | (go_simp; rfl)); intro gb337 hg w52 hbox hb; have n0_ := Aside0.mk (below_step (zB HB) hb); have n1_ := Aside0.mk (hbox); have n2_ := Aside0.mk ((by rw [hg]; exact (below_size (zB HB)) : w.heap.size ≤ gb337)); have n3_ := Aside0.mk ((by rw [hg]; exact (below_size (zB HB)) : w.heap.size ≤ gb337)); clear HB; have HB := n0_; have BK337 := n1_; have GW337 := n2_; have GE337 := n3_; clear n0_ n1_ n2_ n3_; clear hb hbox hg) | ((with_reducible refine gate_callee (f := 8) rfl ?_); refine goesL_ (some 7) rfl rfl Try.func8 (by kernel_rfl) rfl #[] rfl zM ?_; (with_reducible refine (tapearchivelaw34_lives_s.calls  true _ A4.out).mono ?_); rintro e w53 ⟨rfl, hb⟩; refine ⟨_, rfl, ?_⟩; have n0_ := Aside0.mk (blk_below (g := gb337) (o := .cells #[.int .i64 a2_0, .int .i64 a2_1] 30 (0, 0)) (zL BK337.out) hb); have n1_ := Aside0.mk (below_step (zG HB GE337) hb); clear BK337; clear HB; have BK337 := n0_; have HB := n1_; clear n0_ n1_; (try clear hb); (try clear hb2); (try clear hk); (try clear hi)) | ((with_reducible refine gate_callee (f := 9) rfl ?_); refine goesL_ (some 11) rfl rfl Try.func9 (by kernel_rfl) rfl #[.slice A0 l0.length c0, .slice A1 l1.length c1] rfl zM ?_; (with_reducible refine (tapearchivelaw34_few.calls _ _ l0 _ _ l1 false _ ?side1 ?side2 ?side3 ?side4 A6.out).mono ?_); (case side1 => exact zC (Kd.C_below HR0.out HB.out)); (case side2 => exact HC0.out); (case side3 => exact zC (Kd.C_below HR1.out HB.out)); (case side4 => exact HC1.out); rintro e w' ⟨rfl, ⟨nd, rfl⟩⟩; refine ⟨_, rfl, ?_⟩))
   go_ret
   exact ⟨by first | rfl | (simp [errW_none, errW_some] <;> rfl) | (simp [*, errW_none, errW_some] <;> rfl), by repeat (first | (with_reducible first | exact HB.out | apply below_alloc | apply pw_below_drewN | apply below_drew1 | refine below_set ?_ GE337.out) | exact HB.out)⟩
 ·replace c5 := Bool.eq_false_iff.mpr c5
  subst c5
  have H1 : (some false) = some r := by rw [if_neg (show ¬ (false = true) by decide)] at H; exact H
  clear H
  have H := H1
  clear H1
  exact absurd (Option.some.inj H) (by rw [ht_.out]; simp)

end
end Go.Proofs.Ytcckacamocaofaa.P
