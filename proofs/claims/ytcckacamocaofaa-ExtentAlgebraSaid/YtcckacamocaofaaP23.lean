-- Written by this session's wip/tools/px.py out of the translation. Lean checks it.
import Derived.Test.YtcckacamocaofaaP0
import Derived.Test.YtcckacamocaofaaP11
namespace Go.Proofs.Ytcckacamocaofaa.P
noncomputable section
open Go.RowKit Go.Proofs.YtcckacamocaofaaW.PrintWords Go.Proofs.YtcckacamocaofaaW.PrintLast Go.Proofs.YtcckacamocaofaaW.PrintMore
attribute [local go_sem] max2_int min2_int max_two min_two max_three min_three max_four min_four   -- for this text's walks alone
set_option linter.unusedVariables false
set_option linter.unusedSimpArgs false

/-! ### tapearchivelaw34_agree: function 20 -/
def tapearchivelaw34_agree.f (k : Nat) (l0 : List (S30)) (l1 : List (S30)) (l2 : List (S30)) (l3 : List (S30)) (l4 : List (S30)) (a5 : Int) : Option (Bool) := (tapearchiveref34_In.f k l0 a5).bind fun t481 => ((tapearchiveref34_In.f k l1 a5).bind fun t482 => ((tapearchiveref34_In.f k l2 a5).bind fun t483 => (if t481 = true then (if (t483 == true) = true then ((tapearchiveref34_In.f k l3 a5).bind fun t484 => (if (t484 == t482) = true then ((tapearchiveref34_In.f k l4 a5).bind fun t485 => (some (t485 == (!t482)))) else (some false))) else (some false)) else (if (t483 == t482) = true then ((tapearchiveref34_In.f k l3 a5).bind fun t486 => (if (t486 == false) = true then ((tapearchiveref34_In.f k l4 a5).bind fun t487 => (some (t487 == false))) else (some false))) else (some false)))))
theorem tapearchivelaw34_agree.mono : ∀ a0 a1 a2 a3 a4 a5 k, LeO (tapearchivelaw34_agree.f k a0 a1 a2 a3 a4 a5) (tapearchivelaw34_agree.f (k + 1) a0 a1 a2 a3 a4 a5) := by
 intro a0 a1 a2 a3 a4 a5 k
 unfold tapearchivelaw34_agree.f
 repeat' first
   | (with_reducible exact tapearchiveref34_In.mono _ _ _)
   | (with_reducible exact LeO.refl _)
   | (with_reducible exact LeO.none _)
   | (with_reducible refine LeO.ite ?_ ?_)
   | (with_reducible refine LeO.bind ?_ (fun _ => ?_))
   | exact tapearchiveref34_In.mono _ _ _
   | exact LeO.none _
   | refine LeO.ite ?_ ?_
   | refine LeO.bind ?_ (fun _ => ?_)
set_option maxHeartbeats 8000000 in
set_option maxRecDepth 100000 in
theorem tapearchivelaw34_agree.calls (k : Nat) (A0 : Option Addr) (c0 : Nat) (l0 : List (S30)) (A1 : Option Addr) (c1 : Nat) (l1 : List (S30)) (A2 : Option Addr) (c2 : Nat) (l2 : List (S30)) (A3 : Option Addr) (c3 : Nat) (l3 : List (S30)) (A4 : Option Addr) (c4 : Nat) (l4 : List (S30)) (a5 : Int) (r : Bool) (w : World) (hr0 : Kd.C k30 w A0 l0.length l0) (hc0 : l0.length ≤ c0) (hr1 : Kd.C k30 w A1 l1.length l1) (hc1 : l1.length ≤ c1) (hr2 : Kd.C k30 w A2 l2.length l2) (hc2 : l2.length ≤ c2) (hr3 : Kd.C k30 w A3 l3.length l3) (hc3 : l3.length ≤ c3) (hr4 : Kd.C k30 w A4 l4.length l4) (hc4 : l4.length ≤ c4) (h : tapearchivelaw34_agree.f k l0 l1 l2 l3 l4 a5 = some r) :
  Calls Try.prog 20 #[.slice A0 l0.length c0, .slice A1 l1.length c1, .slice A2 l2.length c2, .slice A3 l3.length c3, .slice A4 l4.length c4, .int .i64 a5] w fun e w' => e = .returned (.bool r) ∧ Below w.heap.size w w' := by
 have HR0 := Aside0.mk hr0
 have HC0 := Aside0.mk hc0
 clear hr0 hc0
 have HR1 := Aside0.mk hr1
 have HC1 := Aside0.mk hc1
 clear hr1 hc1
 have HR2 := Aside0.mk hr2
 have HC2 := Aside0.mk hc2
 clear hr2 hc2
 have HR3 := Aside0.mk hr3
 have HC3 := Aside0.mk hc3
 clear hr3 hc3
 have HR4 := Aside0.mk hr4
 have HC4 := Aside0.mk hc4
 clear hr4 hc4
 have HB := Aside0.mk (Below.refl w.heap.size w)
 have H : ((tapearchiveref34_In.f k l0 a5).bind fun t481 => ((tapearchiveref34_In.f k l1 a5).bind fun t482 => ((tapearchiveref34_In.f k l2 a5).bind fun t483 => (if t481 = true then (if (t483 == true) = true then ((tapearchiveref34_In.f k l3 a5).bind fun t484 => (if (t484 == t482) = true then ((tapearchiveref34_In.f k l4 a5).bind fun t485 => (some (t485 == (!t482)))) else (some false))) else (some false)) else (if (t483 == t482) = true then ((tapearchiveref34_In.f k l3 a5).bind fun t486 => (if (t486 == false) = true then ((tapearchiveref34_In.f k l4 a5).bind fun t487 => (some (t487 == false))) else (some false))) else (some false)))))) = some r := h
 clear h
 replace H := Option.bind_eq_some_iff.mp H
 obtain ⟨t481, A70, H⟩ := H
 replace H : ((tapearchiveref34_In.f k l1 a5).bind fun t482 => ((tapearchiveref34_In.f k l2 a5).bind fun t483 => (if t481 = true then (if (t483 == true) = true then ((tapearchiveref34_In.f k l3 a5).bind fun t484 => (if (t484 == t482) = true then ((tapearchiveref34_In.f k l4 a5).bind fun t485 => (some (t485 == (!t482)))) else (some false))) else (some false)) else (if (t483 == t482) = true then ((tapearchiveref34_In.f k l3 a5).bind fun t486 => (if (t486 == false) = true then ((tapearchiveref34_In.f k l4 a5).bind fun t487 => (some (t487 == false))) else (some false))) else (some false))))) = some r := H
 have A7 := Aside0.mk A70
 clear A70
 replace H := Option.bind_eq_some_iff.mp H
 obtain ⟨t482, A80, H⟩ := H
 replace H : ((tapearchiveref34_In.f k l2 a5).bind fun t483 => (if t481 = true then (if (t483 == true) = true then ((tapearchiveref34_In.f k l3 a5).bind fun t484 => (if (t484 == t482) = true then ((tapearchiveref34_In.f k l4 a5).bind fun t485 => (some (t485 == (!t482)))) else (some false))) else (some false)) else (if (t483 == t482) = true then ((tapearchiveref34_In.f k l3 a5).bind fun t486 => (if (t486 == false) = true then ((tapearchiveref34_In.f k l4 a5).bind fun t487 => (some (t487 == false))) else (some false))) else (some false)))) = some r := H
 have A8 := Aside0.mk A80
 clear A80
 replace H := Option.bind_eq_some_iff.mp H
 obtain ⟨t483, A90, H⟩ := H
 replace H : (if t481 = true then (if (t483 == true) = true then ((tapearchiveref34_In.f k l3 a5).bind fun t484 => (if (t484 == t482) = true then ((tapearchiveref34_In.f k l4 a5).bind fun t485 => (some (t485 == (!t482)))) else (some false))) else (some false)) else (if (t483 == t482) = true then ((tapearchiveref34_In.f k l3 a5).bind fun t486 => (if (t486 == false) = true then ((tapearchiveref34_In.f k l4 a5).bind fun t487 => (some (t487 == false))) else (some false))) else (some false))) = some r := H
 have A9 := Aside0.mk A90
 clear A90
 by_cases c10 : t481 = true
 ·subst c10
  have H1 : (if (t483 == true) = true then ((tapearchiveref34_In.f k l3 a5).bind fun t484 => (if (t484 == t482) = true then ((tapearchiveref34_In.f k l4 a5).bind fun t485 => (some (t485 == (!t482)))) else (some false))) else (some false)) = some r := by rw [if_pos rfl] at H; exact H
  clear H
  have H := H1
  clear H1
  by_cases c11 : (t483 == true) = true
  ·rw [if_pos c11] at H
   have c11b0 : (t483 == true) = true := c11
   (try (have c11b1 : decide (t483 = true) = true := by simpa using c11))
   (try (have c11b2 : (t483 == true) = true := by simpa using c11))
   clear c11
   replace H := Option.bind_eq_some_iff.mp H
   obtain ⟨t484, A120, H⟩ := H
   replace H : (if (t484 == t482) = true then ((tapearchiveref34_In.f k l4 a5).bind fun t485 => (some (t485 == (!t482)))) else (some false)) = some r := H
   have A12 := Aside0.mk A120
   clear A120
   by_cases c13 : (t484 == t482) = true
   ·rw [if_pos c13] at H
    have c13b0 : (t484 == t482) = true := c13
    (try (have c13b1 : decide (t484 = t482) = true := by simpa using c13))
    (try (have c13b2 : (t484 == t482) = true := by simpa using c13))
    clear c13
    replace H := Option.bind_eq_some_iff.mp H
    obtain ⟨t485, A140, H⟩ := H
    replace H : (some (t485 == (!t482))) = some r := H
    have A14 := Aside0.mk A140
    clear A140
    obtain rfl := Option.some.inj H
    go_enter Try.func20, Try.ntmps20
    go_wp2_with (first | ((with_reducible refine gate_callee (f := 34) rfl ?_); refine goesL_ (some 17) rfl rfl Try.func34 (by kernel_rfl) rfl #[.slice A0 l0.length c0, .int .i64 a5] rfl zM ?_; (with_reducible refine (tapearchiveref34_In.calls k _ _ l0 a5 true _ ?side1 ?side2 A7.out).mono ?_); (case side1 => repeat (first | exact HR0.out | (with_reducible refine Kd.C_alloc ?_ _) | (with_reducible refine Kd.C_drewN ?_ _) | (with_reducible refine Kd.C_drew ?_))); (case side2 => exact HC0.out); rintro e w15 ⟨rfl, hb⟩; refine ⟨_, rfl, ?_⟩; have n0_ := Aside0.mk (below_step (zB HB) hb); clear HB; have HB := n0_; clear n0_; (try clear hb); (try clear hb2); (try clear hk); (try clear hi)) | ((with_reducible refine gate_callee (f := 34) rfl ?_); refine goesL_ (some 20) rfl rfl Try.func34 (by kernel_rfl) rfl #[.slice A1 l1.length c1, .int .i64 a5] rfl zM ?_; (with_reducible refine (tapearchiveref34_In.calls k _ _ l1 a5 t482 _ ?side1 ?side2 A8.out).mono ?_); (case side1 => exact zC (Kd.C_below HR1.out HB.out)); (case side2 => exact HC1.out); rintro e w16 ⟨rfl, hb⟩; refine ⟨_, rfl, ?_⟩; have n0_ := Aside0.mk (below_step (zB HB) hb); clear HB; have HB := n0_; clear n0_; (try clear hb); (try clear hb2); (try clear hk); (try clear hi)) | ((with_reducible refine gate_callee (f := 34) rfl ?_); refine goesL_ (some 23) rfl rfl Try.func34 (by kernel_rfl) rfl #[.slice A2 l2.length c2, .int .i64 a5] rfl zM ?_; (with_reducible refine (tapearchiveref34_In.calls k _ _ l2 a5 t483 _ ?side1 ?side2 A9.out).mono ?_); (case side1 => exact zC (Kd.C_below HR2.out HB.out)); (case side2 => exact HC2.out); rintro e w17 ⟨rfl, hb⟩; refine ⟨_, rfl, ?_⟩; have n0_ := Aside0.mk (below_step (zB HB) hb); clear HB; have HB := n0_; clear n0_; (try clear hb); (try clear hb2); (try clear hk); (try clear hi)) | (go_at_call 34; (with_reducible refine (tapearchiveref34_In.calls k _ _ l3 a5 t484 _ ?side1 ?side2 A12.out).mono ?_); (case side1 => exact zC (Kd.C_below HR3.out HB.out)); (case side2 => exact HC3.out); rintro e w18 ⟨rfl, hb⟩; have n0_ := Aside0.mk (below_step (zB HB) hb); clear HB; have HB := n0_; clear n0_; (try clear hb); (try clear hb2); (try clear hk); (try clear hi)) | (go_at_call 34; (with_reducible refine (tapearchiveref34_In.calls k _ _ l4 a5 t485 _ ?side1 ?side2 A14.out).mono ?_); (case side1 => exact zC (Kd.C_below HR4.out HB.out)); (case side2 => exact HC4.out); rintro e w19 ⟨rfl, hb⟩; have n0_ := Aside0.mk (below_step (zB HB) hb); clear HB; have HB := n0_; clear n0_; (try clear hb); (try clear hb2); (try clear hk); (try clear hi)))
    go_ret
    exact ⟨by first | rfl | (simp [errW_none, errW_some] <;> rfl) | (simp [*, errW_none, errW_some] <;> rfl), by repeat (first | (with_reducible first | exact HB.out | apply below_alloc | apply pw_below_drewN | apply below_drew1) | exact HB.out)⟩
   ·rw [if_neg c13] at H
    have c13b0 : (t484 == t482) = false := by simpa using c13
    (try (have c13b1 : decide (t484 = t482) = false := by simpa using c13))
    (try (have c13b2 : (t484 == t482) = false := by simpa using c13))
    (try (have c13b3 : ¬ (t484 = t482) := by simpa using c13))
    clear c13
    obtain rfl := Option.some.inj H
    go_enter Try.func20, Try.ntmps20
    go_wp2_with (first | ((with_reducible refine gate_callee (f := 34) rfl ?_); refine goesL_ (some 17) rfl rfl Try.func34 (by kernel_rfl) rfl #[.slice A0 l0.length c0, .int .i64 a5] rfl zM ?_; (with_reducible refine (tapearchiveref34_In.calls k _ _ l0 a5 true _ ?side1 ?side2 A7.out).mono ?_); (case side1 => repeat (first | exact HR0.out | (with_reducible refine Kd.C_alloc ?_ _) | (with_reducible refine Kd.C_drewN ?_ _) | (with_reducible refine Kd.C_drew ?_))); (case side2 => exact HC0.out); rintro e w20 ⟨rfl, hb⟩; refine ⟨_, rfl, ?_⟩; have n0_ := Aside0.mk (below_step (zB HB) hb); clear HB; have HB := n0_; clear n0_; (try clear hb); (try clear hb2); (try clear hk); (try clear hi)) | ((with_reducible refine gate_callee (f := 34) rfl ?_); refine goesL_ (some 20) rfl rfl Try.func34 (by kernel_rfl) rfl #[.slice A1 l1.length c1, .int .i64 a5] rfl zM ?_; (with_reducible refine (tapearchiveref34_In.calls k _ _ l1 a5 t482 _ ?side1 ?side2 A8.out).mono ?_); (case side1 => exact zC (Kd.C_below HR1.out HB.out)); (case side2 => exact HC1.out); rintro e w21 ⟨rfl, hb⟩; refine ⟨_, rfl, ?_⟩; have n0_ := Aside0.mk (below_step (zB HB) hb); clear HB; have HB := n0_; clear n0_; (try clear hb); (try clear hb2); (try clear hk); (try clear hi)) | ((with_reducible refine gate_callee (f := 34) rfl ?_); refine goesL_ (some 23) rfl rfl Try.func34 (by kernel_rfl) rfl #[.slice A2 l2.length c2, .int .i64 a5] rfl zM ?_; (with_reducible refine (tapearchiveref34_In.calls k _ _ l2 a5 t483 _ ?side1 ?side2 A9.out).mono ?_); (case side1 => exact zC (Kd.C_below HR2.out HB.out)); (case side2 => exact HC2.out); rintro e w22 ⟨rfl, hb⟩; refine ⟨_, rfl, ?_⟩; have n0_ := Aside0.mk (below_step (zB HB) hb); clear HB; have HB := n0_; clear n0_; (try clear hb); (try clear hb2); (try clear hk); (try clear hi)) | (go_at_call 34; (with_reducible refine (tapearchiveref34_In.calls k _ _ l3 a5 t484 _ ?side1 ?side2 A12.out).mono ?_); (case side1 => exact zC (Kd.C_below HR3.out HB.out)); (case side2 => exact HC3.out); rintro e w23 ⟨rfl, hb⟩; have n0_ := Aside0.mk (below_step (zB HB) hb); clear HB; have HB := n0_; clear n0_; (try clear hb); (try clear hb2); (try clear hk); (try clear hi)))
    go_ret
    exact ⟨by first | rfl | (simp [errW_none, errW_some] <;> rfl) | (simp [*, errW_none, errW_some] <;> rfl), by repeat (first | (with_reducible first | exact HB.out | apply below_alloc | apply pw_below_drewN | apply below_drew1) | exact HB.out)⟩
  ·rw [if_neg c11] at H
   have c11b0 : (t483 == true) = false := by simpa using c11
   (try (have c11b1 : decide (t483 = true) = false := by simpa using c11))
   (try (have c11b2 : (t483 == true) = false := by simpa using c11))
   (try (have c11b3 : ¬ (t483 = true) := by simpa using c11))
   clear c11
   obtain rfl := Option.some.inj H
   go_enter Try.func20, Try.ntmps20
   go_wp2_with (first | ((with_reducible refine gate_callee (f := 34) rfl ?_); refine goesL_ (some 17) rfl rfl Try.func34 (by kernel_rfl) rfl #[.slice A0 l0.length c0, .int .i64 a5] rfl zM ?_; (with_reducible refine (tapearchiveref34_In.calls k _ _ l0 a5 true _ ?side1 ?side2 A7.out).mono ?_); (case side1 => repeat (first | exact HR0.out | (with_reducible refine Kd.C_alloc ?_ _) | (with_reducible refine Kd.C_drewN ?_ _) | (with_reducible refine Kd.C_drew ?_))); (case side2 => exact HC0.out); rintro e w24 ⟨rfl, hb⟩; refine ⟨_, rfl, ?_⟩; have n0_ := Aside0.mk (below_step (zB HB) hb); clear HB; have HB := n0_; clear n0_; (try clear hb); (try clear hb2); (try clear hk); (try clear hi)) | ((with_reducible refine gate_callee (f := 34) rfl ?_); refine goesL_ (some 20) rfl rfl Try.func34 (by kernel_rfl) rfl #[.slice A1 l1.length c1, .int .i64 a5] rfl zM ?_; (with_reducible refine (tapearchiveref34_In.calls k _ _ l1 a5 t482 _ ?side1 ?side2 A8.out).mono ?_); (case side1 => exact zC (Kd.C_below HR1.out HB.out)); (case side2 => exact HC1.out); rintro e w25 ⟨rfl, hb⟩; refine ⟨_, rfl, ?_⟩; have n0_ := Aside0.mk (below_step (zB HB) hb); clear HB; have HB := n0_; clear n0_; (try clear hb); (try clear hb2); (try clear hk); (try clear hi)) | ((with_reducible refine gate_callee (f := 34) rfl ?_); refine goesL_ (some 23) rfl rfl Try.func34 (by kernel_rfl) rfl #[.slice A2 l2.length c2, .int .i64 a5] rfl zM ?_; (with_reducible refine (tapearchiveref34_In.calls k _ _ l2 a5 t483 _ ?side1 ?side2 A9.out).mono ?_); (case side1 => exact zC (Kd.C_below HR2.out HB.out)); (case side2 => exact HC2.out); rintro e w26 ⟨rfl, hb⟩; refine ⟨_, rfl, ?_⟩; have n0_ := Aside0.mk (below_step (zB HB) hb); clear HB; have HB := n0_; clear n0_; (try clear hb); (try clear hb2); (try clear hk); (try clear hi)))
   go_ret
   exact ⟨by first | rfl | (simp [errW_none, errW_some] <;> rfl) | (simp [*, errW_none, errW_some] <;> rfl), by repeat (first | (with_reducible first | exact HB.out | apply below_alloc | apply pw_below_drewN | apply below_drew1) | exact HB.out)⟩
 ·replace c10 := Bool.eq_false_iff.mpr c10
  subst c10
  have H1 : (if (t483 == t482) = true then ((tapearchiveref34_In.f k l3 a5).bind fun t486 => (if (t486 == false) = true then ((tapearchiveref34_In.f k l4 a5).bind fun t487 => (some (t487 == false))) else (some false))) else (some false)) = some r := by rw [if_neg (show ¬ (false = true) by decide)] at H; exact H
  clear H
  have H := H1
  clear H1
  by_cases c27 : (t483 == t482) = true
  ·rw [if_pos c27] at H
   have c27b0 : (t483 == t482) = true := c27
   (try (have c27b1 : decide (t483 = t482) = true := by simpa using c27))
   (try (have c27b2 : (t483 == t482) = true := by simpa using c27))
   clear c27
   replace H := Option.bind_eq_some_iff.mp H
   obtain ⟨t486, A280, H⟩ := H
   replace H : (if (t486 == false) = true then ((tapearchiveref34_In.f k l4 a5).bind fun t487 => (some (t487 == false))) else (some false)) = some r := H
   have A28 := Aside0.mk A280
   clear A280
   by_cases c29 : (t486 == false) = true
   ·rw [if_pos c29] at H
    have c29b0 : (t486 == false) = true := c29
    (try (have c29b1 : decide (t486 = false) = true := by simpa using c29))
    (try (have c29b2 : (t486 == false) = true := by simpa using c29))
    clear c29
    replace H := Option.bind_eq_some_iff.mp H
    obtain ⟨t487, A300, H⟩ := H
    replace H : (some (t487 == false)) = some r := H
    have A30 := Aside0.mk A300
    clear A300
    obtain rfl := Option.some.inj H
    go_enter Try.func20, Try.ntmps20
    go_wp2_with (first | ((with_reducible refine gate_callee (f := 34) rfl ?_); refine goesL_ (some 17) rfl rfl Try.func34 (by kernel_rfl) rfl #[.slice A0 l0.length c0, .int .i64 a5] rfl zM ?_; (with_reducible refine (tapearchiveref34_In.calls k _ _ l0 a5 false _ ?side1 ?side2 A7.out).mono ?_); (case side1 => repeat (first | exact HR0.out | (with_reducible refine Kd.C_alloc ?_ _) | (with_reducible refine Kd.C_drewN ?_ _) | (with_reducible refine Kd.C_drew ?_))); (case side2 => exact HC0.out); rintro e w31 ⟨rfl, hb⟩; refine ⟨_, rfl, ?_⟩; have n0_ := Aside0.mk (below_step (zB HB) hb); clear HB; have HB := n0_; clear n0_; (try clear hb); (try clear hb2); (try clear hk); (try clear hi)) | ((with_reducible refine gate_callee (f := 34) rfl ?_); refine goesL_ (some 20) rfl rfl Try.func34 (by kernel_rfl) rfl #[.slice A1 l1.length c1, .int .i64 a5] rfl zM ?_; (with_reducible refine (tapearchiveref34_In.calls k _ _ l1 a5 t482 _ ?side1 ?side2 A8.out).mono ?_); (case side1 => exact zC (Kd.C_below HR1.out HB.out)); (case side2 => exact HC1.out); rintro e w32 ⟨rfl, hb⟩; refine ⟨_, rfl, ?_⟩; have n0_ := Aside0.mk (below_step (zB HB) hb); clear HB; have HB := n0_; clear n0_; (try clear hb); (try clear hb2); (try clear hk); (try clear hi)) | ((with_reducible refine gate_callee (f := 34) rfl ?_); refine goesL_ (some 23) rfl rfl Try.func34 (by kernel_rfl) rfl #[.slice A2 l2.length c2, .int .i64 a5] rfl zM ?_; (with_reducible refine (tapearchiveref34_In.calls k _ _ l2 a5 t483 _ ?side1 ?side2 A9.out).mono ?_); (case side1 => exact zC (Kd.C_below HR2.out HB.out)); (case side2 => exact HC2.out); rintro e w33 ⟨rfl, hb⟩; refine ⟨_, rfl, ?_⟩; have n0_ := Aside0.mk (below_step (zB HB) hb); clear HB; have HB := n0_; clear n0_; (try clear hb); (try clear hb2); (try clear hk); (try clear hi)) | (go_at_call 34; (with_reducible refine (tapearchiveref34_In.calls k _ _ l3 a5 t486 _ ?side1 ?side2 A28.out).mono ?_); (case side1 => exact zC (Kd.C_below HR3.out HB.out)); (case side2 => exact HC3.out); rintro e w34 ⟨rfl, hb⟩; have n0_ := Aside0.mk (below_step (zB HB) hb); clear HB; have HB := n0_; clear n0_; (try clear hb); (try clear hb2); (try clear hk); (try clear hi)) | (go_at_call 34; (with_reducible refine (tapearchiveref34_In.calls k _ _ l4 a5 t487 _ ?side1 ?side2 A30.out).mono ?_); (case side1 => exact zC (Kd.C_below HR4.out HB.out)); (case side2 => exact HC4.out); rintro e w35 ⟨rfl, hb⟩; have n0_ := Aside0.mk (below_step (zB HB) hb); clear HB; have HB := n0_; clear n0_; (try clear hb); (try clear hb2); (try clear hk); (try clear hi)))
    go_ret
    exact ⟨by first | rfl | (simp [errW_none, errW_some] <;> rfl) | (simp [*, errW_none, errW_some] <;> rfl), by repeat (first | (with_reducible first | exact HB.out | apply below_alloc | apply pw_below_drewN | apply below_drew1) | exact HB.out)⟩
   ·rw [if_neg c29] at H
    have c29b0 : (t486 == false) = false := by simpa using c29
    (try (have c29b1 : decide (t486 = false) = false := by simpa using c29))
    (try (have c29b2 : (t486 == false) = false := by simpa using c29))
    (try (have c29b3 : ¬ (t486 = false) := by simpa using c29))
    clear c29
    obtain rfl := Option.some.inj H
    go_enter Try.func20, Try.ntmps20
    go_wp2_with (first | ((with_reducible refine gate_callee (f := 34) rfl ?_); refine goesL_ (some 17) rfl rfl Try.func34 (by kernel_rfl) rfl #[.slice A0 l0.length c0, .int .i64 a5] rfl zM ?_; (with_reducible refine (tapearchiveref34_In.calls k _ _ l0 a5 false _ ?side1 ?side2 A7.out).mono ?_); (case side1 => repeat (first | exact HR0.out | (with_reducible refine Kd.C_alloc ?_ _) | (with_reducible refine Kd.C_drewN ?_ _) | (with_reducible refine Kd.C_drew ?_))); (case side2 => exact HC0.out); rintro e w36 ⟨rfl, hb⟩; refine ⟨_, rfl, ?_⟩; have n0_ := Aside0.mk (below_step (zB HB) hb); clear HB; have HB := n0_; clear n0_; (try clear hb); (try clear hb2); (try clear hk); (try clear hi)) | ((with_reducible refine gate_callee (f := 34) rfl ?_); refine goesL_ (some 20) rfl rfl Try.func34 (by kernel_rfl) rfl #[.slice A1 l1.length c1, .int .i64 a5] rfl zM ?_; (with_reducible refine (tapearchiveref34_In.calls k _ _ l1 a5 t482 _ ?side1 ?side2 A8.out).mono ?_); (case side1 => exact zC (Kd.C_below HR1.out HB.out)); (case side2 => exact HC1.out); rintro e w37 ⟨rfl, hb⟩; refine ⟨_, rfl, ?_⟩; have n0_ := Aside0.mk (below_step (zB HB) hb); clear HB; have HB := n0_; clear n0_; (try clear hb); (try clear hb2); (try clear hk); (try clear hi)) | ((with_reducible refine gate_callee (f := 34) rfl ?_); refine goesL_ (some 23) rfl rfl Try.func34 (by kernel_rfl) rfl #[.slice A2 l2.length c2, .int .i64 a5] rfl zM ?_; (with_reducible refine (tapearchiveref34_In.calls k _ _ l2 a5 t483 _ ?side1 ?side2 A9.out).mono ?_); (case side1 => exact zC (Kd.C_below HR2.out HB.out)); (case side2 => exact HC2.out); rintro e w38 ⟨rfl, hb⟩; refine ⟨_, rfl, ?_⟩; have n0_ := Aside0.mk (below_step (zB HB) hb); clear HB; have HB := n0_; clear n0_; (try clear hb); (try clear hb2); (try clear hk); (try clear hi)) | (go_at_call 34; (with_reducible refine (tapearchiveref34_In.calls k _ _ l3 a5 t486 _ ?side1 ?side2 A28.out).mono ?_); (case side1 => exact zC (Kd.C_below HR3.out HB.out)); (case side2 => exact HC3.out); rintro e w39 ⟨rfl, hb⟩; have n0_ := Aside0.mk (below_step (zB HB) hb); clear HB; have HB := n0_; clear n0_; (try clear hb); (try clear hb2); (try clear hk); (try clear hi)))
    go_ret
    exact ⟨by first | rfl | (simp [errW_none, errW_some] <;> rfl) | (simp [*, errW_none, errW_some] <;> rfl), by repeat (first | (with_reducible first | exact HB.out | apply below_alloc | apply pw_below_drewN | apply below_drew1) | exact HB.out)⟩
  ·rw [if_neg c27] at H
   have c27b0 : (t483 == t482) = false := by simpa using c27
   (try (have c27b1 : decide (t483 = t482) = false := by simpa using c27))
   (try (have c27b2 : (t483 == t482) = false := by simpa using c27))
   (try (have c27b3 : ¬ (t483 = t482) := by simpa using c27))
   clear c27
   obtain rfl := Option.some.inj H
   go_enter Try.func20, Try.ntmps20
   go_wp2_with (first | ((with_reducible refine gate_callee (f := 34) rfl ?_); refine goesL_ (some 17) rfl rfl Try.func34 (by kernel_rfl) rfl #[.slice A0 l0.length c0, .int .i64 a5] rfl zM ?_; (with_reducible refine (tapearchiveref34_In.calls k _ _ l0 a5 false _ ?side1 ?side2 A7.out).mono ?_); (case side1 => repeat (first | exact HR0.out | (with_reducible refine Kd.C_alloc ?_ _) | (with_reducible refine Kd.C_drewN ?_ _) | (with_reducible refine Kd.C_drew ?_))); (case side2 => exact HC0.out); rintro e w40 ⟨rfl, hb⟩; refine ⟨_, rfl, ?_⟩; have n0_ := Aside0.mk (below_step (zB HB) hb); clear HB; have HB := n0_; clear n0_; (try clear hb); (try clear hb2); (try clear hk); (try clear hi)) | ((with_reducible refine gate_callee (f := 34) rfl ?_); refine goesL_ (some 20) rfl rfl Try.func34 (by kernel_rfl) rfl #[.slice A1 l1.length c1, .int .i64 a5] rfl zM ?_; (with_reducible refine (tapearchiveref34_In.calls k _ _ l1 a5 t482 _ ?side1 ?side2 A8.out).mono ?_); (case side1 => exact zC (Kd.C_below HR1.out HB.out)); (case side2 => exact HC1.out); rintro e w41 ⟨rfl, hb⟩; refine ⟨_, rfl, ?_⟩; have n0_ := Aside0.mk (below_step (zB HB) hb); clear HB; have HB := n0_; clear n0_; (try clear hb); (try clear hb2); (try clear hk); (try clear hi)) | ((with_reducible refine gate_callee (f := 34) rfl ?_); refine goesL_ (some 23) rfl rfl Try.func34 (by kernel_rfl) rfl #[.slice A2 l2.length c2, .int .i64 a5] rfl zM ?_; (with_reducible refine (tapearchiveref34_In.calls k _ _ l2 a5 t483 _ ?side1 ?side2 A9.out).mono ?_); (case side1 => exact zC (Kd.C_below HR2.out HB.out)); (case side2 => exact HC2.out); rintro e w42 ⟨rfl, hb⟩; refine ⟨_, rfl, ?_⟩; have n0_ := Aside0.mk (below_step (zB HB) hb); clear HB; have HB := n0_; clear n0_; (try clear hb); (try clear hb2); (try clear hk); (try clear hi)))
   go_ret
   exact ⟨by first | rfl | (simp [errW_none, errW_some] <;> rfl) | (simp [*, errW_none, errW_some] <;> rfl), by repeat (first | (with_reducible first | exact HB.out | apply below_alloc | apply pw_below_drewN | apply below_drew1) | exact HB.out)⟩

end
end Go.Proofs.Ytcckacamocaofaa.P
