-- Written by this session's wip/tools/px.py out of the translation. Lean checks it.
import Derived.Test.YtapbmkcncjkanaaP0
namespace Go.Proofs.Ytapbmkcncjkanaa.P
noncomputable section
open Go.RowKit Go.Proofs.YtapbmkcncjkanaaW.PrintWords Go.Proofs.YtapbmkcncjkanaaW.PrintLast Go.Proofs.YtapbmkcncjkanaaW.PrintMore
attribute [local go_sem] max2_int min2_int max_two min_two max_three min_three max_four min_four   -- for this text's walks alone
set_option linter.unusedVariables false
set_option linter.unusedSimpArgs false

/-! ### r34_insert_new: function 50 -/
mutual
def r34_insert_new.l0 : Nat → List Int → Int → Int → Option (List Int)
 | 0, _, _, _ => none
 | k + 1, x0, x1, x5 => if x5 < (x0.length : Int) then (if 0 ≤ x5 then (r34_insert_new.j1 k x0 x1 x5 (decide ((rd x0 x5) < x1))) else (none)) else (r34_insert_new.j1 k x0 x1 x5 false)
def r34_insert_new.j1 : Nat → List Int → Int → Int → Bool → Option (List Int)
 | 0, _, _, _, _ => none
 | k + 1, x0, x1, x5, x17 => if x17 = true then (r34_insert_new.l0 k x0 x1 (wrap64 (x5 + 1))) else (if x5 < (x0.length : Int) then (if 0 ≤ x5 then (r34_insert_new.j2 k x0 x1 x5 ((rd x0 x5) == x1)) else (none)) else (r34_insert_new.j2 k x0 x1 x5 false))
def r34_insert_new.j2 : Nat → List Int → Int → Int → Bool → Option (List Int)
 | 0, _, _, _, _ => none
 | k + 1, x0, x1, x5, x31 => if x31 = true then (none) else ((some (([] : List Int) : List Int)).bind fun y333 => (if 0 ≤ x5 then (if x5 ≤ (x0.length : Int) then (if y333.length + (x0.take (x5 : Int).toNat).length < 17592186044416 then ((some (y333 ++ (x0.take (x5 : Int).toNat) : List Int)).bind fun y337 => ((some (([x1] : List Int) : List Int)).bind fun y340 => (if y337.length + y340.length < 17592186044416 then ((some (y337 ++ y340 : List Int)).bind fun y343 => (if y343.length + (x0.drop (x5 : Int).toNat).length < 17592186044416 then (some (y343 ++ (x0.drop (x5 : Int).toNat))) else (none))) else (none)))) else (none)) else (none)) else (none)))
end
def r34_insert_new.f (k : Nat) (l0 : List Int) (a1 : Int) : Option (List Int) := r34_insert_new.l0 k l0 a1 0
theorem r34_insert_new.mono_l : ∀ k, (∀ y0 y1 y2, LeO (r34_insert_new.l0 k y0 y1 y2) (r34_insert_new.l0 (k + 1) y0 y1 y2)) ∧ (∀ y0 y1 y2 y3, LeO (r34_insert_new.j1 k y0 y1 y2 y3) (r34_insert_new.j1 (k + 1) y0 y1 y2 y3)) ∧ (∀ y0 y1 y2 y3, LeO (r34_insert_new.j2 k y0 y1 y2 y3) (r34_insert_new.j2 (k + 1) y0 y1 y2 y3))
 | 0 => ⟨fun _ _ _ r h => by simp [r34_insert_new.l0] at h, fun _ _ _ _ r h => by simp [r34_insert_new.j1] at h, fun _ _ _ _ r h => by simp [r34_insert_new.j2] at h⟩
 | k + 1 => by
  obtain ⟨ih0, ih1, ih2⟩ := r34_insert_new.mono_l k
  refine ⟨?_, ?_, ?_⟩
  ·intro y0 y1 y2
   unfold r34_insert_new.l0
   repeat' first
   | (with_reducible exact ih0 _ _ _)
   | (with_reducible exact ih1 _ _ _ _)
   | (with_reducible exact ih2 _ _ _ _)
   | (with_reducible exact LeO.refl _)
   | (with_reducible exact LeO.none _)
   | (with_reducible refine LeO.ite ?_ ?_)
   | (with_reducible refine LeO.bind ?_ (fun _ => ?_))
   | exact ih0 _ _ _
   | exact ih1 _ _ _ _
   | exact ih2 _ _ _ _
   | exact LeO.none _
   | refine LeO.ite ?_ ?_
   | refine LeO.bind ?_ (fun _ => ?_)
  ·intro y0 y1 y2 y3
   unfold r34_insert_new.j1
   repeat' first
   | (with_reducible exact ih0 _ _ _)
   | (with_reducible exact ih1 _ _ _ _)
   | (with_reducible exact ih2 _ _ _ _)
   | (with_reducible exact LeO.refl _)
   | (with_reducible exact LeO.none _)
   | (with_reducible refine LeO.ite ?_ ?_)
   | (with_reducible refine LeO.bind ?_ (fun _ => ?_))
   | exact ih0 _ _ _
   | exact ih1 _ _ _ _
   | exact ih2 _ _ _ _
   | exact LeO.none _
   | refine LeO.ite ?_ ?_
   | refine LeO.bind ?_ (fun _ => ?_)
  ·intro y0 y1 y2 y3
   unfold r34_insert_new.j2
   repeat' first
   | (with_reducible exact ih0 _ _ _)
   | (with_reducible exact ih1 _ _ _ _)
   | (with_reducible exact ih2 _ _ _ _)
   | (with_reducible exact LeO.refl _)
   | (with_reducible exact LeO.none _)
   | (with_reducible refine LeO.ite ?_ ?_)
   | (with_reducible refine LeO.bind ?_ (fun _ => ?_))
   | exact ih0 _ _ _
   | exact ih1 _ _ _ _
   | exact ih2 _ _ _ _
   | exact LeO.none _
   | refine LeO.ite ?_ ?_
   | refine LeO.bind ?_ (fun _ => ?_)
theorem r34_insert_new.mono : ∀ a0 a1 k, LeO (r34_insert_new.f k a0 a1) (r34_insert_new.f (k + 1) a0 a1) := by
 intro a0 a1 k
 obtain ⟨ih0, ih1, ih2⟩ := r34_insert_new.mono_l k
 unfold r34_insert_new.f
 repeat' first
   | (with_reducible exact ih0 _ _ _)
   | (with_reducible exact ih1 _ _ _ _)
   | (with_reducible exact ih2 _ _ _ _)
   | (with_reducible exact LeO.refl _)
   | (with_reducible exact LeO.none _)
   | (with_reducible refine LeO.ite ?_ ?_)
   | (with_reducible refine LeO.bind ?_ (fun _ => ?_))
   | exact ih0 _ _ _
   | exact ih1 _ _ _ _
   | exact ih2 _ _ _ _
   | exact LeO.none _
   | refine LeO.ite ?_ ?_
   | refine LeO.bind ?_ (fun _ => ?_)
def r34_insert_new.T6 : Bool × List (List Nat × List Nat) := (true, [([], []), ([], []), ([], []), ([1, 2], [1, 2]), ([0, 3], [0, 3]), ([], []), ([5], [5]), ([4, 6, 4], [4, 6]), ([], []), ([], []), ([8, 9], [8, 9]), ([7, 10, 7], [7, 10]), ([11, 11, 0, 1, 2, 3, 4, 5, 6, 7, 8, 9, 10, 11], [11])])
def r34_insert_new.B6 : List Nat := [0, 0, 0, 6, 15, 0, 32, 127, 0, 0, 768, 2047, 4095]
theorem r34_insert_new.tab6 : rtab .any (opsOf Try.f50 6) = r34_insert_new.T6 := by kernel_rfl
theorem r34_insert_new.bits6 : waitsOk r34_insert_new.T6.2 r34_insert_new.B6 = true := by kernel_rfl
set_option maxHeartbeats 8000000 in
set_option maxRecDepth 100000 in
theorem r34_insert_new.calls (k : Nat) (A0 : Option Addr) (c0 : Nat) (l0 : List Int) (a1 : Int) (r : List Int) (w : World) (hr0 : Kd.C (Kd.int .i64) w A0 l0.length l0) (hc0 : l0.length ≤ c0) (h : r34_insert_new.f k l0 a1 = some r) :
  Calls Try.prog 50 #[.slice A0 l0.length c0, .int .i64 a1] w fun e w' => ∃ v0_ : Value, e = .returned (v0_) ∧ Kd.R (Kd.int .i64) 3 w' w.heap.size (fun _ => True) v0_ r ∧ Below w.heap.size w w' := by
 have HR0 := am hr0
 have HC0 := am hc0
 clear hr0 hc0
 have HB := am (Below.refl w.heap.size w)
 have H : (r34_insert_new.l0 k l0 a1 0) = some r := h
 clear h
 have H' := am H
 clear H
 go_enter Try.func50, Try.ntmps50
 go_wp2
 go_loopg [5] k (fun kq v5 w' => ∃ (x5_1 : Int), v5 = .int .i64 x5_1 ∧ Aside0 (r34_insert_new.l0 kq l0 a1 x5_1 = some r) ∧ Aside0 (kq ≤ k) ∧ Aside0 (Below w.heap.size w w'))
 case atStart => exact ⟨(0), zS, H', ⟨Nat.le_refl _⟩, ⟨zB HB⟩⟩
 case round =>
  clear H'
  try clear p2
  obtain ⟨x5_1, rfl, HA, HK1, HB⟩ := hrel
  cases gk with
  | zero => exact absurd HA.out (by simp [r34_insert_new.l0])
  | succ k1 =>
   have H := HA.out
   clear HA
   simp only [r34_insert_new.l0] at H
   have HC3 := am H
   clear H
   go_upto_region 2 with (fail)
   go_cut [17] (fun v17 wc => ∃ (kq : Nat) (x17_2 : Bool), v17 = .bool x17_2 ∧ Aside0 (r34_insert_new.j1 kq l0 a1 x5_1 x17_2 = some r) ∧ Aside0 (kq ≤ k1) ∧ Aside0 (Below w.heap.size w wc))
   case first =>
    have H := HC3.out
    clear HC3
    by_cases c4 : x5_1 < (l0.length : Int)
    ·rw [if_pos c4] at H
     have c4b0 : decide (x5_1 < (l0.length : Int)) = true := decide_eq_true c4
     clear c4
     (first | rw [c4b0] | (simp only [i64_w, i32_w]; rw [c4b0]) | skip)
     by_cases c5 : 0 ≤ x5_1
     ·rw [if_pos c5] at H
      have c5b0 : decide (0 ≤ x5_1) = true := decide_eq_true c5
      clear c5
      have H' := am H
      clear H
      have p331 : 0 ≤ (x5_1 : Int) := of_decide_eq_true zA
      have q331 : x5_1 < (l0.length : Int) := of_decide_eq_true zA
      obtain ⟨ad331, e331, hx331_0⟩ := Kd.at_int HR0.out x5_1 p331 q331
      cases e331
      replace hx331_0 := (HB.out.cell (World.block_lt_of_cell? w _ hx331_0)).trans hx331_0
      replace p331 := eq_true p331
      replace q331 := eq_true q331
      go_wp2
      go_meet
      case rel => exact ⟨_, (decide ((rd l0 x5_1) < a1)), zS, H', ⟨by have := HK1.out; first | omega | exact Nat.le_refl _⟩, ⟨zB HB⟩⟩
     ·rw [if_neg c5] at H
      exact absurd H (by simp)
    ·rw [if_neg c4] at H
     have c4b0 : decide (x5_1 < (l0.length : Int)) = false := decide_eq_false c4
     clear c4
     (first | rw [c4b0] | (simp only [i64_w, i32_w]; rw [c4b0]) | skip)
     have H' := am H
     clear H
     go_wp2
     go_meet
     case rel => exact ⟨_, (false), zS, H', ⟨by have := HK1.out; first | omega | exact Nat.le_refl _⟩, ⟨zB HB⟩⟩
   case rest =>
    clear HC3
    try clear p2
    try clear p3
    try clear q3
    try clear hx3
    try clear c4
    try clear c4b0
    try clear c5
    try clear c5b0
    try clear hx331_0
    try clear p2
    try clear p331
    try clear q331
    obtain ⟨kq, x17_2, rfl, HA, HJ2, HB⟩ := hcut
    cases kq with
    | zero => exact absurd HA.out (by simp [r34_insert_new.j1])
    | succ kj2 =>
     have H := HA.out
     clear HA
     simp only [r34_insert_new.j1] at H
     by_cases c6 : x17_2 = true
     ·subst c6
      have H1 : (r34_insert_new.l0 kj2 l0 a1 (wrap64 (x5_1 + 1))) = some r := by rw [if_pos rfl] at H; exact H
      clear H
      have H := H1
      clear H1
      have H' := am H
      clear H
      go_wp2
      go_roundg kj2
      case measure => have := HK1.out; have := HJ2.out; omega
      case rel => exact ⟨(wrap64 (x5_1 + 1)), zS, H', ⟨by have := HK1.out; have := HJ2.out; omega⟩, ⟨zB HB⟩⟩
     ·replace c6 := Bool.eq_false_iff.mpr c6
      subst c6
      have H1 : (if x5_1 < (l0.length : Int) then (if 0 ≤ x5_1 then (r34_insert_new.j2 kj2 l0 a1 x5_1 ((rd l0 x5_1) == a1)) else (none)) else (r34_insert_new.j2 kj2 l0 a1 x5_1 false)) = some r := by rw [if_neg (show ¬ (false = true) by decide)] at H; exact H
      clear H
      have H := H1
      clear H1
      have HC7 := am H
      clear H
      go_upto_region 4 with (fail)
      go_cut [31] (fun v31 wc => ∃ (kq : Nat) (x31_6 : Bool), v31 = .bool x31_6 ∧ Aside0 (r34_insert_new.j2 kq l0 a1 x5_1 x31_6 = some r) ∧ Aside0 (kq ≤ kj2) ∧ Aside0 (Below w.heap.size w wc))
      case first =>
       have H := HC7.out
       clear HC7
       by_cases c8 : x5_1 < (l0.length : Int)
       ·rw [if_pos c8] at H
        have c8b0 : decide (x5_1 < (l0.length : Int)) = true := decide_eq_true c8
        clear c8
        (first | rw [c8b0] | (simp only [i64_w, i32_w]; rw [c8b0]) | skip)
        by_cases c9 : 0 ≤ x5_1
        ·rw [if_pos c9] at H
         have c9b0 : decide (0 ≤ x5_1) = true := decide_eq_true c9
         clear c9
         have H' := am H
         clear H
         have p332 : 0 ≤ (x5_1 : Int) := of_decide_eq_true zA
         have q332 : x5_1 < (l0.length : Int) := of_decide_eq_true zA
         obtain ⟨ad332, e332, hx332_0⟩ := Kd.at_int HR0.out x5_1 p332 q332
         cases e332
         replace hx332_0 := (HB.out.cell (World.block_lt_of_cell? w _ hx332_0)).trans hx332_0
         replace p332 := eq_true p332
         replace q332 := eq_true q332
         go_wp2
         go_meet
         case rel => exact ⟨_, (((rd l0 x5_1) == a1)), zS, H', ⟨by have := HK1.out; have := HJ2.out; first | omega | exact Nat.le_refl _⟩, ⟨zB HB⟩⟩
        ·rw [if_neg c9] at H
         exact absurd H (by simp)
       ·rw [if_neg c8] at H
        have c8b0 : decide (x5_1 < (l0.length : Int)) = false := decide_eq_false c8
        clear c8
        (first | rw [c8b0] | (simp only [i64_w, i32_w]; rw [c8b0]) | skip)
        have H' := am H
        clear H
        go_wp2
        go_meet
        case rel => exact ⟨_, (false), zS, H', ⟨by have := HK1.out; have := HJ2.out; first | omega | exact Nat.le_refl _⟩, ⟨zB HB⟩⟩
      case rest =>
       clear HC7
       try clear p2
       try clear p3
       try clear q3
       try clear hx3
       try clear c4
       try clear c4b0
       try clear c5
       try clear c5b0
       try clear c6
       try clear p6
       try clear c8
       try clear c8b0
       try clear c9
       try clear c9b0
       try clear hx331_0
       try clear hx332_0
       try clear p2
       try clear p3
       try clear p331
       try clear p332
       try clear q3
       try clear q331
       try clear q332
       obtain ⟨kq, x31_6, rfl, HA, HJ6, HB⟩ := hcut
       cases kq with
       | zero => exact absurd HA.out (by simp [r34_insert_new.j2])
       | succ kj6 =>
        have H := HA.out
        clear HA
        simp only [r34_insert_new.j2] at H
        by_cases c10 : x31_6 = true
        ·subst c10
         have H1 : (none) = some r := by rw [if_pos rfl] at H; exact H
         clear H
         have H := H1
         clear H1
         exact absurd H (by simp)
        ·replace c10 := Bool.eq_false_iff.mpr c10
         subst c10
         have H1 : ((some (([] : List Int) : List Int)).bind fun y333 => (if 0 ≤ x5_1 then (if x5_1 ≤ (l0.length : Int) then (if y333.length + (l0.take (x5_1 : Int).toNat).length < 17592186044416 then ((some (y333 ++ (l0.take (x5_1 : Int).toNat) : List Int)).bind fun y337 => ((some (([a1] : List Int) : List Int)).bind fun y340 => (if y337.length + y340.length < 17592186044416 then ((some (y337 ++ y340 : List Int)).bind fun y343 => (if y343.length + (l0.drop (x5_1 : Int).toNat).length < 17592186044416 then (some (y343 ++ (l0.drop (x5_1 : Int).toNat))) else (none))) else (none)))) else (none)) else (none)) else (none))) = some r := by rw [if_neg (show ¬ (false = true) by decide)] at H; exact H
         clear H
         have H := H1
         clear H1
         obtain ⟨y333, hy333⟩ : ∃ y_ : List Int, y_ = (([] : List Int)) := ⟨_, rfl⟩
         replace H : (if 0 ≤ x5_1 then (if x5_1 ≤ (l0.length : Int) then (if y333.length + (l0.take (x5_1 : Int).toNat).length < 17592186044416 then ((some (y333 ++ (l0.take (x5_1 : Int).toNat) : List Int)).bind fun y337 => ((some (([a1] : List Int) : List Int)).bind fun y340 => (if y337.length + y340.length < 17592186044416 then ((some (y337 ++ y340 : List Int)).bind fun y343 => (if y343.length + (l0.drop (x5_1 : Int).toNat).length < 17592186044416 then (some (y343 ++ (l0.drop (x5_1 : Int).toNat))) else (none))) else (none)))) else (none)) else (none)) else (none)) = some r := by first | (rw [hy333]; with_reducible exact H) | (have H2_ := (Option.bind_some _ _).symm.trans H; rw [hy333]; with_reducible exact H2_) | (have H2_ := (Option.bind_some _ _).symm.trans H; with_reducible exact H2_) | with_reducible exact H | (rw [hy333]; exact H) | exact H
         have Ny333 := am hy333
         clear hy333
         by_cases c11 : 0 ≤ x5_1
         ·rw [if_pos c11] at H
          have c11b0 := eq_true c11
          have c11b1 : decide (0 ≤ x5_1) = true := decide_eq_true c11
          clear c11
          by_cases c12 : x5_1 ≤ (l0.length : Int)
          ·rw [if_pos c12] at H
           have c12b0 := eq_true c12
           have c12b1 : decide (x5_1 ≤ (l0.length : Int)) = true := decide_eq_true c12
           clear c12
           by_cases c13 : y333.length + (l0.take (x5_1 : Int).toNat).length < 17592186044416
           ·rw [if_pos c13] at H
            have LMc13 := am c13
            clear c13
            obtain ⟨y337, hy337⟩ : ∃ y_ : List Int, y_ = (y333 ++ (l0.take (x5_1 : Int).toNat)) := ⟨_, rfl⟩
            replace H : ((some (([a1] : List Int) : List Int)).bind fun y340 => (if y337.length + y340.length < 17592186044416 then ((some (y337 ++ y340 : List Int)).bind fun y343 => (if y343.length + (l0.drop (x5_1 : Int).toNat).length < 17592186044416 then (some (y343 ++ (l0.drop (x5_1 : Int).toNat))) else (none))) else (none))) = some r := by first | (rw [hy337]; with_reducible exact H) | (have H2_ := (Option.bind_some _ _).symm.trans H; rw [hy337]; with_reducible exact H2_) | (have H2_ := (Option.bind_some _ _).symm.trans H; with_reducible exact H2_) | with_reducible exact H | (rw [hy337]; exact H) | exact H
            have Ny337 := am hy337
            clear hy337
            obtain ⟨y340, hy340⟩ : ∃ y_ : List Int, y_ = (([a1] : List Int)) := ⟨_, rfl⟩
            replace H : (if y337.length + y340.length < 17592186044416 then ((some (y337 ++ y340 : List Int)).bind fun y343 => (if y343.length + (l0.drop (x5_1 : Int).toNat).length < 17592186044416 then (some (y343 ++ (l0.drop (x5_1 : Int).toNat))) else (none))) else (none)) = some r := by first | (rw [hy340]; with_reducible exact H) | (have H2_ := (Option.bind_some _ _).symm.trans H; rw [hy340]; with_reducible exact H2_) | (have H2_ := (Option.bind_some _ _).symm.trans H; with_reducible exact H2_) | with_reducible exact H | (rw [hy340]; exact H) | exact H
            have Ny340 := am hy340
            clear hy340
            by_cases c14 : y337.length + y340.length < 17592186044416
            ·rw [if_pos c14] at H
             have LMc14 := am c14
             clear c14
             obtain ⟨y343, hy343⟩ : ∃ y_ : List Int, y_ = (y337 ++ y340) := ⟨_, rfl⟩
             replace H : (if y343.length + (l0.drop (x5_1 : Int).toNat).length < 17592186044416 then (some (y343 ++ (l0.drop (x5_1 : Int).toNat))) else (none)) = some r := by first | (rw [hy343]; with_reducible exact H) | (have H2_ := (Option.bind_some _ _).symm.trans H; rw [hy343]; with_reducible exact H2_) | (have H2_ := (Option.bind_some _ _).symm.trans H; with_reducible exact H2_) | with_reducible exact H | (rw [hy343]; exact H) | exact H
             have Ny343 := am hy343
             clear hy343
             have c15b0 := eq_true (of_decide_eq_true zA : 0 ≤ x5_1)
             have c16b0 := eq_true (of_decide_eq_true zA : x5_1 ≤ (l0.length : Int))
             by_cases c17 : y343.length + (l0.drop (x5_1 : Int).toNat).length < 17592186044416
             ·rw [if_pos c17] at H
              have LMc17 := am c17
              clear c17
              obtain ⟨y347, hy347⟩ : ∃ y_ : List Int, y_ = (y343 ++ (l0.drop (x5_1 : Int).toNat)) := ⟨_, rfl⟩
              replace H : (some y347) = some r := by first | (rw [hy347]; with_reducible exact H) | (have H2_ := (Option.bind_some _ _).symm.trans H; rw [hy347]; with_reducible exact H2_) | (have H2_ := (Option.bind_some _ _).symm.trans H; with_reducible exact H2_) | with_reducible exact H | (rw [hy347]; exact H) | exact H
              have Ny347 := am hy347
              clear hy347
              obtain rfl := Option.some.inj H
              try go_wp2
              have n0_ := am (below_drew1 HB.out)
              clear HB
              have HB := n0_
              clear n0_
              obtain ⟨i019, hi019, _, hsz19, _⟩ := info_parts info3
              obtain ⟨hcut19, hA19, hC19⟩ := print_take_of (P := Try.prog) (Value.int .i64) 0 36 3 .i64 Try.underlying36 hi019 hsz19 A0 c0 l0 x5_1 (of_decide_eq_true zA) (of_decide_eq_true zA) HC0.out
              have HR336 := am (Kd.C_of_reads (h1 := fun _ => rfl) (hA19 _ (Kd.reads_of_C HR0.out)))
              have HC336 := am hC19
              clear hA19 hC19 hi019 hsz19
              obtain ⟨i020, hi020, _, hsz20, _⟩ := info_parts info3
              obtain ⟨A20, hcut20, hA20, hC20⟩ := print_drop_of (P := Try.prog) (Value.int .i64) 0 36 3 .i64 Try.underlying36 hi020 hsz20 A0 c0 l0 x5_1 (of_decide_eq_true zA) (of_decide_eq_true zA) HC0.out
              have HR346 := am (Kd.C_of_reads (h1 := fun _ => rfl) (hA20 _ (Kd.reads_of_C HR0.out)))
              have HC346 := am hC20
              clear hA20 hC20 hi020 hsz20
              refine start_ (n := 13) (S := fun w' => True) (ds := []) #[F,F,F,F,F,F,F,F,F,F,F,F,F] (by kernel_rfl) rfl rfl trivial (fun hHeld => ?_); refine with_tabW r34_insert_new.tab6 r34_insert_new.bits6 (fun HT_ HW_ => ?_)
              generalize wc.drew = w18 at HB HR336 HR346 hHeld ⊢
              refine pure_ (i := 1) (N := some 34) (v := ?_) (a' := ?_) #[F,T,F,F,F,F,F,F,F,F,F,F,F] rfl rfl (zO HT_) (fun _ _ _ h => h) (Or.inl ⟨by rfl, ?_⟩) ?_ ?_
              rotate_left
              ·intro w'
               go_simp
               with_reducible rfl
              rotate_left
              ·exact zP i64_w i32_w
              refine pure_ (i := 2) (N := some 35) (v := ?_) (a' := ?_) #[F,T,T,F,F,F,F,F,F,F,F,F,F] rfl rfl (zO HT_) (fun _ _ _ h => h) (Or.inl ⟨by rfl, ?_⟩) ?_ ?_
              rotate_left
              ·intro w'
               go_simp
               with_reducible rfl
              rotate_left
              ·exact zP i64_w i32_w
              refine pure_ (i := 3) (N := some 36) (v := ?_) (a' := ?_) #[F,T,T,T,F,F,F,F,F,F,F,F,F] rfl rfl (zO HT_) (fun _ _ _ h => h) (Or.inl ⟨by rfl, ?_⟩) ?_ ?_
              rotate_left
              ·intro w'
               go_simp
               with_reducible rfl
              rotate_left
              ·exact zP i64_w i32_w
              refine pure_ (i := 5) (N := some 38) (v := ?_) (a' := ?_) #[F,T,T,T,F,T,F,F,F,F,F,F,F] rfl rfl (zO HT_) (fun _ _ _ h => h) (Or.inl ⟨by rfl, ?_⟩) ?_ ?_
              rotate_left
              ·intro w'
               go_simp
               with_reducible rfl
              rotate_left
              ·exact zP i64_w i32_w
              refine pure_ (i := 8) (N := some 41) (v := ?_) (a' := ?_) #[F,T,T,T,F,T,F,F,T,F,F,F,F] rfl rfl (zO HT_) (fun _ _ _ h => h) (Or.inl ⟨by rfl, ?_⟩) ?_ ?_
              rotate_left
              ·intro w'
               go_simp
               with_reducible rfl
              rotate_left
              ·exact zP i64_w i32_w
              refine pure_ (i := 9) (N := some 42) (v := ?_) (a' := ?_) #[F,T,T,T,F,T,F,F,T,T,F,F,F] rfl rfl (zO HT_) (fun _ _ _ h => h) (Or.inl ⟨by rfl, ?_⟩) ?_ ?_
              rotate_left
              ·intro w'
               go_simp
               with_reducible rfl
              rotate_left
              ·exact zP i64_w i32_w
              refine pure_ (i := 10) (N := some 43) (v := ?_) (a' := ?_) #[F,T,T,T,F,T,F,F,T,T,T,F,F] rfl rfl (zO HT_) (fun _ _ _ h => h) (Or.inl ⟨by rfl, ?_⟩) ?_ ?_
              rotate_left
              ·intro w'
               go_simp
               with_reducible rfl
              rotate_left
              ·exact zP i64_w i32_w
              refine join_ (σ := Value × Value × Value) 3 #[T,T,T,T,T,T,T,F,T,T,T,F,F] (fun s_ => [(33, s_.1), (37, s_.2.1), (39, s_.2.2)]) (fun s_ w' => (Kd.R (Kd.int .i64) 3 w' w.heap.size (fun k_ => some k_ ≠ (s_.2.2 : Value).ownBlock) s_.2.1 y337) ∧ (Kd.R (Kd.int .i64) 3 w' w.heap.size (fun k_ => some k_ ≠ (s_.2.1 : Value).ownBlock) s_.2.2 y340) ∧ (Below w.heap.size w w')) ?_ ?_
              rotate_left
              ·intro hCont
               refine two_ (i := 0) (j := 6) (Ni := some 33) (Nj := some 39) #[T,T,T,T,F,T,F,F,T,T,T,F,F] #[F,T,T,T,F,T,T,F,T,T,T,F,F] rfl rfl rfl rfl (two_of HT_.out (by kernel_rfl)) (by decide) (by decide) (fun K hK => ?_) (fun K hK => ?_)
               ·skip
                refine Kd.R_lit_step (Kd.int .i64) _ 3 ?hg (N := 33) ?hd (xs := ([] : List Int)) (inner := []) (ok := fun _ => True) (okp := fun _ => True) ?hr ?hp (fun _ hk => hk) trivial (Below.refl _ _) (Nat.le_refl _) (by simp) ?_; (case hd => rfl); (case hg => rfl); (case hr => first | (go_simp; done) | (go_simp; rfl)); (case hp => exact (Reps.none _ _))
                intro v334 w21 ho22 hb hg_ hnew_
                clear hg_ hnew_
                (first | rw [← Ny333.out] at ho22 | (simp only [Int.reduceToNat] at ho22; rw [← Ny333.out] at ho22))
                have n0_ := am (Kd.R_lower ho22 (below_size (zB HB)))
                have n1_ := am (below_step (zB HB) hb)
                clear HB
                have HO335 := n0_
                have HB := n1_
                clear n0_ n1_
                clear hb ho22
                refine hK.out _ _ trivial (fun hHeld => ?_)
                clear hK K
                refine norm_ (a' := ?_) ?_ ?_
                rotate_left
                ·show Act.put _ (some 33) _ = _
                 simp only [Act.put, List.setIfInBounds_toArray, List.set_cons_zero, List.set_cons_succ, i64_w, i32_w]
                 rfl
                refine two_ (i := 4) (j := 6) (Ni := some 37) (Nj := some 39) #[T,T,T,T,T,T,F,F,T,T,T,F,F] #[T,T,T,T,F,T,T,F,T,T,T,F,F] rfl rfl rfl rfl (two_of HT_.out (by kernel_rfl)) (by decide) (by decide) (fun K hK => ?_) (fun K hK => ?_)
                ·skip
                 refine Kd.R_append_rows_step (Kd.int .i64) (w0 := w) w.heap.size (by rfl) (.tmp 33) (.tmp 36) 36 3 (.int .i64 0) 8 rfl Try.underlying36 info3 rfl (by decide) (by omega) v334 y333 (l0.take (x5_1 : Int).toNat) _ _ _ (fun _ => True) (fun _ => False) rfl rfl ?aO ?aR (fun _ _ h => h) (fun _ h => h.elim) ?aF ?aB ?aS ?aL ?_
                 (case aR => first | (refine Eq.mp (congrArg (fun n_ => ReadsRow _ _ _ _ n_ _) (show (l0.take (x5_1 : Int).toNat).length = x5_1.toNat from (by rw [List.length_take]; have h_ : (x5_1 : Int) ≤ (l0.length : Int) := of_decide_eq_true zA; omega))) ?_; repeat (first | exact (Kd.C_below HR336.out HB.out) | (with_reducible refine Kd.C_alloc ?_ _) | (with_reducible refine Kd.C_drewN ?_ _) | (with_reducible refine Kd.C_drew ?_)); done) | (rw [← show (l0.take (x5_1 : Int).toNat).length = x5_1.toNat from (by rw [List.length_take]; have h_ : (x5_1 : Int) ≤ (l0.length : Int) := of_decide_eq_true zA; omega)]; repeat (first | exact (Kd.C_below HR336.out HB.out) | (with_reducible refine Kd.C_alloc ?_ _) | (with_reducible refine Kd.C_drewN ?_ _) | (with_reducible refine Kd.C_drew ?_)); done) | (repeat (first | exact (Kd.C_below HR336.out HB.out) | (with_reducible refine Kd.C_alloc ?_ _) | (with_reducible refine Kd.C_drewN ?_ _) | (with_reducible refine Kd.C_drew ?_))))
                 (case aB => exact (zB HB))
                 (case aF => exact (fun _ _ => trivial))
                 (case aO => exact (zR HO335.out))
                 (case aS => exact (below_size (zB HB)))
                 (case aL => have := LMc13.out; have hlx_ := (show (l0.take (x5_1 : Int).toNat).length = x5_1.toNat from (by rw [List.length_take]; have h_ : (x5_1 : Int) ≤ (l0.length : Int) := of_decide_eq_true zA; omega)); omega)
                 intro v338 w23 ho hb hg hat
                 rw [← Ny337.out] at ho
                 have n0_ := am (hb)
                 have n1_ := am (ho)
                 clear HB
                 clear HO335
                 have HB := n0_
                 have HO339 := n1_
                 clear n0_ n1_
                 clear ho hb hg hat
                 refine hK.out _ _ trivial (fun hHeld => ?_)
                 clear hK K
                 refine norm_ (a' := ?_) ?_ ?_
                 rotate_left
                 ·show Act.put _ (some 37) _ = _
                  simp only [Act.put, List.setIfInBounds_toArray, List.set_cons_zero, List.set_cons_succ, i64_w, i32_w]
                  rfl
                 refine one_ (i := 6) (N := some 39) #[T,T,T,T,T,T,T,F,T,T,T,F,F] rfl rfl (one_of HT_.out (by kernel_rfl)) (by decide) (fun K hK => ?_)
                 refine Kd.R_lit_step (Kd.int .i64) _ 3 ?hg (N := 39) ?hd (xs := ([a1] : List Int)) (inner := [.int .i64 a1]) (ok := fun _ => True) (okp := fun _ => True) ?hr ?hp (fun _ hk => hk) trivial (Below.refl _ _) (Nat.le_refl _) (by simp) ?_; (case hd => rfl); (case hg => rfl); (case hr => first | (go_simp; done) | (go_simp; rfl)); (case hp => exact (Reps.one (show Kd.M (Kd.int .i64) _ _ _ a1 [.int .i64 a1] from rfl) (Reps.none _ _)))
                 intro v341 w24 ho25 hb hg_ hnew_
                 clear hg_ hnew_
                 (first | rw [← Ny340.out] at ho25 | (simp only [Int.reduceToNat] at ho25; rw [← Ny340.out] at ho25))
                 have n0_ := am (Kd.R_elder' (zR HO339.out) (Kd.R_base ho25) hb)
                 have n1_ := am (Kd.R_lower (Kd.R_new' ho25 (Kd.R_lt (zR HO339.out))) (below_size (zB HB)))
                 have n2_ := am (below_step (zB HB) hb)
                 clear HO339
                 clear HB
                 have HO339 := n0_
                 have HO342 := n1_
                 have HB := n2_
                 clear n0_ n1_ n2_
                 clear hb ho25
                 refine hK.out _ _ trivial (fun hHeld => ?_)
                 clear hK K
                 refine norm_ (a' := ?_) ?_ ?_
                 rotate_left
                 ·show Act.put _ (some 39) _ = _
                  simp only [Act.put, List.setIfInBounds_toArray, List.set_cons_zero, List.set_cons_succ, i64_w, i32_w]
                  rfl
                 exact norm_ (by simp only [putAll, Act.put, List.setIfInBounds_toArray, List.set_cons_zero, List.set_cons_succ]) (hCont (v334, v338, v341) _ ⟨(by refine zR ?_; exact Kd.R_mono HO339.out (fun _ hk => hk.2)), (by refine zR ?_; exact Kd.R_mono HO342.out (fun _ hk => hk.2)), (zB HB)⟩)
                ·skip
                 refine Kd.R_lit_step (Kd.int .i64) _ 3 ?hg (N := 39) ?hd (xs := ([a1] : List Int)) (inner := [.int .i64 a1]) (ok := fun _ => True) (okp := fun _ => True) ?hr ?hp (fun _ hk => hk) trivial (Below.refl _ _) (Nat.le_refl _) (by simp) ?_; (case hd => rfl); (case hg => rfl); (case hr => first | (go_simp; done) | (go_simp; rfl)); (case hp => exact (Reps.one (show Kd.M (Kd.int .i64) _ _ _ a1 [.int .i64 a1] from rfl) (Reps.none _ _)))
                 intro v341 w23 ho24 hb hg_ hnew_
                 clear hg_ hnew_
                 (first | rw [← Ny340.out] at ho24 | (simp only [Int.reduceToNat] at ho24; rw [← Ny340.out] at ho24))
                 have n0_ := am (Kd.R_elder' (zR HO335.out) (Kd.R_base ho24) hb)
                 have n1_ := am (Kd.R_lower (Kd.R_new' ho24 (Kd.R_lt (zR HO335.out))) (below_size (zB HB)))
                 have n2_ := am (below_step (zB HB) hb)
                 clear HO335
                 clear HB
                 have HO335 := n0_
                 have HO342 := n1_
                 have HB := n2_
                 clear n0_ n1_ n2_
                 clear hb ho24
                 refine hK.out _ _ trivial (fun hHeld => ?_)
                 clear hK K
                 refine norm_ (a' := ?_) ?_ ?_
                 rotate_left
                 ·show Act.put _ (some 39) _ = _
                  simp only [Act.put, List.setIfInBounds_toArray, List.set_cons_zero, List.set_cons_succ, i64_w, i32_w]
                  rfl
                 refine one_ (i := 4) (N := some 37) #[T,T,T,T,T,T,T,F,T,T,T,F,F] rfl rfl (one_of HT_.out (by kernel_rfl)) (by decide) (fun K hK => ?_)
                 refine Kd.R_append_rows_step (Kd.int .i64) (w0 := w) w.heap.size (by rfl) (.tmp 33) (.tmp 36) 36 3 (.int .i64 0) 8 rfl Try.underlying36 info3 rfl (by decide) (by omega) v334 y333 (l0.take (x5_1 : Int).toNat) _ _ _ (fun k_ => some k_ ≠ (v341 : Value).ownBlock) (fun _ => False) rfl rfl ?aO ?aR (fun _ _ h => h) (fun _ h => h.elim) ?aF ?aB ?aS ?aL ?_
                 (case aR => first | (refine Eq.mp (congrArg (fun n_ => ReadsRow _ _ _ _ n_ _) (show (l0.take (x5_1 : Int).toNat).length = x5_1.toNat from (by rw [List.length_take]; have h_ : (x5_1 : Int) ≤ (l0.length : Int) := of_decide_eq_true zA; omega))) ?_; repeat (first | exact (Kd.C_below HR336.out HB.out) | (with_reducible refine Kd.C_alloc ?_ _) | (with_reducible refine Kd.C_drewN ?_ _) | (with_reducible refine Kd.C_drew ?_)); done) | (rw [← show (l0.take (x5_1 : Int).toNat).length = x5_1.toNat from (by rw [List.length_take]; have h_ : (x5_1 : Int) ≤ (l0.length : Int) := of_decide_eq_true zA; omega)]; repeat (first | exact (Kd.C_below HR336.out HB.out) | (with_reducible refine Kd.C_alloc ?_ _) | (with_reducible refine Kd.C_drewN ?_ _) | (with_reducible refine Kd.C_drew ?_)); done) | (repeat (first | exact (Kd.C_below HR336.out HB.out) | (with_reducible refine Kd.C_alloc ?_ _) | (with_reducible refine Kd.C_drewN ?_ _) | (with_reducible refine Kd.C_drew ?_))))
                 (case aB => exact (zB HB))
                 (case aF => exact (fun k_ hk => Kd.fresh' (Kd.R_lt (zR HO342.out)) k_ hk))
                 (case aO => exact (by refine zR ?_; exact Kd.R_mono HO335.out (fun _ hk => hk.2)))
                 (case aS => exact (below_size (zB HB)))
                 (case aL => have := LMc13.out; have hlx_ := (show (l0.take (x5_1 : Int).toNat).length = x5_1.toNat from (by rw [List.length_take]; have h_ : (x5_1 : Int) ≤ (l0.length : Int) := of_decide_eq_true zA; omega)); omega)
                 intro v338 w25 ho hb hg hat
                 rw [← Ny337.out] at ho
                 have n0_ := am (Kd.R_after (ok := (fun _ => True)) (zR HO342.out) hg hat)
                 have n1_ := am (hb)
                 have n2_ := am (ho)
                 clear HO342
                 clear HB
                 clear HO335
                 have HO342 := n0_
                 have HB := n1_
                 have HO339 := n2_
                 clear n0_ n1_ n2_
                 clear ho hb hg hat
                 refine hK.out _ _ trivial (fun hHeld => ?_)
                 clear hK K
                 refine norm_ (a' := ?_) ?_ ?_
                 rotate_left
                 ·show Act.put _ (some 37) _ = _
                  simp only [Act.put, List.setIfInBounds_toArray, List.set_cons_zero, List.set_cons_succ, i64_w, i32_w]
                  rfl
                 exact norm_ (by simp only [putAll, Act.put, List.setIfInBounds_toArray, List.set_cons_zero, List.set_cons_succ]) (hCont (v334, v338, v341) _ ⟨(zR HO339.out), (by refine zR ?_; exact Kd.R_mono HO342.out (fun _ hk => hk.2)), (zB HB)⟩)
               ·skip
                refine Kd.R_lit_step (Kd.int .i64) _ 3 ?hg (N := 39) ?hd (xs := ([a1] : List Int)) (inner := [.int .i64 a1]) (ok := fun _ => True) (okp := fun _ => True) ?hr ?hp (fun _ hk => hk) trivial (Below.refl _ _) (Nat.le_refl _) (by simp) ?_; (case hd => rfl); (case hg => rfl); (case hr => first | (go_simp; done) | (go_simp; rfl)); (case hp => exact (Reps.one (show Kd.M (Kd.int .i64) _ _ _ a1 [.int .i64 a1] from rfl) (Reps.none _ _)))
                intro v341 w21 ho22 hb hg_ hnew_
                clear hg_ hnew_
                (first | rw [← Ny340.out] at ho22 | (simp only [Int.reduceToNat] at ho22; rw [← Ny340.out] at ho22))
                have n0_ := am (Kd.R_lower ho22 (below_size (zB HB)))
                have n1_ := am (below_step (zB HB) hb)
                clear HB
                have HO342 := n0_
                have HB := n1_
                clear n0_ n1_
                clear hb ho22
                refine hK.out _ _ trivial (fun hHeld => ?_)
                clear hK K
                refine norm_ (a' := ?_) ?_ ?_
                rotate_left
                ·show Act.put _ (some 39) _ = _
                 simp only [Act.put, List.setIfInBounds_toArray, List.set_cons_zero, List.set_cons_succ, i64_w, i32_w]
                 rfl
                refine one_ (i := 0) (N := some 33) #[T,T,T,T,F,T,T,F,T,T,T,F,F] rfl rfl (one_of HT_.out (by kernel_rfl)) (by decide) (fun K hK => ?_)
                refine Kd.R_lit_step (Kd.int .i64) _ 3 ?hg (N := 33) ?hd (xs := ([] : List Int)) (inner := []) (ok := fun _ => True) (okp := fun _ => True) ?hr ?hp (fun _ hk => hk) trivial (Below.refl _ _) (Nat.le_refl _) (by simp) ?_; (case hd => rfl); (case hg => rfl); (case hr => first | (go_simp; done) | (go_simp; rfl)); (case hp => exact (Reps.none _ _))
                intro v334 w23 ho24 hb hg_ hnew_
                clear hg_ hnew_
                (first | rw [← Ny333.out] at ho24 | (simp only [Int.reduceToNat] at ho24; rw [← Ny333.out] at ho24))
                have n0_ := am (Kd.R_elder' (zR HO342.out) (Kd.R_base ho24) hb)
                have n1_ := am (Kd.R_lower (Kd.R_new' ho24 (Kd.R_lt (zR HO342.out))) (below_size (zB HB)))
                have n2_ := am (below_step (zB HB) hb)
                clear HO342
                clear HB
                have HO342 := n0_
                have HO335 := n1_
                have HB := n2_
                clear n0_ n1_ n2_
                clear hb ho24
                refine hK.out _ _ trivial (fun hHeld => ?_)
                clear hK K
                refine norm_ (a' := ?_) ?_ ?_
                rotate_left
                ·show Act.put _ (some 33) _ = _
                 simp only [Act.put, List.setIfInBounds_toArray, List.set_cons_zero, List.set_cons_succ, i64_w, i32_w]
                 rfl
                refine one_ (i := 4) (N := some 37) #[T,T,T,T,T,T,T,F,T,T,T,F,F] rfl rfl (one_of HT_.out (by kernel_rfl)) (by decide) (fun K hK => ?_)
                refine Kd.R_append_rows_step (Kd.int .i64) (w0 := w) w.heap.size (by rfl) (.tmp 33) (.tmp 36) 36 3 (.int .i64 0) 8 rfl Try.underlying36 info3 rfl (by decide) (by omega) v334 y333 (l0.take (x5_1 : Int).toNat) _ _ _ (fun k_ => some k_ ≠ (v341 : Value).ownBlock) (fun _ => False) rfl rfl ?aO ?aR (fun _ _ h => h) (fun _ h => h.elim) ?aF ?aB ?aS ?aL ?_
                (case aR => first | (refine Eq.mp (congrArg (fun n_ => ReadsRow _ _ _ _ n_ _) (show (l0.take (x5_1 : Int).toNat).length = x5_1.toNat from (by rw [List.length_take]; have h_ : (x5_1 : Int) ≤ (l0.length : Int) := of_decide_eq_true zA; omega))) ?_; repeat (first | exact (Kd.C_below HR336.out HB.out) | (with_reducible refine Kd.C_alloc ?_ _) | (with_reducible refine Kd.C_drewN ?_ _) | (with_reducible refine Kd.C_drew ?_)); done) | (rw [← show (l0.take (x5_1 : Int).toNat).length = x5_1.toNat from (by rw [List.length_take]; have h_ : (x5_1 : Int) ≤ (l0.length : Int) := of_decide_eq_true zA; omega)]; repeat (first | exact (Kd.C_below HR336.out HB.out) | (with_reducible refine Kd.C_alloc ?_ _) | (with_reducible refine Kd.C_drewN ?_ _) | (with_reducible refine Kd.C_drew ?_)); done) | (repeat (first | exact (Kd.C_below HR336.out HB.out) | (with_reducible refine Kd.C_alloc ?_ _) | (with_reducible refine Kd.C_drewN ?_ _) | (with_reducible refine Kd.C_drew ?_))))
                (case aB => exact (zB HB))
                (case aF => exact (fun k_ hk => Kd.fresh' (Kd.R_lt (zR HO342.out)) k_ hk))
                (case aO => exact (by refine zR ?_; exact Kd.R_mono HO335.out (fun _ hk => hk.2)))
                (case aS => exact (below_size (zB HB)))
                (case aL => have := LMc13.out; have hlx_ := (show (l0.take (x5_1 : Int).toNat).length = x5_1.toNat from (by rw [List.length_take]; have h_ : (x5_1 : Int) ≤ (l0.length : Int) := of_decide_eq_true zA; omega)); omega)
                intro v338 w25 ho hb hg hat
                rw [← Ny337.out] at ho
                have n0_ := am (Kd.R_after (ok := (fun _ => True)) (zR HO342.out) hg hat)
                have n1_ := am (hb)
                have n2_ := am (ho)
                clear HO342
                clear HB
                clear HO335
                have HO342 := n0_
                have HB := n1_
                have HO339 := n2_
                clear n0_ n1_ n2_
                clear ho hb hg hat
                refine hK.out _ _ trivial (fun hHeld => ?_)
                clear hK K
                refine norm_ (a' := ?_) ?_ ?_
                rotate_left
                ·show Act.put _ (some 37) _ = _
                 simp only [Act.put, List.setIfInBounds_toArray, List.set_cons_zero, List.set_cons_succ, i64_w, i32_w]
                 rfl
                exact norm_ (by simp only [putAll, Act.put, List.setIfInBounds_toArray, List.set_cons_zero, List.set_cons_succ]) (hCont (v334, v338, v341) _ ⟨(zR HO339.out), (by refine zR ?_; exact Kd.R_mono HO342.out (fun _ hk => hk.2)), (zB HB)⟩)
              rintro ⟨v334, v338, v341⟩ w26 ⟨h0_, h1_, h2_⟩
              have n0_ : Aside0 (Kd.R (Kd.int .i64) 3 w26 w.heap.size (fun k_ => some k_ ≠ (v341 : Value).ownBlock) v338 y337) := ⟨h0_⟩
              have n1_ : Aside0 (Kd.R (Kd.int .i64) 3 w26 w.heap.size (fun k_ => some k_ ≠ (v338 : Value).ownBlock) v341 y340) := ⟨h1_⟩
              have n2_ : Aside0 (Below w.heap.size w w26) := ⟨h2_⟩
              clear HB
              clear h0_ h1_ h2_
              have HO339 := n0_
              have HO342 := n1_
              have HB := n2_
              clear n0_ n1_ n2_
              have hHeld := trivial
              obtain ⟨Ao28, co28, eo28⟩ := Kd.R_slice HO342.out
              (first | subst eo28 | (injection eo28 with f1_ f2_ f3_; have f4_ := f1_.symm; have f5_ := f3_.symm; clear f1_ f2_ f3_; subst f4_; subst f5_))
              refine norm_ (a' := ?_) ?_ ?_
              rotate_left
              ·simp only [putAll, Act.put, List.setIfInBounds_toArray, List.set_cons_zero, List.set_cons_succ]
               rfl
              refine one_ (i := 7) (N := some 40) #[T,T,T,T,T,T,T,T,T,T,T,F,F] rfl rfl (one_of HT_.out (by kernel_rfl)) (by decide) (fun K hK => ?_)
              refine Kd.R_append_rows_step (Kd.int .i64) (w0 := w) w.heap.size (by rfl) (.tmp 37) (.tmp 39) 36 3 (.int .i64 0) 8 rfl Try.underlying36 info3 rfl (by decide) (by omega) v338 y337 y340 _ _ _ (fun k_ => some k_ ≠ (.slice Ao28 y340.length co28 : Value).ownBlock) (fun _ => False) rfl rfl ?aO ?aR (fun _ _ h => h) (fun _ h => h.elim) ?aF ?aB ?aS ?aL ?_
              (case aR => exact zC (Kd.R_reads' HO342.out).2.2)
              (case aB => exact (zB HB))
              (case aF => exact (fun k_ hk => Kd.fresh' (Kd.R_lt (zR HO342.out)) k_ hk))
              (case aO => exact (zR HO339.out))
              (case aS => exact (below_size (zB HB)))
              (case aL => have := LMc14.out; omega)
              intro v344 w27 ho hb hg hat
              rw [← Ny343.out] at ho
              have n0_ := am (Kd.R_after (ok := (fun _ => True)) (by refine zR ?_; exact Kd.R_mono HO342.out (fun _ hk => ⟨trivial, hk⟩)) hg hat)
              have n1_ := am (hb)
              have n2_ := am (ho)
              clear HO342
              clear HB
              clear HO339
              have HO342 := n0_
              have HB := n1_
              have HO345 := n2_
              clear n0_ n1_ n2_
              clear ho hb hg hat
              refine hK.out _ _ trivial (fun hHeld => ?_)
              clear hK K
              refine norm_ (a' := ?_) ?_ ?_
              rotate_left
              ·show Act.put _ (some 40) _ = _
               simp only [Act.put, List.setIfInBounds_toArray, List.set_cons_zero, List.set_cons_succ, i64_w, i32_w]
               rfl
              refine one_ (i := 11) (N := some 44) #[T,T,T,T,T,T,T,T,T,T,T,T,F] rfl rfl (one_of HT_.out (by kernel_rfl)) (by decide) (fun K hK => ?_)
              refine Kd.R_append_rows_step (Kd.int .i64) (w0 := w) w.heap.size (by rfl) (.tmp 40) (.tmp 43) 36 3 (.int .i64 0) 8 rfl Try.underlying36 info3 rfl (by decide) (by omega) v344 y343 (l0.drop (x5_1 : Int).toNat) _ _ _ (fun k_ => some k_ ≠ (.slice Ao28 y340.length co28 : Value).ownBlock) (fun _ => False) rfl rfl ?aO ?aR (fun _ _ h => h) (fun _ h => h.elim) ?aF ?aB ?aS ?aL ?_
              (case aR => first | (refine Eq.mp (congrArg (fun n_ => ReadsRow _ _ _ _ n_ _) (show (l0.drop (x5_1 : Int).toNat).length = (l0.length - x5_1.toNat) from List.length_drop)) ?_; repeat (first | exact (Kd.C_below HR346.out HB.out) | (with_reducible refine Kd.C_alloc ?_ _) | (with_reducible refine Kd.C_drewN ?_ _) | (with_reducible refine Kd.C_drew ?_)); done) | (rw [← show (l0.drop (x5_1 : Int).toNat).length = (l0.length - x5_1.toNat) from List.length_drop]; repeat (first | exact (Kd.C_below HR346.out HB.out) | (with_reducible refine Kd.C_alloc ?_ _) | (with_reducible refine Kd.C_drewN ?_ _) | (with_reducible refine Kd.C_drew ?_)); done) | (repeat (first | exact (Kd.C_below HR346.out HB.out) | (with_reducible refine Kd.C_alloc ?_ _) | (with_reducible refine Kd.C_drewN ?_ _) | (with_reducible refine Kd.C_drew ?_))))
              (case aB => exact (zB HB))
              (case aF => exact (fun k_ hk => Kd.fresh' (Kd.R_lt (zR HO342.out)) k_ hk))
              (case aO => exact (zR HO345.out))
              (case aS => exact (below_size (zB HB)))
              (case aL => have := LMc17.out; have hlx_ := (show (l0.drop (x5_1 : Int).toNat).length = (l0.length - x5_1.toNat) from List.length_drop); omega)
              intro v348 w29 ho hb hg hat
              rw [← Ny347.out] at ho
              have n0_ := am (Kd.R_after (ok := (fun _ => True)) (zR HO342.out) hg hat)
              have n1_ := am (hb)
              have n2_ := am (ho)
              clear HO342
              clear HB
              clear HO345
              have HO342 := n0_
              have HB := n1_
              have HO349 := n2_
              clear n0_ n1_ n2_
              clear ho hb hg hat
              refine hK.out _ _ trivial (fun hHeld => ?_)
              clear hK K
              refine norm_ (a' := ?_) ?_ ?_
              rotate_left
              ·show Act.put _ (some 44) _ = _
               simp only [Act.put, List.setIfInBounds_toArray, List.set_cons_zero, List.set_cons_succ, i64_w, i32_w]
               rfl
              refine pure_ (i := 12) (N := some 4) (v := ?_) (a' := ?_) #[T,T,T,T,T,T,T,T,T,T,T,T,T] rfl rfl (zO HT_) (fun _ _ _ h => h) (Or.inl ⟨by rfl, ?_⟩) ?_ ?_
              rotate_left
              ·intro w'
               go_simp
               with_reducible rfl
              rotate_left
              ·exact zP i64_w i32_w
              refine done_ (done_of HT_.out (by kernel_rfl)) ?_
              try go_wp2
              go_ret
              exact ⟨_, by first | rfl | (simp [errW_none, errW_some] <;> rfl) | (simp [*, errW_none, errW_some] <;> rfl), by refine zR ?_; exact Kd.R_mono HO349.out (fun _ hk => trivial), by repeat (first | (with_reducible first | exact HB.out | apply below_alloc | apply pw_below_drewN | apply below_drew1) | exact HB.out)⟩
             ·rw [if_neg c17] at H
              exact absurd H (by simp)
            ·rw [if_neg c14] at H
             exact absurd H (by simp)
           ·rw [if_neg c13] at H
            exact absurd H (by simp)
          ·rw [if_neg c12] at H
           exact absurd H (by simp)
         ·rw [if_neg c11] at H
          exact absurd H (by simp)

end
end Go.Proofs.Ytapbmkcncjkanaa.P
