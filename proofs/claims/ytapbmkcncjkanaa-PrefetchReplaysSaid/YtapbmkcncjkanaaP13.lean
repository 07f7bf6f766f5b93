-- Written by this session's wip/tools/px.py out of the translation. Lean checks it.
import Derived.Test.YtapbmkcncjkanaaP0
namespace Go.Proofs.Ytapbmkcncjkanaa.P
noncomputable section
open Go.RowKit Go.Proofs.YtapbmkcncjkanaaW.PrintWords Go.Proofs.YtapbmkcncjkanaaW.PrintLast Go.Proofs.YtapbmkcncjkanaaW.PrintMore
attribute [local go_sem] max2_int min2_int max_two min_two max_three min_three max_four min_four   -- for this text's walks alone
set_option linter.unusedVariables false
set_option linter.unusedSimpArgs false

/-! ### w36_few: function 13 -/
mutual
def w36_few.l0 : Nat → List (S25) → Int → Option (Bool)
 | 0, _, _ => none
 | k + 1, x0, x3 => if x3 < (x0.length : Int) then (if 0 ≤ x3 then (if ((rd_T25 x0 x3).f0) < (-5000) then (w36_few.j1 k x0 x3 true) else (if ((rd_T25 x0 x3).f0) > 5000 then (w36_few.j1 k x0 x3 true) else (if ((rd_T25 x0 x3).f1) < (-5000) then (w36_few.j1 k x0 x3 true) else (w36_few.j1 k x0 x3 (decide (((rd_T25 x0 x3).f1) > 5000)))))) else (none)) else (some true)
def w36_few.j1 : Nat → List (S25) → Int → Bool → Option (Bool)
 | 0, _, _, _ => none
 | k + 1, x0, x3, x42 => if x42 = true then (some false) else (w36_few.l0 k x0 (wrap64 (x3 + 1)))
end
def w36_few.f (k : Nat) (l0 : List (S25)) : Option (Bool) := if (l0.length : Int) > 40 then (some false) else (w36_few.l0 k l0 0)
theorem w36_few.mono_l : ∀ k, (∀ y0 y1, LeO (w36_few.l0 k y0 y1) (w36_few.l0 (k + 1) y0 y1)) ∧ (∀ y0 y1 y2, LeO (w36_few.j1 k y0 y1 y2) (w36_few.j1 (k + 1) y0 y1 y2))
 | 0 => ⟨fun _ _ r h => by simp [w36_few.l0] at h, fun _ _ _ r h => by simp [w36_few.j1] at h⟩
 | k + 1 => by
  obtain ⟨ih0, ih1⟩ := w36_few.mono_l k
  refine ⟨?_, ?_⟩
  ·intro y0 y1
   unfold w36_few.l0
   repeat' first
   | (with_reducible exact ih0 _ _)
   | (with_reducible exact ih1 _ _ _)
   | (with_reducible exact LeO.refl _)
   | (with_reducible exact LeO.none _)
   | (with_reducible refine LeO.ite ?_ ?_)
   | (with_reducible refine LeO.bind ?_ (fun _ => ?_))
   | exact ih0 _ _
   | exact ih1 _ _ _
   | exact LeO.none _
   | refine LeO.ite ?_ ?_
   | refine LeO.bind ?_ (fun _ => ?_)
  ·intro y0 y1 y2
   unfold w36_few.j1
   repeat' first
   | (with_reducible exact ih0 _ _)
   | (with_reducible exact ih1 _ _ _)
   | (with_reducible exact LeO.refl _)
   | (with_reducible exact LeO.none _)
   | (with_reducible refine LeO.ite ?_ ?_)
   | (with_reducible refine LeO.bind ?_ (fun _ => ?_))
   | exact ih0 _ _
   | exact ih1 _ _ _
   | exact LeO.none _
   | refine LeO.ite ?_ ?_
   | refine LeO.bind ?_ (fun _ => ?_)
theorem w36_few.mono : ∀ a0 k, LeO (w36_few.f k a0) (w36_few.f (k + 1) a0) := by
 intro a0 k
 obtain ⟨ih0, ih1⟩ := w36_few.mono_l k
 unfold w36_few.f
 repeat' first
   | (with_reducible exact ih0 _ _)
   | (with_reducible exact ih1 _ _ _)
   | (with_reducible exact LeO.refl _)
   | (with_reducible exact LeO.none _)
   | (with_reducible refine LeO.ite ?_ ?_)
   | (with_reducible refine LeO.bind ?_ (fun _ => ?_))
   | exact ih0 _ _
   | exact ih1 _ _ _
   | exact LeO.none _
   | refine LeO.ite ?_ ?_
   | refine LeO.bind ?_ (fun _ => ?_)
set_option maxHeartbeats 8000000 in
set_option maxRecDepth 100000 in
theorem w36_few.calls (k : Nat) (A0 : Option Addr) (c0 : Nat) (l0 : List (S25)) (r : Bool) (w : World) (hr0 : Kd.C k25 w A0 l0.length l0) (hc0 : l0.length ≤ c0) (h : w36_few.f k l0 = some r) :
  Calls Try.prog 13 #[.slice A0 l0.length c0] w fun e w' => e = .returned (.bool r) ∧ Drawn0 w w' := by
 have HR0 := am hr0
 have HC0 := am hc0
 clear hr0 hc0
 have H : (if (l0.length : Int) > 40 then (some false) else (w36_few.l0 k l0 0)) = some r := h
 clear h
 by_cases c2 : (l0.length : Int) > 40
 ·rw [if_pos c2] at H
  have c2b0 : decide (40 < (l0.length : Int)) = true := decide_eq_true c2
  have c2b1 : decide (40 < l0.length) = true := decide_eq_true (by omega)
  clear c2
  obtain rfl := Option.some.inj H
  go_enter Try.func13, Try.ntmps13
  go_wp2
  go_ret
  exact ⟨by first | rfl | (simp; done) | (simp [*]; done), by repeat (first | exact Drawn0.refl _ | apply Drawn0.step)⟩
 ·rw [if_neg c2] at H
  have c2b0 : decide (40 < (l0.length : Int)) = false := decide_eq_false c2
  have c2b1 : decide (40 < l0.length) = false := decide_eq_false (by omega)
  clear c2
  have H' := am H
  clear H
  go_enter Try.func13, Try.ntmps13
  go_wp2
  go_loopg [3] k (fun kq v3 w' => ∃ (x3_1 : Int), v3 = .int .i64 x3_1 ∧ Aside0 (w36_few.l0 kq l0 x3_1 = some r) ∧ Aside0 (kq ≤ k) ∧ Drawn0 w w')
  case atStart => exact ⟨(0), zS, H', ⟨Nat.le_refl _⟩, by repeat (first | exact Drawn0.refl _ | apply Drawn0.step)⟩
  case round =>
   clear H'
   try clear c1
   try clear c2
   try clear c2b0
   try clear c2b1
   try clear p2
   obtain ⟨x3_1, rfl, HA, HK1, ⟨m1, rfl⟩⟩ := hrel
   cases gk with
   | zero => exact absurd HA.out (by simp [w36_few.l0])
   | succ k1 =>
    have H := HA.out
    clear HA
    simp only [w36_few.l0] at H
    by_cases c3 : x3_1 < (l0.length : Int)
    ·rw [if_pos c3] at H
     have c3b0 : decide (x3_1 < (l0.length : Int)) = true := decide_eq_true c3
     clear c3
     have HC4 := am H
     clear H
     go_upto_region 6 with (fail)
     go_cut [42] (fun v42 wc => ∃ (kq : Nat) (x42_3 : Bool), v42 = .bool x42_3 ∧ Aside0 (w36_few.j1 kq l0 x3_1 x42_3 = some r) ∧ Aside0 (kq ≤ k1) ∧ Drawn0 w wc)
     case first =>
      have H := HC4.out
      clear HC4
      by_cases c5 : 0 ≤ x3_1
      ·rw [if_pos c5] at H
       have c5b0 : decide (0 ≤ x3_1) = true := decide_eq_true c5
       clear c5
       (first | rw [c5b0] | (simp only [i64_w, i32_w]; rw [c5b0]) | skip)
       by_cases c6 : ((rd_T25 l0 x3_1).f0) < (-5000)
       ·rw [if_pos c6] at H
        have c6b0 : decide (((rd_T25 l0 x3_1).f0) < (-5000)) = true := decide_eq_true c6
        clear c6
        have H' := am H
        clear H
        have p326 : 0 ≤ (x3_1 : Int) := of_decide_eq_true zA
        have q326 : x3_1 < (l0.length : Int) := of_decide_eq_true zA
        obtain ⟨ad326, e326, hx326_0, hx326_1⟩ := at_T25 HR0.out x3_1 p326 q326
        cases e326
        replace p326 := eq_true p326
        replace q326 := eq_true q326
        go_wp2
        go_meet
        case rel => exact ⟨_, (true), zS, H', ⟨by have := HK1.out; first | omega | exact Nat.le_refl _⟩, by repeat (first | exact Drawn0.refl _ | apply Drawn0.step)⟩
       ·rw [if_neg c6] at H
        have c6b0 : decide (((rd_T25 l0 x3_1).f0) < (-5000)) = false := decide_eq_false c6
        clear c6
        by_cases c7 : ((rd_T25 l0 x3_1).f0) > 5000
        ·rw [if_pos c7] at H
         have c7b0 : decide (5000 < ((rd_T25 l0 x3_1).f0)) = true := decide_eq_true c7
         clear c7
         have H' := am H
         clear H
         have p326 : 0 ≤ (x3_1 : Int) := of_decide_eq_true zA
         have q326 : x3_1 < (l0.length : Int) := of_decide_eq_true zA
         obtain ⟨ad326, e326, hx326_0, hx326_1⟩ := at_T25 HR0.out x3_1 p326 q326
         cases e326
         replace p326 := eq_true p326
         replace q326 := eq_true q326
         have p327 : 0 ≤ (x3_1 : Int) := of_decide_eq_true zA
         have q327 : x3_1 < (l0.length : Int) := of_decide_eq_true zA
         obtain ⟨ad327, e327, hx327_0, hx327_1⟩ := at_T25 HR0.out x3_1 p327 q327
         obtain rfl : ad326 = ad327 := (by injection e327)
         replace p327 := eq_true p327
         replace q327 := eq_true q327
         go_wp2
         go_meet
         case rel => exact ⟨_, (true), zS, H', ⟨by have := HK1.out; first | omega | exact Nat.le_refl _⟩, by repeat (first | exact Drawn0.refl _ | apply Drawn0.step)⟩
        ·rw [if_neg c7] at H
         have c7b0 : decide (5000 < ((rd_T25 l0 x3_1).f0)) = false := decide_eq_false c7
         clear c7
         by_cases c8 : ((rd_T25 l0 x3_1).f1) < (-5000)
         ·rw [if_pos c8] at H
          have c8b0 : decide (((rd_T25 l0 x3_1).f1) < (-5000)) = true := decide_eq_true c8
          clear c8
          have H' := am H
          clear H
          have p326 : 0 ≤ (x3_1 : Int) := of_decide_eq_true zA
          have q326 : x3_1 < (l0.length : Int) := of_decide_eq_true zA
          obtain ⟨ad326, e326, hx326_0, hx326_1⟩ := at_T25 HR0.out x3_1 p326 q326
          cases e326
          replace p326 := eq_true p326
          replace q326 := eq_true q326
          have p327 : 0 ≤ (x3_1 : Int) := of_decide_eq_true zA
          have q327 : x3_1 < (l0.length : Int) := of_decide_eq_true zA
          obtain ⟨ad327, e327, hx327_0, hx327_1⟩ := at_T25 HR0.out x3_1 p327 q327
          obtain rfl : ad326 = ad327 := (by injection e327)
          replace p327 := eq_true p327
          replace q327 := eq_true q327
          have p328 : 0 ≤ (x3_1 : Int) := of_decide_eq_true zA
          have q328 : x3_1 < (l0.length : Int) := of_decide_eq_true zA
          obtain ⟨ad328, e328, hx328_0, hx328_1⟩ := at_T25 HR0.out x3_1 p328 q328
          obtain rfl : ad326 = ad328 := (by injection e328)
          replace p328 := eq_true p328
          replace q328 := eq_true q328
          go_wp2
          go_meet
          case rel => exact ⟨_, (true), zS, H', ⟨by have := HK1.out; first | omega | exact Nat.le_refl _⟩, by repeat (first | exact Drawn0.refl _ | apply Drawn0.step)⟩
         ·rw [if_neg c8] at H
          have c8b0 : decide (((rd_T25 l0 x3_1).f1) < (-5000)) = false := decide_eq_false c8
          clear c8
          have H' := am H
          clear H
          have p326 : 0 ≤ (x3_1 : Int) := of_decide_eq_true zA
          have q326 : x3_1 < (l0.length : Int) := of_decide_eq_true zA
          obtain ⟨ad326, e326, hx326_0, hx326_1⟩ := at_T25 HR0.out x3_1 p326 q326
          cases e326
          replace p326 := eq_true p326
          replace q326 := eq_true q326
          have p327 : 0 ≤ (x3_1 : Int) := of_decide_eq_true zA
          have q327 : x3_1 < (l0.length : Int) := of_decide_eq_true zA
          obtain ⟨ad327, e327, hx327_0, hx327_1⟩ := at_T25 HR0.out x3_1 p327 q327
          obtain rfl : ad326 = ad327 := (by injection e327)
          replace p327 := eq_true p327
          replace q327 := eq_true q327
          have p328 : 0 ≤ (x3_1 : Int) := of_decide_eq_true zA
          have q328 : x3_1 < (l0.length : Int) := of_decide_eq_true zA
          obtain ⟨ad328, e328, hx328_0, hx328_1⟩ := at_T25 HR0.out x3_1 p328 q328
          obtain rfl : ad326 = ad328 := (by injection e328)
          replace p328 := eq_true p328
          replace q328 := eq_true q328
          have p329 : 0 ≤ (x3_1 : Int) := of_decide_eq_true zA
          have q329 : x3_1 < (l0.length : Int) := of_decide_eq_true zA
          obtain ⟨ad329, e329, hx329_0, hx329_1⟩ := at_T25 HR0.out x3_1 p329 q329
          obtain rfl : ad326 = ad329 := (by injection e329)
          replace p329 := eq_true p329
          replace q329 := eq_true q329
          go_wp2
          go_meet
          case rel => exact ⟨_, (decide (((rd_T25 l0 x3_1).f1) > 5000)), zS, H', ⟨by have := HK1.out; first | omega | exact Nat.le_refl _⟩, by repeat (first | exact Drawn0.refl _ | apply Drawn0.step)⟩
      ·rw [if_neg c5] at H
       exact absurd H (by simp)
     case rest =>
      clear HC4
      try clear c1
      try clear c2
      try clear c2b0
      try clear c2b1
      try clear p2
      try clear c3
      try clear c3b0
      try clear p3
      try clear q3
      try clear hx3
      try clear c5
      try clear c5b0
      try clear c6
      try clear c6b0
      try clear c7
      try clear c7b0
      try clear c8
      try clear c8b0
      try clear hx326_0
      try clear hx326_1
      try clear hx327_0
      try clear hx327_1
      try clear hx328_0
      try clear hx328_1
      try clear hx329_0
      try clear hx329_1
      try clear p2
      try clear p326
      try clear p327
      try clear p328
      try clear p329
      try clear q326
      try clear q327
      try clear q328
      try clear q329
      obtain ⟨kq, x42_3, rfl, HA, HJ3, ⟨mc3, rfl⟩⟩ := hcut
      cases kq with
      | zero => exact absurd HA.out (by simp [w36_few.j1])
      | succ kj3 =>
       have H := HA.out
       clear HA
       simp only [w36_few.j1] at H
       by_cases c9 : x42_3 = true
       ·subst c9
        have H1 : (some false) = some r := by rw [if_pos rfl] at H; exact H
        clear H
        have H := H1
        clear H1
        obtain rfl := Option.some.inj H
        go_wp2
        go_ret
        exact ⟨by first | rfl | (simp; done) | (simp [*]; done), by repeat (first | exact Drawn0.refl _ | apply Drawn0.step)⟩
       ·replace c9 := Bool.eq_false_iff.mpr c9
        subst c9
        have H1 : (w36_few.l0 kj3 l0 (wrap64 (x3_1 + 1))) = some r := by rw [if_neg (show ¬ (false = true) by decide)] at H; exact H
        clear H
        have H := H1
        clear H1
        have H' := am H
        clear H
        go_wp2
        go_roundg kj3
        case measure => have := HK1.out; have := HJ3.out; omega
        case rel => exact ⟨(wrap64 (x3_1 + 1)), zS, H', ⟨by have := HK1.out; have := HJ3.out; omega⟩, by repeat (first | exact Drawn0.refl _ | apply Drawn0.step)⟩
    ·rw [if_neg c3] at H
     have c3b0 : decide (x3_1 < (l0.length : Int)) = false := decide_eq_false c3
     clear c3
     obtain rfl := Option.some.inj H
     go_wp2
     go_ret
     exact ⟨by first | rfl | (simp; done) | (simp [*]; done), by repeat (first | exact Drawn0.refl _ | apply Drawn0.step)⟩

/-! ### r34_has: function 49 -/
def r34_has.f (a0_0 : Int) (a0_1 : Int) : Option (Bool) := if a0_0 ≥ 0 then (if a0_1 ≥ 1 then (if a0_0 ≤ 1125899906842624 then (some (decide (a0_1 ≤ (wrap64 (1125899906842624 - a0_0))))) else (some false)) else (some false)) else (some false)
set_option maxHeartbeats 8000000 in
set_option maxRecDepth 100000 in
theorem r34_has.calls (a0_0 : Int) (a0_1 : Int) (r : Bool) (w : World) (h : r34_has.f a0_0 a0_1 = some r) :
  Calls Try.prog 49 #[.agg #[.int .i64 a0_0, .int .i64 a0_1]] w fun e w' => e = .returned (.bool r) ∧ Below w.heap.size w w' := by
 have hu25 := Try.underlying25
 have HB := am (Below.refl w.heap.size w)
 have H : (if a0_0 ≥ 0 then (if a0_1 ≥ 1 then (if a0_0 ≤ 1125899906842624 then (some (decide (a0_1 ≤ (wrap64 (1125899906842624 - a0_0))))) else (some false)) else (some false)) else (some false)) = some r := h
 clear h
 by_cases c2 : a0_0 ≥ 0
 ·rw [if_pos c2] at H
  have c2b0 : decide (0 ≤ a0_0) = true := decide_eq_true c2
  clear c2
  by_cases c3 : a0_1 ≥ 1
  ·rw [if_pos c3] at H
   have c3b0 : decide (1 ≤ a0_1) = true := decide_eq_true c3
   clear c3
   by_cases c4 : a0_0 ≤ 1125899906842624
   ·rw [if_pos c4] at H
    have c4b0 : decide (a0_0 ≤ 1125899906842624) = true := decide_eq_true c4
    clear c4
    obtain rfl := Option.some.inj H
    go_enter Try.func49, Try.ntmps49
    go_wp2_with (first | ((with_reducible refine gate_dst (N := 1) rfl ?_); refine box_event ?hg (N := 1) ?hd (cs := #[.int .i64 a0_0, .int .i64 a0_1]) (t := 25) ?hr ?_; (case hd => rfl); (case hg => rfl); (case hr => first | (go_simp; done) | (go_simp; rfl)); intro gb330 hg w5 hbox hb; have n0_ := am (below_step (zB HB) hb); have n1_ := am (hbox); have n2_ := am ((by rw [hg]; exact (below_size (zB HB)) : w.heap.size ≤ gb330)); have n3_ := am ((by rw [hg]; exact (below_size (zB HB)) : w.heap.size ≤ gb330)); clear HB; have HB := n0_; have BK330 := n1_; have GW330 := n2_; have GE330 := n3_; clear n0_ n1_ n2_ n3_; clear hb hbox hg; have hcz6_0 : w5.cell? ⟨gb330, 0, none⟩ = some (.int .i64 a0_0) := (blk_cell BK330.out 0).trans rfl; have hcz6_1 : w5.cell? ⟨gb330, 1, none⟩ = some (.int .i64 a0_1) := (blk_cell BK330.out 1).trans rfl; have hfz6_0 := blk_frozen BK330.out 0; have hfz6_1 := blk_frozen BK330.out 1))
    go_ret
    exact ⟨by first | rfl | (simp [errW_none, errW_some] <;> rfl) | (simp [*, errW_none, errW_some] <;> rfl), zG HB GE330⟩
   ·rw [if_neg c4] at H
    have c4b0 : decide (a0_0 ≤ 1125899906842624) = false := decide_eq_false c4
    clear c4
    obtain rfl := Option.some.inj H
    go_enter Try.func49, Try.ntmps49
    go_wp2_with (first | ((with_reducible refine gate_dst (N := 1) rfl ?_); refine box_event ?hg (N := 1) ?hd (cs := #[.int .i64 a0_0, .int .i64 a0_1]) (t := 25) ?hr ?_; (case hd => rfl); (case hg => rfl); (case hr => first | (go_simp; done) | (go_simp; rfl)); intro gb330 hg w7 hbox hb; have n0_ := am (below_step (zB HB) hb); have n1_ := am (hbox); have n2_ := am ((by rw [hg]; exact (below_size (zB HB)) : w.heap.size ≤ gb330)); have n3_ := am ((by rw [hg]; exact (below_size (zB HB)) : w.heap.size ≤ gb330)); clear HB; have HB := n0_; have BK330 := n1_; have GW330 := n2_; have GE330 := n3_; clear n0_ n1_ n2_ n3_; clear hb hbox hg; have hcz8_0 : w7.cell? ⟨gb330, 0, none⟩ = some (.int .i64 a0_0) := (blk_cell BK330.out 0).trans rfl; have hcz8_1 : w7.cell? ⟨gb330, 1, none⟩ = some (.int .i64 a0_1) := (blk_cell BK330.out 1).trans rfl; have hfz8_0 := blk_frozen BK330.out 0; have hfz8_1 := blk_frozen BK330.out 1))
    go_ret
    exact ⟨by first | rfl | (simp [errW_none, errW_some] <;> rfl) | (simp [*, errW_none, errW_some] <;> rfl), zG HB GE330⟩
  ·rw [if_neg c3] at H
   have c3b0 : decide (1 ≤ a0_1) = false := decide_eq_false c3
   clear c3
   obtain rfl := Option.some.inj H
   go_enter Try.func49, Try.ntmps49
   go_wp2_with (first | ((with_reducible refine gate_dst (N := 1) rfl ?_); refine box_event ?hg (N := 1) ?hd (cs := #[.int .i64 a0_0, .int .i64 a0_1]) (t := 25) ?hr ?_; (case hd => rfl); (case hg => rfl); (case hr => first | (go_simp; done) | (go_simp; rfl)); intro gb330 hg w9 hbox hb; have n0_ := am (below_step (zB HB) hb); have n1_ := am (hbox); have n2_ := am ((by rw [hg]; exact (below_size (zB HB)) : w.heap.size ≤ gb330)); have n3_ := am ((by rw [hg]; exact (below_size (zB HB)) : w.heap.size ≤ gb330)); clear HB; have HB := n0_; have BK330 := n1_; have GW330 := n2_; have GE330 := n3_; clear n0_ n1_ n2_ n3_; clear hb hbox hg; have hcz10_0 : w9.cell? ⟨gb330, 0, none⟩ = some (.int .i64 a0_0) := (blk_cell BK330.out 0).trans rfl; have hcz10_1 : w9.cell? ⟨gb330, 1, none⟩ = some (.int .i64 a0_1) := (blk_cell BK330.out 1).trans rfl; have hfz10_0 := blk_frozen BK330.out 0; have hfz10_1 := blk_frozen BK330.out 1))
   go_ret
   exact ⟨by first | rfl | (simp [errW_none, errW_some] <;> rfl) | (simp [*, errW_none, errW_some] <;> rfl), zG HB GE330⟩
 ·rw [if_neg c2] at H
  have c2b0 : decide (0 ≤ a0_0) = false := decide_eq_false c2
  clear c2
  obtain rfl := Option.some.inj H
  go_enter Try.func49, Try.ntmps49
  go_wp2_with (first | ((with_reducible refine gate_dst (N := 1) rfl ?_); refine box_event ?hg (N := 1) ?hd (cs := #[.int .i64 a0_0, .int .i64 a0_1]) (t := 25) ?hr ?_; (case hd => rfl); (case hg => rfl); (case hr => first | (go_simp; done) | (go_simp; rfl)); intro gb330 hg w11 hbox hb; have n0_ := am (below_step (zB HB) hb); have n1_ := am (hbox); have n2_ := am ((by rw [hg]; exact (below_size (zB HB)) : w.heap.size ≤ gb330)); have n3_ := am ((by rw [hg]; exact (below_size (zB HB)) : w.heap.size ≤ gb330)); clear HB; have HB := n0_; have BK330 := n1_; have GW330 := n2_; have GE330 := n3_; clear n0_ n1_ n2_ n3_; clear hb hbox hg; have hcz12_0 : w11.cell? ⟨gb330, 0, none⟩ = some (.int .i64 a0_0) := (blk_cell BK330.out 0).trans rfl; have hcz12_1 : w11.cell? ⟨gb330, 1, none⟩ = some (.int .i64 a0_1) := (blk_cell BK330.out 1).trans rfl; have hfz12_0 := blk_frozen BK330.out 0; have hfz12_1 := blk_frozen BK330.out 1))
  go_ret
  exact ⟨by first | rfl | (simp [errW_none, errW_some] <;> rfl) | (simp [*, errW_none, errW_some] <;> rfl), zG HB GE330⟩

end
end Go.Proofs.Ytapbmkcncjkanaa.P
