-- Written by this session's wip/tools/px.py out of the translation. Lean checks it.
import Derived.Test.YtapbmkcncjkanaaP0
namespace Go.Proofs.Ytapbmkcncjkanaa.P
noncomputable section
open Go.RowKit Go.Proofs.YtapbmkcncjkanaaW.PrintWords Go.Proofs.YtapbmkcncjkanaaW.PrintLast Go.Proofs.YtapbmkcncjkanaaW.PrintMore
attribute [local go_sem] max2_int min2_int max_two min_two max_three min_three max_four min_four   -- for this text's walks alone
set_option linter.unusedVariables false
set_option linter.unusedSimpArgs false

/-! ### prefetch_in: function 38 -/
def prefetch_in.f (a0 : Int) (a1 : Int) (a2 : Int) : Option (Bool) := if a0 ≥ a1 then (some (decide (a0 ≤ a2))) else (some false)
set_option maxHeartbeats 8000000 in
set_option maxRecDepth 100000 in
theorem prefetch_in.calls (a0 : Int) (a1 : Int) (a2 : Int) (r : Bool) (w : World) (h : prefetch_in.f a0 a1 a2 = some r) :
  Calls Try.prog 38 #[.int .i64 a0, .int .i64 a1, .int .i64 a2] w fun e w' => e = .returned (.bool r) ∧ Drawn0 w w' := by
 have H : (if a0 ≥ a1 then (some (decide (a0 ≤ a2))) else (some false)) = some r := h
 clear h
 by_cases c4 : a0 ≥ a1
 ·rw [if_pos c4] at H
  have c4b0 : decide (a1 ≤ a0) = true := decide_eq_true c4
  clear c4
  obtain rfl := Option.some.inj H
  go_enter Try.func38, Try.ntmps38
  go_wp2
  go_ret
  exact ⟨by first | rfl | (simp; done) | (simp [*]; done), by repeat (first | exact Drawn0.refl _ | apply Drawn0.step)⟩
 ·rw [if_neg c4] at H
  have c4b0 : decide (a1 ≤ a0) = false := decide_eq_false c4
  clear c4
  obtain rfl := Option.some.inj H
  go_enter Try.func38, Try.ntmps38
  go_wp2
  go_ret
  exact ⟨by first | rfl | (simp; done) | (simp [*]; done), by repeat (first | exact Drawn0.refl _ | apply Drawn0.step)⟩

/-! ### prefetch_valid: function 26 -/
def prefetch_valid.j0 : Nat → Int → Bool → Int → Int → Int → Int → Option (Bool)
 | 0, _, _, _, _, _, _ => none
 | k + 1, x2, x33, x102000, x102001, x102002, x102003 => if x33 = true then (some false) else ((prefetch_in.f x102000 0 x2).bind fun t107 => (if t107 = true then ((prefetch_in.f x102002 0 x2).bind fun t108 => (if t108 = true then ((prefetch_in.f x102001 0 64).bind fun t109 => (if t109 = true then ((prefetch_in.f x102003 0 1125899906842623).bind fun t110 => (some t110)) else (some false))) else (some false))) else (some false)))
def prefetch_valid.f (k : Nat) (a0_0 : Int) (a0_1 : Int) (a0_2 : Int) (a0_3 : Int) (a1_0 : Int) (a1_1 : Int) (a2 : Int) (a3 : Int) : Option (Bool) := (prefetch_in.f a2 0 4096).bind fun t103 => (if t103 = true then ((prefetch_in.f a3 0 64).bind fun t104 => (if t104 = true then ((prefetch_in.f a1_0 0 a2).bind fun t105 => (if t105 = true then ((prefetch_in.f a1_1 0 (wrap64 (a2 - a1_0))).bind fun t106 => (prefetch_valid.j0 k a2 (!t106) a0_0 a0_1 a0_2 a0_3)) else (prefetch_valid.j0 k a2 true a0_0 a0_1 a0_2 a0_3))) else (prefetch_valid.j0 k a2 true a0_0 a0_1 a0_2 a0_3))) else (prefetch_valid.j0 k a2 true a0_0 a0_1 a0_2 a0_3))
theorem prefetch_valid.mono_l : ∀ k, (∀ y0 y1 y2 y3 y4 y5, LeO (prefetch_valid.j0 k y0 y1 y2 y3 y4 y5) (prefetch_valid.j0 (k + 1) y0 y1 y2 y3 y4 y5))
 | 0 => fun _ _ _ _ _ _ r h => by simp [prefetch_valid.j0] at h
 | k + 1 => by
  have ih0 := prefetch_valid.mono_l k
  ·intro y0 y1 y2 y3 y4 y5
   unfold prefetch_valid.j0
   repeat' first
   | (with_reducible exact ih0 _ _ _ _ _ _)
   | (with_reducible exact LeO.refl _)
   | (with_reducible exact LeO.none _)
   | (with_reducible refine LeO.ite ?_ ?_)
   | (with_reducible refine LeO.bind ?_ (fun _ => ?_))
   | exact ih0 _ _ _ _ _ _
   | exact LeO.none _
   | refine LeO.ite ?_ ?_
   | refine LeO.bind ?_ (fun _ => ?_)
theorem prefetch_valid.mono : ∀ a0 a1 a2 a3 a4 a5 a6 a7 k, LeO (prefetch_valid.f k a0 a1 a2 a3 a4 a5 a6 a7) (prefetch_valid.f (k + 1) a0 a1 a2 a3 a4 a5 a6 a7) := by
 intro a0 a1 a2 a3 a4 a5 a6 a7 k
 have ih0 := prefetch_valid.mono_l k
 unfold prefetch_valid.f
 repeat' first
   | (with_reducible exact ih0 _ _ _ _ _ _)
   | (with_reducible exact LeO.refl _)
   | (with_reducible exact LeO.none _)
   | (with_reducible refine LeO.ite ?_ ?_)
   | (with_reducible refine LeO.bind ?_ (fun _ => ?_))
   | exact ih0 _ _ _ _ _ _
   | exact LeO.none _
   | refine LeO.ite ?_ ?_
   | refine LeO.bind ?_ (fun _ => ?_)
set_option maxHeartbeats 8000000 in
set_option maxRecDepth 100000 in
theorem prefetch_valid.calls (k : Nat) (a0_0 : Int) (a0_1 : Int) (a0_2 : Int) (a0_3 : Int) (a1_0 : Int) (a1_1 : Int) (a2 : Int) (a3 : Int) (r : Bool) (w : World) (h : prefetch_valid.f k a0_0 a0_1 a0_2 a0_3 a1_0 a1_1 a2 a3 = some r) :
  Calls Try.prog 26 #[.agg #[.int .i64 a0_0, .int .i64 a0_1, .int .i64 a0_2, .int .i64 a0_3], .agg #[.int .i64 a1_0, .int .i64 a1_1], .int .i64 a2, .int .i64 a3] w fun e w' => e = .returned (.bool r) ∧ Below w.heap.size w w' := by
 have hu28 := Try.underlying28
 have hu25 := Try.underlying25
 have HB := am (Below.refl w.heap.size w)
 have H : ((prefetch_in.f a2 0 4096).bind fun t103 => (if t103 = true then ((prefetch_in.f a3 0 64).bind fun t104 => (if t104 = true then ((prefetch_in.f a1_0 0 a2).bind fun t105 => (if t105 = true then ((prefetch_in.f a1_1 0 (wrap64 (a2 - a1_0))).bind fun t106 => (prefetch_valid.j0 k a2 (!t106) a0_0 a0_1 a0_2 a0_3)) else (prefetch_valid.j0 k a2 true a0_0 a0_1 a0_2 a0_3))) else (prefetch_valid.j0 k a2 true a0_0 a0_1 a0_2 a0_3))) else (prefetch_valid.j0 k a2 true a0_0 a0_1 a0_2 a0_3))) = some r := h
 clear h
 have HC5 := am H
 clear H
 go_enter Try.func26, Try.ntmps26
 go_upto_region 1 with (first | ((with_reducible refine gate_dst (N := 4) rfl ?_); refine box_event ?hg (N := 4) ?hd (cs := #[.int .i64 a0_0, .int .i64 a0_1, .int .i64 a0_2, .int .i64 a0_3]) (t := 28) ?hr ?_; (case hd => rfl); (case hg => rfl); (case hr => first | (go_simp; done) | (go_simp; rfl)); intro gb101 hg w6 hbox hb; have n0_ := am (below_step (zB HB) hb); have n1_ := am (hbox); have n2_ := am ((by rw [hg]; exact (below_size (zB HB)) : w.heap.size ≤ gb101)); have n3_ := am ((by rw [hg]; exact (below_size (zB HB)) : w.heap.size ≤ gb101)); clear HB; have HB := n0_; have BK101 := n1_; have GW101 := n2_; have GE101 := n3_; clear n0_ n1_ n2_ n3_; clear hb hbox hg) | ((with_reducible refine gate_dst (N := 5) rfl ?_); refine box_event ?hg (N := 5) ?hd (cs := #[.int .i64 a1_0, .int .i64 a1_1]) (t := 25) ?hr ?_; (case hd => rfl); (case hg => rfl); (case hr => first | (go_simp; done) | (go_simp; rfl)); intro gb102 hg w7 hbox hb; have n0_ := am (blk_below (g := gb101) (o := .cells #[.int .i64 a0_0, .int .i64 a0_1, .int .i64 a0_2, .int .i64 a0_3] 28 (0, 0)) (zL BK101.out) hb); have n1_ := am (below_step (zG HB GE101) hb); have n2_ := am (hbox); have n3_ := am ((by rw [hg]; exact (below_size (zG HB GE101)) : w.heap.size ≤ gb102)); have n4_ := am ((by rw [hg]; exact (below_size (zG HB GE101)) : w.heap.size ≤ gb102)); have n5_ := am ((by rw [hg]; exact Nat.ne_of_lt (blk_lt (g := gb101) (o := .cells #[.int .i64 a0_0, .int .i64 a0_1, .int .i64 a0_2, .int .i64 a0_3] 28 (0, 0)) (zL BK101.out)) : gb101 ≠ gb102)); have n6_ := am ((by rw [hg]; exact Nat.ne_of_gt (blk_lt (g := gb101) (o := .cells #[.int .i64 a0_0, .int .i64 a0_1, .int .i64 a0_2, .int .i64 a0_3] 28 (0, 0)) (zL BK101.out)) : gb102 ≠ gb101)); clear BK101; clear HB; have BK101 := n0_; have HB := n1_; have BK102 := n2_; have GW102 := n3_; have GE102 := n4_; have NB101_102 := n5_; have NB102_101 := n6_; clear n0_ n1_ n2_ n3_ n4_ n5_ n6_; clear hb hbox hg))
 (try simp only [Act.put, List.setIfInBounds_toArray, List.set_cons_zero, List.set_cons_succ])
 go_cut [33] (fun v33 wc => ∃ (kq : Nat) (x33_4 : Bool), v33 = .bool x33_4 ∧ Aside0 (prefetch_valid.j0 kq a2 x33_4 a0_0 a0_1 a0_2 a0_3 = some r) ∧ Aside0 (kq ≤ k) ∧ Aside0 (wc.heap[gb101]? = some (.cells #[.int .i64 a0_0, .int .i64 a0_1, .int .i64 a0_2, .int .i64 a0_3] 28 (0, 0))) ∧ Aside0 (wc.heap[gb102]? = some (.cells #[.int .i64 a1_0, .int .i64 a1_1] 25 (0, 0))) ∧ Aside0 (Below w.heap.size w wc))
 case first =>
  have H := HC5.out
  clear HC5
  replace H := Option.bind_eq_some_iff.mp H
  obtain ⟨t103, A80, H⟩ := H
  replace H : (if t103 = true then ((prefetch_in.f a3 0 64).bind fun t104 => (if t104 = true then ((prefetch_in.f a1_0 0 a2).bind fun t105 => (if t105 = true then ((prefetch_in.f a1_1 0 (wrap64 (a2 - a1_0))).bind fun t106 => (prefetch_valid.j0 k a2 (!t106) a0_0 a0_1 a0_2 a0_3)) else (prefetch_valid.j0 k a2 true a0_0 a0_1 a0_2 a0_3))) else (prefetch_valid.j0 k a2 true a0_0 a0_1 a0_2 a0_3))) else (prefetch_valid.j0 k a2 true a0_0 a0_1 a0_2 a0_3)) = some r := H
  have A8 := am A80
  clear A80
  by_cases c9 : t103 = true
  ·subst c9
   have H1 : ((prefetch_in.f a3 0 64).bind fun t104 => (if t104 = true then ((prefetch_in.f a1_0 0 a2).bind fun t105 => (if t105 = true then ((prefetch_in.f a1_1 0 (wrap64 (a2 - a1_0))).bind fun t106 => (prefetch_valid.j0 k a2 (!t106) a0_0 a0_1 a0_2 a0_3)) else (prefetch_valid.j0 k a2 true a0_0 a0_1 a0_2 a0_3))) else (prefetch_valid.j0 k a2 true a0_0 a0_1 a0_2 a0_3))) = some r := by rw [if_pos rfl] at H; exact H
   clear H
   have H := H1
   clear H1
   replace H := Option.bind_eq_some_iff.mp H
   obtain ⟨t104, A100, H⟩ := H
   replace H : (if t104 = true then ((prefetch_in.f a1_0 0 a2).bind fun t105 => (if t105 = true then ((prefetch_in.f a1_1 0 (wrap64 (a2 - a1_0))).bind fun t106 => (prefetch_valid.j0 k a2 (!t106) a0_0 a0_1 a0_2 a0_3)) else (prefetch_valid.j0 k a2 true a0_0 a0_1 a0_2 a0_3))) else (prefetch_valid.j0 k a2 true a0_0 a0_1 a0_2 a0_3)) = some r := H
   have A10 := am A100
   clear A100
   by_cases c11 : t104 = true
   ·subst c11
    have H1 : ((prefetch_in.f a1_0 0 a2).bind fun t105 => (if t105 = true then ((prefetch_in.f a1_1 0 (wrap64 (a2 - a1_0))).bind fun t106 => (prefetch_valid.j0 k a2 (!t106) a0_0 a0_1 a0_2 a0_3)) else (prefetch_valid.j0 k a2 true a0_0 a0_1 a0_2 a0_3))) = some r := by rw [if_pos rfl] at H; exact H
    clear H
    have H := H1
    clear H1
    replace H := Option.bind_eq_some_iff.mp H
    obtain ⟨t105, A120, H⟩ := H
    replace H : (if t105 = true then ((prefetch_in.f a1_1 0 (wrap64 (a2 - a1_0))).bind fun t106 => (prefetch_valid.j0 k a2 (!t106) a0_0 a0_1 a0_2 a0_3)) else (prefetch_valid.j0 k a2 true a0_0 a0_1 a0_2 a0_3)) = some r := H
    have A12 := am A120
    clear A120
    by_cases c13 : t105 = true
    ·subst c13
     have H1 : ((prefetch_in.f a1_1 0 (wrap64 (a2 - a1_0))).bind fun t106 => (prefetch_valid.j0 k a2 (!t106) a0_0 a0_1 a0_2 a0_3)) = some r := by rw [if_pos rfl] at H; exact H
     clear H
     have H := H1
     clear H1
     replace H := Option.bind_eq_some_iff.mp H
     obtain ⟨t106, A140, H⟩ := H
     replace H : (prefetch_valid.j0 k a2 (!t106) a0_0 a0_1 a0_2 a0_3) = some r := H
     have A14 := am A140
     clear A140
     have H' := am H
     clear H
     go_wp2_with (first | ((with_reducible refine gate_callee (f := 38) rfl ?_); refine goesL_ (some 10) rfl rfl Try.func38 (by kernel_rfl) rfl #[.int .i64 a2, .int .i64 0, .int .i64 4096] rfl zM ?_; (with_reducible refine (prefetch_in.calls a2 0 4096 true _ A8.out).mono ?_); rintro e w' ⟨rfl, ⟨nd, rfl⟩⟩; refine ⟨_, rfl, ?_⟩) | (go_at_call 38; (with_reducible refine (prefetch_in.calls a3 0 64 true _ A10.out).mono ?_); rintro e w' ⟨rfl, ⟨nd, rfl⟩⟩; have hnb15 := NB102_101.out; have hnc15 := NB101_102.out; have hcz16_0 : w7.cell? ⟨gb102, 0, none⟩ = some (.int .i64 a1_0) := (blk_cell BK102.out 0).trans rfl; have hcz16_1 : w7.cell? ⟨gb102, 1, none⟩ = some (.int .i64 a1_1) := (blk_cell BK102.out 1).trans rfl; have hfz16_0 := blk_frozen BK102.out 0; have hfz16_1 := blk_frozen BK102.out 1) | (go_at_call 38; (with_reducible refine (prefetch_in.calls a1_0 0 a2 true _ A12.out).mono ?_); rintro e w' ⟨rfl, ⟨nd, rfl⟩⟩) | (go_at_call 38; (with_reducible refine (prefetch_in.calls a1_1 0 (wrap64 (a2 - a1_0)) t106 _ A14.out).mono ?_); rintro e w' ⟨rfl, ⟨nd, rfl⟩⟩))
     go_meet
     case rel => exact ⟨_, (!t106), zS, H', ⟨by first | omega | exact Nat.le_refl _⟩, ⟨by refine zL ?_; exact BK101.out⟩, ⟨by refine zL ?_; exact BK102.out⟩, ⟨zG2 HB GE101 GE102⟩⟩
    ·replace c13 := Bool.eq_false_iff.mpr c13
     subst c13
     have H1 : (prefetch_valid.j0 k a2 true a0_0 a0_1 a0_2 a0_3) = some r := by rw [if_neg (show ¬ (false = true) by decide)] at H; exact H
     clear H
     have H := H1
     clear H1
     have H' := am H
     clear H
     go_wp2_with (first | ((with_reducible refine gate_callee (f := 38) rfl ?_); refine goesL_ (some 10) rfl rfl Try.func38 (by kernel_rfl) rfl #[.int .i64 a2, .int .i64 0, .int .i64 4096] rfl zM ?_; (with_reducible refine (prefetch_in.calls a2 0 4096 true _ A8.out).mono ?_); rintro e w' ⟨rfl, ⟨nd, rfl⟩⟩; refine ⟨_, rfl, ?_⟩) | (go_at_call 38; (with_reducible refine (prefetch_in.calls a3 0 64 true _ A10.out).mono ?_); rintro e w' ⟨rfl, ⟨nd, rfl⟩⟩; have hnb17 := NB102_101.out; have hnc17 := NB101_102.out; have hcz18_0 : w7.cell? ⟨gb102, 0, none⟩ = some (.int .i64 a1_0) := (blk_cell BK102.out 0).trans rfl; have hcz18_1 : w7.cell? ⟨gb102, 1, none⟩ = some (.int .i64 a1_1) := (blk_cell BK102.out 1).trans rfl; have hfz18_0 := blk_frozen BK102.out 0; have hfz18_1 := blk_frozen BK102.out 1) | (go_at_call 38; (with_reducible refine (prefetch_in.calls a1_0 0 a2 false _ A12.out).mono ?_); rintro e w' ⟨rfl, ⟨nd, rfl⟩⟩))
     go_meet
     case rel => exact ⟨_, (true), zS, H', ⟨by first | omega | exact Nat.le_refl _⟩, ⟨by refine zL ?_; exact BK101.out⟩, ⟨by refine zL ?_; exact BK102.out⟩, ⟨zG2 HB GE101 GE102⟩⟩
   ·replace c11 := Bool.eq_false_iff.mpr c11
    subst c11
    have H1 : (prefetch_valid.j0 k a2 true a0_0 a0_1 a0_2 a0_3) = some r := by rw [if_neg (show ¬ (false = true) by decide)] at H; exact H
    clear H
    have H := H1
    clear H1
    have H' := am H
    clear H
    go_wp2_with (first | ((with_reducible refine gate_callee (f := 38) rfl ?_); refine goesL_ (some 10) rfl rfl Try.func38 (by kernel_rfl) rfl #[.int .i64 a2, .int .i64 0, .int .i64 4096] rfl zM ?_; (with_reducible refine (prefetch_in.calls a2 0 4096 true _ A8.out).mono ?_); rintro e w' ⟨rfl, ⟨nd, rfl⟩⟩; refine ⟨_, rfl, ?_⟩) | (go_at_call 38; (with_reducible refine (prefetch_in.calls a3 0 64 false _ A10.out).mono ?_); rintro e w' ⟨rfl, ⟨nd, rfl⟩⟩))
    go_meet
    case rel => exact ⟨_, (true), zS, H', ⟨by first | omega | exact Nat.le_refl _⟩, ⟨by refine zL ?_; exact BK101.out⟩, ⟨by refine zL ?_; exact BK102.out⟩, ⟨zG2 HB GE101 GE102⟩⟩
  ·replace c9 := Bool.eq_false_iff.mpr c9
   subst c9
   have H1 : (prefetch_valid.j0 k a2 true a0_0 a0_1 a0_2 a0_3) = some r := by rw [if_neg (show ¬ (false = true) by decide)] at H; exact H
   clear H
   have H := H1
   clear H1
   have H' := am H
   clear H
   go_wp2_with (first | ((with_reducible refine gate_callee (f := 38) rfl ?_); refine goesL_ (some 10) rfl rfl Try.func38 (by kernel_rfl) rfl #[.int .i64 a2, .int .i64 0, .int .i64 4096] rfl zM ?_; (with_reducible refine (prefetch_in.calls a2 0 4096 false _ A8.out).mono ?_); rintro e w' ⟨rfl, ⟨nd, rfl⟩⟩; refine ⟨_, rfl, ?_⟩))
   go_meet
   case rel => exact ⟨_, (true), zS, H', ⟨by first | omega | exact Nat.le_refl _⟩, ⟨by refine zL ?_; exact BK101.out⟩, ⟨by refine zL ?_; exact BK102.out⟩, ⟨zG2 HB GE101 GE102⟩⟩
 case rest =>
  clear HC5
  try clear c1
  try clear c2
  try clear p2
  try clear c3
  try clear p6
  try clear c9
  try clear c11
  try clear c13
  try clear c15
  try clear c17
  try clear hcz16_0
  try clear hcz16_1
  try clear hcz18_0
  try clear hcz18_1
  try clear hfz16_0
  try clear hfz16_1
  try clear hfz18_0
  try clear hfz18_1
  obtain ⟨kq, x33_4, rfl, HA, HJ4, BK101, BK102, HB⟩ := hcut
  cases kq with
  | zero => exact absurd HA.out (by simp [prefetch_valid.j0])
  | succ kj4 =>
   have H := HA.out
   clear HA
   simp only [prefetch_valid.j0] at H
   by_cases c19 : x33_4 = true
   ·subst c19
    have H1 : (some false) = some r := by rw [if_pos rfl] at H; exact H
    clear H
    have H := H1
    clear H1
    obtain rfl := Option.some.inj H
    go_wp2
    go_ret
    exact ⟨by first | rfl | (simp [errW_none, errW_some] <;> rfl) | (simp [*, errW_none, errW_some] <;> rfl), zG2 HB GE101 GE102⟩
   ·replace c19 := Bool.eq_false_iff.mpr c19
    subst c19
    have H1 : ((prefetch_in.f a0_0 0 a2).bind fun t107 => (if t107 = true then ((prefetch_in.f a0_2 0 a2).bind fun t108 => (if t108 = true then ((prefetch_in.f a0_1 0 64).bind fun t109 => (if t109 = true then ((prefetch_in.f a0_3 0 1125899906842623).bind fun t110 => (some t110)) else (some false))) else (some false))) else (some false))) = some r := by rw [if_neg (show ¬ (false = true) by decide)] at H; exact H
    clear H
    have H := H1
    clear H1
    replace H := Option.bind_eq_some_iff.mp H
    obtain ⟨t107, A200, H⟩ := H
    replace H : (if t107 = true then ((prefetch_in.f a0_2 0 a2).bind fun t108 => (if t108 = true then ((prefetch_in.f a0_1 0 64).bind fun t109 => (if t109 = true then ((prefetch_in.f a0_3 0 1125899906842623).bind fun t110 => (some t110)) else (some false))) else (some false))) else (some false)) = some r := H
    have A20 := am A200
    clear A200
    by_cases c21 : t107 = true
    ·subst c21
     have H1 : ((prefetch_in.f a0_2 0 a2).bind fun t108 => (if t108 = true then ((prefetch_in.f a0_1 0 64).bind fun t109 => (if t109 = true then ((prefetch_in.f a0_3 0 1125899906842623).bind fun t110 => (some t110)) else (some false))) else (some false))) = some r := by rw [if_pos rfl] at H; exact H
     clear H
     have H := H1
     clear H1
     replace H := Option.bind_eq_some_iff.mp H
     obtain ⟨t108, A220, H⟩ := H
     replace H : (if t108 = true then ((prefetch_in.f a0_1 0 64).bind fun t109 => (if t109 = true then ((prefetch_in.f a0_3 0 1125899906842623).bind fun t110 => (some t110)) else (some false))) else (some false)) = some r := H
     have A22 := am A220
     clear A220
     by_cases c23 : t108 = true
     ·subst c23
      have H1 : ((prefetch_in.f a0_1 0 64).bind fun t109 => (if t109 = true then ((prefetch_in.f a0_3 0 1125899906842623).bind fun t110 => (some t110)) else (some false))) = some r := by rw [if_pos rfl] at H; exact H
      clear H
      have H := H1
      clear H1
      replace H := Option.bind_eq_some_iff.mp H
      obtain ⟨t109, A240, H⟩ := H
      replace H : (if t109 = true then ((prefetch_in.f a0_3 0 1125899906842623).bind fun t110 => (some t110)) else (some false)) = some r := H
      have A24 := am A240
      clear A240
      by_cases c25 : t109 = true
      ·subst c25
       have H1 : ((prefetch_in.f a0_3 0 1125899906842623).bind fun t110 => (some t110)) = some r := by rw [if_pos rfl] at H; exact H
       clear H
       have H := H1
       clear H1
       replace H := Option.bind_eq_some_iff.mp H
       obtain ⟨t110, A260, H⟩ := H
       replace H : (some t110) = some r := H
       have A26 := am A260
       clear A260
       obtain rfl := Option.some.inj H
       have hnb27 := NB101_102.out
       have hnc27 := NB102_101.out
       have hcz28_0 : wc.cell? ⟨gb101, 0, none⟩ = some (.int .i64 a0_0) := (blk_cell BK101.out 0).trans rfl
       have hcz28_1 : wc.cell? ⟨gb101, 1, none⟩ = some (.int .i64 a0_1) := (blk_cell BK101.out 1).trans rfl
       have hcz28_2 : wc.cell? ⟨gb101, 2, none⟩ = some (.int .i64 a0_2) := (blk_cell BK101.out 2).trans rfl
       have hcz28_3 : wc.cell? ⟨gb101, 3, none⟩ = some (.int .i64 a0_3) := (blk_cell BK101.out 3).trans rfl
       have hfz28_0 := blk_frozen BK101.out 0
       have hfz28_1 := blk_frozen BK101.out 1
       have hfz28_2 := blk_frozen BK101.out 2
       have hfz28_3 := blk_frozen BK101.out 3
       go_wp2_with (first | ((with_reducible refine gate_callee (f := 38) rfl ?_); refine goesL_ (some 37) rfl rfl Try.func38 (by kernel_rfl) rfl #[.int .i64 a0_0, .int .i64 0, .int .i64 a2] rfl zM ?_; (with_reducible refine (prefetch_in.calls a0_0 0 a2 true _ A20.out).mono ?_); rintro e w' ⟨rfl, ⟨nd, rfl⟩⟩; refine ⟨_, rfl, ?_⟩) | (go_at_call 38; (with_reducible refine (prefetch_in.calls a0_2 0 a2 true _ A22.out).mono ?_); rintro e w' ⟨rfl, ⟨nd, rfl⟩⟩) | (go_at_call 38; (with_reducible refine (prefetch_in.calls a0_1 0 64 true _ A24.out).mono ?_); rintro e w' ⟨rfl, ⟨nd, rfl⟩⟩) | (go_at_call 38; (with_reducible refine (prefetch_in.calls a0_3 0 1125899906842623 t110 _ A26.out).mono ?_); rintro e w' ⟨rfl, ⟨nd, rfl⟩⟩))
       go_ret
       exact ⟨by first | rfl | (simp [errW_none, errW_some] <;> rfl) | (simp [*, errW_none, errW_some] <;> rfl), zG2 HB GE101 GE102⟩
      ·replace c25 := Bool.eq_false_iff.mpr c25
       subst c25
       have H1 : (some false) = some r := by rw [if_neg (show ¬ (false = true) by decide)] at H; exact H
       clear H
       have H := H1
       clear H1
       obtain rfl := Option.some.inj H
       have hnb29 := NB101_102.out
       have hnc29 := NB102_101.out
       have hcz30_0 : wc.cell? ⟨gb101, 0, none⟩ = some (.int .i64 a0_0) := (blk_cell BK101.out 0).trans rfl
       have hcz30_1 : wc.cell? ⟨gb101, 1, none⟩ = some (.int .i64 a0_1) := (blk_cell BK101.out 1).trans rfl
       have hcz30_2 : wc.cell? ⟨gb101, 2, none⟩ = some (.int .i64 a0_2) := (blk_cell BK101.out 2).trans rfl
       have hcz30_3 : wc.cell? ⟨gb101, 3, none⟩ = some (.int .i64 a0_3) := (blk_cell BK101.out 3).trans rfl
       have hfz30_0 := blk_frozen BK101.out 0
       have hfz30_1 := blk_frozen BK101.out 1
       have hfz30_2 := blk_frozen BK101.out 2
       have hfz30_3 := blk_frozen BK101.out 3
       go_wp2_with (first | ((with_reducible refine gate_callee (f := 38) rfl ?_); refine goesL_ (some 37) rfl rfl Try.func38 (by kernel_rfl) rfl #[.int .i64 a0_0, .int .i64 0, .int .i64 a2] rfl zM ?_; (with_reducible refine (prefetch_in.calls a0_0 0 a2 true _ A20.out).mono ?_); rintro e w' ⟨rfl, ⟨nd, rfl⟩⟩; refine ⟨_, rfl, ?_⟩) | (go_at_call 38; (with_reducible refine (prefetch_in.calls a0_2 0 a2 true _ A22.out).mono ?_); rintro e w' ⟨rfl, ⟨nd, rfl⟩⟩) | (go_at_call 38; (with_reducible refine (prefetch_in.calls a0_1 0 64 false _ A24.out).mono ?_); rintro e w' ⟨rfl, ⟨nd, rfl⟩⟩))
       go_ret
       exact ⟨by first | rfl | (simp [errW_none, errW_some] <;> rfl) | (simp [*, errW_none, errW_some] <;> rfl), zG2 HB GE101 GE102⟩
     ·replace c23 := Bool.eq_false_iff.mpr c23
      subst c23
      have H1 : (some false) = some r := by rw [if_neg (show ¬ (false = true) by decide)] at H; exact H
      clear H
      have H := H1
      clear H1
      obtain rfl := Option.some.inj H
      have hnb31 := NB101_102.out
      have hnc31 := NB102_101.out
      have hcz32_0 : wc.cell? ⟨gb101, 0, none⟩ = some (.int .i64 a0_0) := (blk_cell BK101.out 0).trans rfl
      have hcz32_1 : wc.cell? ⟨gb101, 1, none⟩ = some (.int .i64 a0_1) := (blk_cell BK101.out 1).trans rfl
      have hcz32_2 : wc.cell? ⟨gb101, 2, none⟩ = some (.int .i64 a0_2) := (blk_cell BK101.out 2).trans rfl
      have hcz32_3 : wc.cell? ⟨gb101, 3, none⟩ = some (.int .i64 a0_3) := (blk_cell BK101.out 3).trans rfl
      have hfz32_0 := blk_frozen BK101.out 0
      have hfz32_1 := blk_frozen BK101.out 1
      have hfz32_2 := blk_frozen BK101.out 2
      have hfz32_3 := blk_frozen BK101.out 3
      go_wp2_with (first | ((with_reducible refine gate_callee (f := 38) rfl ?_); refine goesL_ (some 37) rfl rfl Try.func38 (by kernel_rfl) rfl #[.int .i64 a0_0, .int .i64 0, .int .i64 a2] rfl zM ?_; (with_reducible refine (prefetch_in.calls a0_0 0 a2 true _ A20.out).mono ?_); rintro e w' ⟨rfl, ⟨nd, rfl⟩⟩; refine ⟨_, rfl, ?_⟩) | (go_at_call 38; (with_reducible refine (prefetch_in.calls a0_2 0 a2 false _ A22.out).mono ?_); rintro e w' ⟨rfl, ⟨nd, rfl⟩⟩))
      go_ret
      exact ⟨by first | rfl | (simp [errW_none, errW_some] <;> rfl) | (simp [*, errW_none, errW_some] <;> rfl), zG2 HB GE101 GE102⟩
    ·replace c21 := Bool.eq_false_iff.mpr c21
     subst c21
     have H1 : (some false) = some r := by rw [if_neg (show ¬ (false = true) by decide)] at H; exact H
     clear H
     have H := H1
     clear H1
     obtain rfl := Option.some.inj H
     have hnb33 := NB101_102.out
     have hnc33 := NB102_101.out
     have hcz34_0 : wc.cell? ⟨gb101, 0, none⟩ = some (.int .i64 a0_0) := (blk_cell BK101.out 0).trans rfl
     have hcz34_1 : wc.cell? ⟨gb101, 1, none⟩ = some (.int .i64 a0_1) := (blk_cell BK101.out 1).trans rfl
     have hcz34_2 : wc.cell? ⟨gb101, 2, none⟩ = some (.int .i64 a0_2) := (blk_cell BK101.out 2).trans rfl
     have hcz34_3 : wc.cell? ⟨gb101, 3, none⟩ = some (.int .i64 a0_3) := (blk_cell BK101.out 3).trans rfl
     have hfz34_0 := blk_frozen BK101.out 0
     have hfz34_1 := blk_frozen BK101.out 1
     have hfz34_2 := blk_frozen BK101.out 2
     have hfz34_3 := blk_frozen BK101.out 3
     go_wp2_with (first | ((with_reducible refine gate_callee (f := 38) rfl ?_); refine goesL_ (some 37) rfl rfl Try.func38 (by kernel_rfl) rfl #[.int .i64 a0_0, .int .i64 0, .int .i64 a2] rfl zM ?_; (with_reducible refine (prefetch_in.calls a0_0 0 a2 false _ A20.out).mono ?_); rintro e w' ⟨rfl, ⟨nd, rfl⟩⟩; refine ⟨_, rfl, ?_⟩))
     go_ret
     exact ⟨by first | rfl | (simp [errW_none, errW_some] <;> rfl) | (simp [*, errW_none, errW_some] <;> rfl), zG2 HB GE101 GE102⟩

/-! ### prefetch_Read: function 9 -/
def prefetch_Read.j0 : Nat → Int → Int → Int → Int → Int → Int → Int → Option (Int × Int × Int × Int × Int × Int)
 | 0, _, _, _, _, _, _, _ => none
 | k + 1, x2, x10, x12, x117000, x117001, x117002, x117003 => if (mn x2 (wrap64 (x10 + (wrap64 (64 * x117001))))) ≤ x12 then (some (x117000, x117001, mx x12 (mn x2 (wrap64 (x10 + (wrap64 (64 * x117001))))), x117003, 0, 0)) else (some (x117000, x117001, mx x12 (mn x2 (wrap64 (x10 + (wrap64 (64 * x117001))))), x117003, x12, wrap64 ((mn x2 (wrap64 (x10 + (wrap64 (64 * x117001))))) - x12)))
def prefetch_Read.f (k : Nat) (a0_0 : Int) (a0_1 : Int) (a0_2 : Int) (a0_3 : Int) (a1_0 : Int) (a1_1 : Int) (a2 : Int) (a3 : Int) : Option (Int × Int × Int × Int × Int × Int) := (prefetch_valid.f k a0_0 a0_1 a0_2 a0_3 a1_0 a1_1 a2 a3).bind fun t115 => (if t115 = true then (if a1_0 = a0_0 then (prefetch_Read.j0 k a2 (wrap64 (a1_0 + a1_1)) (mx (wrap64 (a1_0 + a1_1)) a0_2) (wrap64 (a1_0 + a1_1)) (mn (mx (wrap64 (2 * a0_1)) 1) a3) 0 (wrap64 (a0_3 + 1))) else (prefetch_Read.j0 k a2 (wrap64 (a1_0 + a1_1)) (wrap64 (a1_0 + a1_1)) (wrap64 (a1_0 + a1_1)) 0 0 1)) else (some (0, 0, 0, 0, 0, 0)))
theorem prefetch_Read.mono_l : ∀ k, (∀ y0 y1 y2 y3 y4 y5 y6, LeO (prefetch_Read.j0 k y0 y1 y2 y3 y4 y5 y6) (prefetch_Read.j0 (k + 1) y0 y1 y2 y3 y4 y5 y6))
 | 0 => fun _ _ _ _ _ _ _ r h => by simp [prefetch_Read.j0] at h
 | k + 1 => by
  have ih0 := prefetch_Read.mono_l k
  ·intro y0 y1 y2 y3 y4 y5 y6
   unfold prefetch_Read.j0
   repeat' first
   | (with_reducible exact ih0 _ _ _ _ _ _ _)
   | (with_reducible exact prefetch_valid.mono _ _ _ _ _ _ _ _ _)
   | (with_reducible exact LeO.refl _)
   | (with_reducible exact LeO.none _)
   | (with_reducible refine LeO.ite ?_ ?_)
   | (with_reducible refine LeO.bind ?_ (fun _ => ?_))
   | exact ih0 _ _ _ _ _ _ _
   | exact prefetch_valid.mono _ _ _ _ _ _ _ _ _
   | exact LeO.none _
   | refine LeO.ite ?_ ?_
   | refine LeO.bind ?_ (fun _ => ?_)
theorem prefetch_Read.mono : ∀ a0 a1 a2 a3 a4 a5 a6 a7 k, LeO (prefetch_Read.f k a0 a1 a2 a3 a4 a5 a6 a7) (prefetch_Read.f (k + 1) a0 a1 a2 a3 a4 a5 a6 a7) := by
 intro a0 a1 a2 a3 a4 a5 a6 a7 k
 have ih0 := prefetch_Read.mono_l k
 unfold prefetch_Read.f
 repeat' first
   | (with_reducible exact ih0 _ _ _ _ _ _ _)
   | (with_reducible exact prefetch_valid.mono _ _ _ _ _ _ _ _ _)
   | (with_reducible exact LeO.refl _)
   | (with_reducible exact LeO.none _)
   | (with_reducible refine LeO.ite ?_ ?_)
   | (with_reducible refine LeO.bind ?_ (fun _ => ?_))
   | exact ih0 _ _ _ _ _ _ _
   | exact prefetch_valid.mono _ _ _ _ _ _ _ _ _
   | exact LeO.none _
   | refine LeO.ite ?_ ?_
   | refine LeO.bind ?_ (fun _ => ?_)
set_option maxHeartbeats 8000000 in
set_option maxRecDepth 100000 in
theorem prefetch_Read.calls (k : Nat) (a0_0 : Int) (a0_1 : Int) (a0_2 : Int) (a0_3 : Int) (a1_0 : Int) (a1_1 : Int) (a2 : Int) (a3 : Int) (r1 : Int) (r2 : Int) (r3 : Int) (r4 : Int) (r5 : Int) (r6 : Int) (w : World) (h : prefetch_Read.f k a0_0 a0_1 a0_2 a0_3 a1_0 a1_1 a2 a3 = some (r1, r2, r3, r4, r5, r6)) :
  Calls Try.prog 9 #[.agg #[.int .i64 a0_0, .int .i64 a0_1, .int .i64 a0_2, .int .i64 a0_3], .agg #[.int .i64 a1_0, .int .i64 a1_1], .int .i64 a2, .int .i64 a3] w fun e w' => e = .returned (.tuple #[.agg #[.int .i64 r1, .int .i64 r2, .int .i64 r3, .int .i64 r4], .agg #[.int .i64 r5, .int .i64 r6]]) ∧ Below w.heap.size w w' := by
 have hu28 := Try.underlying28
 have hu25 := Try.underlying25
 have HB := am (Below.refl w.heap.size w)
 have H : ((prefetch_valid.f k a0_0 a0_1 a0_2 a0_3 a1_0 a1_1 a2 a3).bind fun t115 => (if t115 = true then (if a1_0 = a0_0 then (prefetch_Read.j0 k a2 (wrap64 (a1_0 + a1_1)) (mx (wrap64 (a1_0 + a1_1)) a0_2) (wrap64 (a1_0 + a1_1)) (mn (mx (wrap64 (2 * a0_1)) 1) a3) 0 (wrap64 (a0_3 + 1))) else (prefetch_Read.j0 k a2 (wrap64 (a1_0 + a1_1)) (wrap64 (a1_0 + a1_1)) (wrap64 (a1_0 + a1_1)) 0 0 1)) else (some (0, 0, 0, 0, 0, 0)))) = some (r1, r2, r3, r4, r5, r6) := h
 clear h
 replace H := Option.bind_eq_some_iff.mp H
 obtain ⟨t115, A50, H⟩ := H
 replace H : (if t115 = true then (if a1_0 = a0_0 then (prefetch_Read.j0 k a2 (wrap64 (a1_0 + a1_1)) (mx (wrap64 (a1_0 + a1_1)) a0_2) (wrap64 (a1_0 + a1_1)) (mn (mx (wrap64 (2 * a0_1)) 1) a3) 0 (wrap64 (a0_3 + 1))) else (prefetch_Read.j0 k a2 (wrap64 (a1_0 + a1_1)) (wrap64 (a1_0 + a1_1)) (wrap64 (a1_0 + a1_1)) 0 0 1)) else (some (0, 0, 0, 0, 0, 0))) = some (r1, r2, r3, r4, r5, r6) := H
 have A5 := am A50
 clear A50
 by_cases c6 : t115 = true
 ·subst c6
  have H1 : (if a1_0 = a0_0 then (prefetch_Read.j0 k a2 (wrap64 (a1_0 + a1_1)) (mx (wrap64 (a1_0 + a1_1)) a0_2) (wrap64 (a1_0 + a1_1)) (mn (mx (wrap64 (2 * a0_1)) 1) a3) 0 (wrap64 (a0_3 + 1))) else (prefetch_Read.j0 k a2 (wrap64 (a1_0 + a1_1)) (wrap64 (a1_0 + a1_1)) (wrap64 (a1_0 + a1_1)) 0 0 1)) = some (r1, r2, r3, r4, r5, r6) := by rw [if_pos rfl] at H; exact H
  clear H
  have H := H1
  clear H1
  have HC7 := am H
  clear H
  go_enter Try.func9, Try.ntmps9
  go_upto_if 34 with (first | ((with_reducible refine gate_dst (N := 4) rfl ?_); refine box_event ?hg (N := 4) ?hd (cs := #[.int .i64 a0_0, .int .i64 a0_1, .int .i64 a0_2, .int .i64 a0_3]) (t := 28) ?hr ?_; (case hd => rfl); (case hg => rfl); (case hr => first | (go_simp; done) | (go_simp; rfl)); intro gb111 hg w8 hbox hb; have n0_ := am (below_step (zB HB) hb); have n1_ := am (hbox); have n2_ := am ((by rw [hg]; exact (below_size (zB HB)) : w.heap.size ≤ gb111)); have n3_ := am ((by rw [hg]; exact (below_size (zB HB)) : w.heap.size ≤ gb111)); clear HB; have HB := n0_; have BK111 := n1_; have GW111 := n2_; have GE111 := n3_; clear n0_ n1_ n2_ n3_; clear hb hbox hg) | ((with_reducible refine gate_dst (N := 5) rfl ?_); refine box_event ?hg (N := 5) ?hd (cs := #[.int .i64 a1_0, .int .i64 a1_1]) (t := 25) ?hr ?_; (case hd => rfl); (case hg => rfl); (case hr => first | (go_simp; done) | (go_simp; rfl)); intro gb112 hg w9 hbox hb; have n0_ := am (blk_below (g := gb111) (o := .cells #[.int .i64 a0_0, .int .i64 a0_1, .int .i64 a0_2, .int .i64 a0_3] 28 (0, 0)) (zL BK111.out) hb); have n1_ := am (below_step (zG HB GE111) hb); have n2_ := am (hbox); have n3_ := am ((by rw [hg]; exact (below_size (zG HB GE111)) : w.heap.size ≤ gb112)); have n4_ := am ((by rw [hg]; exact (below_size (zG HB GE111)) : w.heap.size ≤ gb112)); have n5_ := am ((by rw [hg]; exact Nat.ne_of_lt (blk_lt (g := gb111) (o := .cells #[.int .i64 a0_0, .int .i64 a0_1, .int .i64 a0_2, .int .i64 a0_3] 28 (0, 0)) (zL BK111.out)) : gb111 ≠ gb112)); have n6_ := am ((by rw [hg]; exact Nat.ne_of_gt (blk_lt (g := gb111) (o := .cells #[.int .i64 a0_0, .int .i64 a0_1, .int .i64 a0_2, .int .i64 a0_3] 28 (0, 0)) (zL BK111.out)) : gb112 ≠ gb111)); clear BK111; clear HB; have BK111 := n0_; have HB := n1_; have BK112 := n2_; have GW112 := n3_; have GE112 := n4_; have NB111_112 := n5_; have NB112_111 := n6_; clear n0_ n1_ n2_ n3_ n4_ n5_ n6_; clear hb hbox hg) | ((with_reducible refine gate_dst (N := 8) rfl ?_); refine box_event ?hg (N := 8) ?hd (cs := #[.int .i64 0, .int .i64 0, .int .i64 0, .int .i64 0]) (t := 28) ?hr ?_; (case hd => rfl); (case hg => rfl); (case hr => first | (go_simp; done) | (go_simp; rfl)); intro gb113 hg w10 hbox hb; have n0_ := am (blk_below (g := gb111) (o := .cells #[.int .i64 a0_0, .int .i64 a0_1, .int .i64 a0_2, .int .i64 a0_3] 28 (0, 0)) (zL BK111.out) hb); have n1_ := am (blk_below (g := gb112) (o := .cells #[.int .i64 a1_0, .int .i64 a1_1] 25 (0, 0)) (zL BK112.out) hb); have n2_ := am (below_step (zG2 HB GE111 GE112) hb); have n3_ := am (hbox); have n4_ := am ((by rw [hg]; exact (below_size (zG2 HB GE111 GE112)) : w.heap.size ≤ gb113)); have n5_ := am ((by rw [hg]; exact (below_size (zG2 HB GE111 GE112)) : w.heap.size ≤ gb113)); have n6_ := am ((by rw [hg]; exact Nat.ne_of_lt (blk_lt (g := gb111) (o := .cells #[.int .i64 a0_0, .int .i64 a0_1, .int .i64 a0_2, .int .i64 a0_3] 28 (0, 0)) (zL BK111.out)) : gb111 ≠ gb113)); have n7_ := am ((by rw [hg]; exact Nat.ne_of_gt (blk_lt (g := gb111) (o := .cells #[.int .i64 a0_0, .int .i64 a0_1, .int .i64 a0_2, .int .i64 a0_3] 28 (0, 0)) (zL BK111.out)) : gb113 ≠ gb111)); have n8_ := am ((by rw [hg]; exact Nat.ne_of_lt (blk_lt (g := gb112) (o := .cells #[.int .i64 a1_0, .int .i64 a1_1] 25 (0, 0)) (zL BK112.out)) : gb112 ≠ gb113)); have n9_ := am ((by rw [hg]; exact Nat.ne_of_gt (blk_lt (g := gb112) (o := .cells #[.int .i64 a1_0, .int .i64 a1_1] 25 (0, 0)) (zL BK112.out)) : gb113 ≠ gb112)); clear BK111; clear BK112; clear HB; have BK111 := n0_; have BK112 := n1_; have HB := n2_; have BK113 := n3_; have GW113 := n4_; have GE113 := n5_; have NB111_113 := n6_; have NB113_111 := n7_; have NB112_113 := n8_; have NB113_112 := n9_; clear n0_ n1_ n2_ n3_ n4_ n5_ n6_ n7_ n8_ n9_; clear hb hbox hg) | ((with_reducible refine gate_dst (N := 9) rfl ?_); refine box_event ?hg (N := 9) ?hd (cs := #[.int .i64 0, .int .i64 0]) (t := 25) ?hr ?_; (case hd => rfl); (case hg => rfl); (case hr => first | (go_simp; done) | (go_simp; rfl)); intro gb114 hg w11 hbox hb; have n0_ := am (blk_below (g := gb111) (o := .cells #[.int .i64 a0_0, .int .i64 a0_1, .int .i64 a0_2, .int .i64 a0_3] 28 (0, 0)) (zL BK111.out) hb); have n1_ := am (blk_below (g := gb112) (o := .cells #[.int .i64 a1_0, .int .i64 a1_1] 25 (0, 0)) (zL BK112.out) hb); have n2_ := am (blk_below (g := gb113) (o := .cells #[.int .i64 0, .int .i64 0, .int .i64 0, .int .i64 0] 28 (0, 0)) (zL BK113.out) hb); have n3_ := am (below_step (zG3 HB GE111 GE112 GE113) hb); have n4_ := am (hbox); have n5_ := am ((by rw [hg]; exact (below_size (zG3 HB GE111 GE112 GE113)) : w.heap.size ≤ gb114)); have n6_ := am ((by rw [hg]; exact (below_size (zG3 HB GE111 GE112 GE113)) : w.heap.size ≤ gb114)); have n7_ := am ((by rw [hg]; exact Nat.ne_of_lt (blk_lt (g := gb111) (o := .cells #[.int .i64 a0_0, .int .i64 a0_1, .int .i64 a0_2, .int .i64 a0_3] 28 (0, 0)) (zL BK111.out)) : gb111 ≠ gb114)); have n8_ := am ((by rw [hg]; exact Nat.ne_of_gt (blk_lt (g := gb111) (o := .cells #[.int .i64 a0_0, .int .i64 a0_1, .int .i64 a0_2, .int .i64 a0_3] 28 (0, 0)) (zL BK111.out)) : gb114 ≠ gb111)); have n9_ := am ((by rw [hg]; exact Nat.ne_of_lt (blk_lt (g := gb112) (o := .cells #[.int .i64 a1_0, .int .i64 a1_1] 25 (0, 0)) (zL BK112.out)) : gb112 ≠ gb114)); have n10_ := am ((by rw [hg]; exact Nat.ne_of_gt (blk_lt (g := gb112) (o := .cells #[.int .i64 a1_0, .int .i64 a1_1] 25 (0, 0)) (zL BK112.out)) : gb114 ≠ gb112)); have n11_ := am ((by rw [hg]; exact Nat.ne_of_lt (blk_lt (g := gb113) (o := .cells #[.int .i64 0, .int .i64 0, .int .i64 0, .int .i64 0] 28 (0, 0)) (zL BK113.out)) : gb113 ≠ gb114)); have n12_ := am ((by rw [hg]; exact Nat.ne_of_gt (blk_lt (g := gb113) (o := .cells #[.int .i64 0, .int .i64 0, .int .i64 0, .int .i64 0] 28 (0, 0)) (zL BK113.out)) : gb114 ≠ gb113)); clear BK111; clear BK112; clear BK113; clear HB; have BK111 := n0_; have BK112 := n1_; have BK113 := n2_; have HB := n3_; have BK114 := n4_; have GW114 := n5_; have GE114 := n6_; have NB111_114 := n7_; have NB114_111 := n8_; have NB112_114 := n9_; have NB114_112 := n10_; have NB113_114 := n11_; have NB114_113 := n12_; clear n0_ n1_ n2_ n3_ n4_ n5_ n6_ n7_ n8_ n9_ n10_ n11_ n12_; clear hb hbox hg; have hnb12 := NB111_112.out; have hnc12 := NB112_111.out; have hnb13 := NB111_113.out; have hnc13 := NB113_111.out; have hnb14 := NB111_114.out; have hnc14 := NB114_111.out; have hcz15_0 : w11.cell? ⟨gb111, 0, none⟩ = some (.int .i64 a0_0) := (blk_cell BK111.out 0).trans rfl; have hcz15_1 : w11.cell? ⟨gb111, 1, none⟩ = some (.int .i64 a0_1) := (blk_cell BK111.out 1).trans rfl; have hcz15_2 : w11.cell? ⟨gb111, 2, none⟩ = some (.int .i64 a0_2) := (blk_cell BK111.out 2).trans rfl; have hcz15_3 : w11.cell? ⟨gb111, 3, none⟩ = some (.int .i64 a0_3) := (blk_cell BK111.out 3).trans rfl; have hfz15_0 := blk_frozen BK111.out 0; have hfz15_1 := blk_frozen BK111.out 1; have hfz15_2 := blk_frozen BK111.out 2; have hfz15_3 := blk_frozen BK111.out 3; have hnb16 := NB112_113.out; have hnc16 := NB113_112.out; have hnb17 := NB112_114.out; have hnc17 := NB114_112.out; have hcz18_0 : w11.cell? ⟨gb112, 0, none⟩ = some (.int .i64 a1_0) := (blk_cell BK112.out 0).trans rfl; have hcz18_1 : w11.cell? ⟨gb112, 1, none⟩ = some (.int .i64 a1_1) := (blk_cell BK112.out 1).trans rfl; have hfz18_0 := blk_frozen BK112.out 0; have hfz18_1 := blk_frozen BK112.out 1) | ((with_reducible refine gate_callee (f := 26) rfl ?_); refine goesL_ (some 18) rfl rfl Try.func26 (by kernel_rfl) rfl #[.agg #[.int .i64 a0_0, .int .i64 a0_1, .int .i64 a0_2, .int .i64 a0_3], .agg #[.int .i64 a1_0, .int .i64 a1_1], .int .i64 a2, .int .i64 a3] rfl zM ?_; (with_reducible refine (prefetch_valid.calls k a0_0 a0_1 a0_2 a0_3 a1_0 a1_1 a2 a3 true _ A5.out).mono ?_); rintro e w19 ⟨rfl, hb⟩; refine ⟨_, rfl, ?_⟩; have n0_ := am (blk_below (g := gb111) (o := .cells #[.int .i64 a0_0, .int .i64 a0_1, .int .i64 a0_2, .int .i64 a0_3] 28 (0, 0)) (zL BK111.out) hb); have n1_ := am (blk_below (g := gb112) (o := .cells #[.int .i64 a1_0, .int .i64 a1_1] 25 (0, 0)) (zL BK112.out) hb); have n2_ := am (blk_below (g := gb113) (o := .cells #[.int .i64 0, .int .i64 0, .int .i64 0, .int .i64 0] 28 (0, 0)) (zL BK113.out) hb); have n3_ := am (blk_below (g := gb114) (o := .cells #[.int .i64 0, .int .i64 0] 25 (0, 0)) (zL BK114.out) hb); have n4_ := am (below_step (zG4 HB GE111 GE112 GE113 GE114) hb); clear BK111; clear BK112; clear BK113; clear BK114; clear HB; have BK111 := n0_; have BK112 := n1_; have BK113 := n2_; have BK114 := n3_; have HB := n4_; clear n0_ n1_ n2_ n3_ n4_; (try clear hb); (try clear hb2); (try clear hk); (try clear hi); have hcz20_0 : w19.cell? ⟨gb112, 0, none⟩ = some (.int .i64 a1_0) := (blk_cell BK112.out 0).trans rfl; have hcz20_1 : w19.cell? ⟨gb112, 1, none⟩ = some (.int .i64 a1_1) := (blk_cell BK112.out 1).trans rfl; have hfz20_0 := blk_frozen BK112.out 0; have hfz20_1 := blk_frozen BK112.out 1) | ((with_reducible refine gate_dst (N := 11) rfl ?_); refine box_event ?hg (N := 11) ?hd (cs := #[.int .i64 0, .int .i64 0, .int .i64 0, .int .i64 0]) (t := 28) ?hr ?_; (case hd => rfl); (case hg => rfl); (case hr => first | (go_simp; done) | (go_simp; rfl)); intro gb116 hg w21 hbox hb; have n0_ := am (blk_below (g := gb111) (o := .cells #[.int .i64 a0_0, .int .i64 a0_1, .int .i64 a0_2, .int .i64 a0_3] 28 (0, 0)) (zL BK111.out) hb); have n1_ := am (blk_below (g := gb112) (o := .cells #[.int .i64 a1_0, .int .i64 a1_1] 25 (0, 0)) (zL BK112.out) hb); have n2_ := am (blk_below (g := gb113) (o := .cells #[.int .i64 0, .int .i64 0, .int .i64 0, .int .i64 0] 28 (0, 0)) (zL BK113.out) hb); have n3_ := am (blk_below (g := gb114) (o := .cells #[.int .i64 0, .int .i64 0] 25 (0, 0)) (zL BK114.out) hb); have n4_ := am (below_step (zG4 HB GE111 GE112 GE113 GE114) hb); have n5_ := am (hbox); have n6_ := am ((by rw [hg]; exact (below_size (zG4 HB GE111 GE112 GE113 GE114)) : w.heap.size ≤ gb116)); have n7_ := am ((by rw [hg]; exact (below_size (zG4 HB GE111 GE112 GE113 GE114)) : w.heap.size ≤ gb116)); have n8_ := am ((by rw [hg]; exact Nat.ne_of_lt (blk_lt (g := gb111) (o := .cells #[.int .i64 a0_0, .int .i64 a0_1, .int .i64 a0_2, .int .i64 a0_3] 28 (0, 0)) (zL BK111.out)) : gb111 ≠ gb116)); have n9_ := am ((by rw [hg]; exact Nat.ne_of_gt (blk_lt (g := gb111) (o := .cells #[.int .i64 a0_0, .int .i64 a0_1, .int .i64 a0_2, .int .i64 a0_3] 28 (0, 0)) (zL BK111.out)) : gb116 ≠ gb111)); have n10_ := am ((by rw [hg]; exact Nat.ne_of_lt (blk_lt (g := gb112) (o := .cells #[.int .i64 a1_0, .int .i64 a1_1] 25 (0, 0)) (zL BK112.out)) : gb112 ≠ gb116)); have n11_ := am ((by rw [hg]; exact Nat.ne_of_gt (blk_lt (g := gb112) (o := .cells #[.int .i64 a1_0, .int .i64 a1_1] 25 (0, 0)) (zL BK112.out)) : gb116 ≠ gb112)); have n12_ := am ((by rw [hg]; exact Nat.ne_of_lt (blk_lt (g := gb113) (o := .cells #[.int .i64 0, .int .i64 0, .int .i64 0, .int .i64 0] 28 (0, 0)) (zL BK113.out)) : gb113 ≠ gb116)); have n13_ := am ((by rw [hg]; exact Nat.ne_of_gt (blk_lt (g := gb113) (o := .cells #[.int .i64 0, .int .i64 0, .int .i64 0, .int .i64 0] 28 (0, 0)) (zL BK113.out)) : gb116 ≠ gb113)); have n14_ := am ((by rw [hg]; exact Nat.ne_of_lt (blk_lt (g := gb114) (o := .cells #[.int .i64 0, .int .i64 0] 25 (0, 0)) (zL BK114.out)) : gb114 ≠ gb116)); have n15_ := am ((by rw [hg]; exact Nat.ne_of_gt (blk_lt (g := gb114) (o := .cells #[.int .i64 0, .int .i64 0] 25 (0, 0)) (zL BK114.out)) : gb116 ≠ gb114)); clear BK111; clear BK112; clear BK113; clear BK114; clear HB; have BK111 := n0_; have BK112 := n1_; have BK113 := n2_; have BK114 := n3_; have HB := n4_; have BK116 := n5_; have GW116 := n6_; have GE116 := n7_; have NB111_116 := n8_; have NB116_111 := n9_; have NB112_116 := n10_; have NB116_112 := n11_; have NB113_116 := n12_; have NB116_113 := n13_; have NB114_116 := n14_; have NB116_114 := n15_; clear n0_ n1_ n2_ n3_ n4_ n5_ n6_ n7_ n8_ n9_ n10_ n11_ n12_ n13_ n14_ n15_; clear hb hbox hg; have hnb22 := NB116_111.out; have hnc22 := NB111_116.out; have hnb23 := NB116_112.out; have hnc23 := NB112_116.out; have hnb24 := NB116_113.out; have hnc24 := NB113_116.out; have hnb25 := NB116_114.out; have hnc25 := NB114_116.out; have hcz26_0 : w21.cell? ⟨gb116, 0, none⟩ = some (.int .i64 0) := (blk_cell BK116.out 0).trans rfl; have hcz26_1 : w21.cell? ⟨gb116, 1, none⟩ = some (.int .i64 0) := (blk_cell BK116.out 1).trans rfl; have hcz26_2 : w21.cell? ⟨gb116, 2, none⟩ = some (.int .i64 0) := (blk_cell BK116.out 2).trans rfl; have hcz26_3 : w21.cell? ⟨gb116, 3, none⟩ = some (.int .i64 0) := (blk_cell BK116.out 3).trans rfl; have hfz26_0 := blk_frozen BK116.out 0; have hfz26_1 := blk_frozen BK116.out 1; have hfz26_2 := blk_frozen BK116.out 2; have hfz26_3 := blk_frozen BK116.out 3; have hcz27_0 : w21.cell? ⟨gb112, 0, none⟩ = some (.int .i64 a1_0) := (blk_cell BK112.out 0).trans rfl; have hcz27_1 : w21.cell? ⟨gb112, 1, none⟩ = some (.int .i64 a1_1) := (blk_cell BK112.out 1).trans rfl; have hfz27_0 := blk_frozen BK112.out 0; have hfz27_1 := blk_frozen BK112.out 1; have hcz28_0 : w21.cell? ⟨gb111, 0, none⟩ = some (.int .i64 a0_0) := (blk_cell BK111.out 0).trans rfl; have hcz28_1 : w21.cell? ⟨gb111, 1, none⟩ = some (.int .i64 a0_1) := (blk_cell BK111.out 1).trans rfl; have hcz28_2 : w21.cell? ⟨gb111, 2, none⟩ = some (.int .i64 a0_2) := (blk_cell BK111.out 2).trans rfl; have hcz28_3 : w21.cell? ⟨gb111, 3, none⟩ = some (.int .i64 a0_3) := (blk_cell BK111.out 3).trans rfl; have hfz28_0 := blk_frozen BK111.out 0; have hfz28_1 := blk_frozen BK111.out 1; have hfz28_2 := blk_frozen BK111.out 2; have hfz28_3 := blk_frozen BK111.out 3))
  (try simp only [Act.put, List.setIfInBounds_toArray, List.set_cons_zero, List.set_cons_succ])
  go_cut [12] (fun v12 wc => ∃ (kq : Nat) (x12_6 : Int) (x117001_6 : Int) (x117003_6 : Int), v12 = .int .i64 x12_6 ∧ Aside0 (prefetch_Read.j0 kq a2 (wrap64 (a1_0 + a1_1)) x12_6 (wrap64 (a1_0 + a1_1)) x117001_6 0 x117003_6 = some (r1, r2, r3, r4, r5, r6)) ∧ Aside0 (kq ≤ k) ∧ Aside0 (wc.heap[gb111]? = some (.cells #[.int .i64 a0_0, .int .i64 a0_1, .int .i64 a0_2, .int .i64 a0_3] 28 (0, 0))) ∧ Aside0 (wc.heap[gb112]? = some (.cells #[.int .i64 a1_0, .int .i64 a1_1] 25 (0, 0))) ∧ Aside0 (wc.heap[gb113]? = some (.cells #[.int .i64 0, .int .i64 0, .int .i64 0, .int .i64 0] 28 (0, 0))) ∧ Aside0 (wc.heap[gb114]? = some (.cells #[.int .i64 0, .int .i64 0] 25 (0, 0))) ∧ Aside0 (wc.heap[gb116]? = some (.cells #[.int .i64 (wrap64 (a1_0 + a1_1)), .int .i64 x117001_6, .int .i64 0, .int .i64 x117003_6] 28 (0, 0))) ∧ Aside0 (Below w.heap.size w wc))
  case first =>
   have H := HC7.out
   clear HC7
   by_cases c29 : a1_0 = a0_0
   ·rw [if_pos c29] at H
    have c29b0 : (a1_0 == a0_0) = true := beq_iff_eq.mpr c29
    have c29b1 : (a1_0 != a0_0) = false := bne_eq_false_iff_eq.mpr c29
    clear c29
    (first | rw [c29b0] | (simp only [i64_w, i32_w]; rw [c29b0]) | skip)
    obtain ⟨ji30, hji30⟩ : ∃ j_ : Int, (mx (wrap64 (2 * a0_1)) 1) = j_ := ⟨_, rfl⟩
    replace H : (prefetch_Read.j0 k a2 (wrap64 (a1_0 + a1_1)) (mx (wrap64 (a1_0 + a1_1)) a0_2) (wrap64 (a1_0 + a1_1)) (mn (ji30) a3) 0 (wrap64 (a0_3 + 1))) = some (r1, r2, r3, r4, r5, r6) := by first | (rw [hji30] at H; exact H) | (simp only [hji30] at H ⊢; exact H)
    (try (have hji30l : 1 ≤ ji30 := by (rw [← hji30]; unfold mx; (repeat' split) <;> omega)))
    (try (have hji30m : 0 ≤ ji30 := by omega))
    have hji30_ : (if (wrap64 (2 * a0_1)) < 1 then 1 else (wrap64 (2 * a0_1))) = ji30 := hji30
    obtain ⟨ji31, hji31⟩ : ∃ j_ : Int, (mn (ji30) a3) = j_ := ⟨_, rfl⟩
    replace H : (prefetch_Read.j0 k a2 (wrap64 (a1_0 + a1_1)) (mx (wrap64 (a1_0 + a1_1)) a0_2) (wrap64 (a1_0 + a1_1)) ji31 0 (wrap64 (a0_3 + 1))) = some (r1, r2, r3, r4, r5, r6) := by first | (rw [hji31] at H; exact H) | (simp only [hji31] at H ⊢; exact H)
    have hji31_ : (if a3 < (ji30) then a3 else (ji30)) = ji31 := hji31
    obtain ⟨ji32, hji32⟩ : ∃ j_ : Int, (mx (wrap64 (a1_0 + a1_1)) a0_2) = j_ := ⟨_, rfl⟩
    replace H : (prefetch_Read.j0 k a2 (wrap64 (a1_0 + a1_1)) ji32 (wrap64 (a1_0 + a1_1)) ji31 0 (wrap64 (a0_3 + 1))) = some (r1, r2, r3, r4, r5, r6) := by first | (rw [hji32] at H; exact H) | (simp only [hji32] at H ⊢; exact H)
    have hji32_ : (if (wrap64 (a1_0 + a1_1)) < a0_2 then a0_2 else (wrap64 (a1_0 + a1_1))) = ji32 := hji32
    have H' := am H
    clear H
    have hnb33 := NB111_112.out
    have hnc33 := NB112_111.out
    have hnb34 := NB111_113.out
    have hnc34 := NB113_111.out
    have hnb35 := NB111_114.out
    have hnc35 := NB114_111.out
    have hnb36 := NB111_116.out
    have hnc36 := NB116_111.out
    have hcz37_0 : w21.cell? ⟨gb111, 0, none⟩ = some (.int .i64 a0_0) := (blk_cell BK111.out 0).trans rfl
    have hcz37_1 : w21.cell? ⟨gb111, 1, none⟩ = some (.int .i64 a0_1) := (blk_cell BK111.out 1).trans rfl
    have hcz37_2 : w21.cell? ⟨gb111, 2, none⟩ = some (.int .i64 a0_2) := (blk_cell BK111.out 2).trans rfl
    have hcz37_3 : w21.cell? ⟨gb111, 3, none⟩ = some (.int .i64 a0_3) := (blk_cell BK111.out 3).trans rfl
    have hfz37_0 := blk_frozen BK111.out 0
    have hfz37_1 := blk_frozen BK111.out 1
    have hfz37_2 := blk_frozen BK111.out 2
    have hfz37_3 := blk_frozen BK111.out 3
    have hnb38 := NB116_112.out
    have hnc38 := NB112_116.out
    have hnb39 := NB116_113.out
    have hnc39 := NB113_116.out
    have hnb40 := NB116_114.out
    have hnc40 := NB114_116.out
    have hcz41_0 : w21.cell? ⟨gb116, 0, none⟩ = some (.int .i64 0) := (blk_cell BK116.out 0).trans rfl
    have hcz41_1 : w21.cell? ⟨gb116, 1, none⟩ = some (.int .i64 0) := (blk_cell BK116.out 1).trans rfl
    have hcz41_2 : w21.cell? ⟨gb116, 2, none⟩ = some (.int .i64 0) := (blk_cell BK116.out 2).trans rfl
    have hcz41_3 : w21.cell? ⟨gb116, 3, none⟩ = some (.int .i64 0) := (blk_cell BK116.out 3).trans rfl
    have hfz41_0 := blk_frozen BK116.out 0
    have hfz41_1 := blk_frozen BK116.out 1
    have hfz41_2 := blk_frozen BK116.out 2
    have hfz41_3 := blk_frozen BK116.out 3
    go_wp2
    (try simp only [show (Value.int .i64 ji30) = .int .i64 (mx (wrap64 (2 * a0_1)) 1) from by rw [hji30], show (Value.int .i64 ji31) = .int .i64 (mn (ji30) a3) from by rw [hji31], show (Value.int .i64 ji32) = .int .i64 (mx (wrap64 (a1_0 + a1_1)) a0_2) from by rw [hji32]])
    go_meet
    case rel => exact ⟨k, (ji32), (ji31), (wrap64 (a0_3 + 1)), (by first | rfl | (simp; done) | (simp only [← hji32] <;> (first | rfl | simp)) | (simp [*]; done)), (by first | exact H' | (rw [hji30, hji31, hji32]; exact H') | (simp only [hji30, hji31, hji32]; exact H')), ⟨by first | omega | exact Nat.le_refl _⟩, ⟨by refine zL ?_; refine blk_far ?_ NB111_116.out _; refine zL ?_; refine blk_far ?_ NB111_116.out _; refine zL ?_; refine blk_far ?_ NB111_116.out _; refine zL ?_; refine blk_far ?_ NB111_116.out _; refine zL ?_; refine blk_far ?_ NB111_116.out _; refine zL ?_; refine blk_far ?_ NB111_116.out _; refine zL ?_; exact BK111.out⟩, ⟨by refine zL ?_; refine blk_far ?_ NB112_116.out _; refine zL ?_; refine blk_far ?_ NB112_116.out _; refine zL ?_; refine blk_far ?_ NB112_116.out _; refine zL ?_; refine blk_far ?_ NB112_116.out _; refine zL ?_; refine blk_far ?_ NB112_116.out _; refine zL ?_; refine blk_far ?_ NB112_116.out _; refine zL ?_; exact BK112.out⟩, ⟨by refine zL ?_; refine blk_far ?_ NB113_116.out _; refine zL ?_; refine blk_far ?_ NB113_116.out _; refine zL ?_; refine blk_far ?_ NB113_116.out _; refine zL ?_; refine blk_far ?_ NB113_116.out _; refine zL ?_; refine blk_far ?_ NB113_116.out _; refine zL ?_; refine blk_far ?_ NB113_116.out _; refine zL ?_; exact BK113.out⟩, ⟨by refine zL ?_; refine blk_far ?_ NB114_116.out _; refine zL ?_; refine blk_far ?_ NB114_116.out _; refine zL ?_; refine blk_far ?_ NB114_116.out _; refine zL ?_; refine blk_far ?_ NB114_116.out _; refine zL ?_; refine blk_far ?_ NB114_116.out _; refine zL ?_; refine blk_far ?_ NB114_116.out _; refine zL ?_; exact BK114.out⟩, ⟨by refine zL ?_; refine blk_put (cs := #[.int .i64 (wrap64 (a1_0 + a1_1)), .int .i64 0, .int .i64 0, .int .i64 (wrap64 (a0_3 + 1))]) ?_ 1 _ (by first | rfl | (simp only [hji30, hji31, hji32]; done) | (simp only [hji30, hji31, hji32]; rfl)); refine zL ?_; refine blk_put (cs := #[.int .i64 (wrap64 (a1_0 + a1_1)), .int .i64 0, .int .i64 0, .int .i64 1]) ?_ 3 _ (by first | rfl | (simp only [hji30, hji31, hji32]; done) | (simp only [hji30, hji31, hji32]; rfl)); refine zL ?_; refine blk_put (cs := #[.int .i64 (wrap64 (a1_0 + a1_1)), .int .i64 0, .int .i64 0, .int .i64 0]) ?_ 3 _ (by first | rfl | (simp only [hji30, hji31, hji32]; done) | (simp only [hji30, hji31, hji32]; rfl)); refine zL ?_; refine blk_put (cs := #[.int .i64 (wrap64 (a1_0 + a1_1)), .int .i64 0, .int .i64 0, .int .i64 0]) ?_ 2 _ (by first | rfl | (simp only [hji30, hji31, hji32]; done) | (simp only [hji30, hji31, hji32]; rfl)); refine zL ?_; refine blk_put (cs := #[.int .i64 (wrap64 (a1_0 + a1_1)), .int .i64 0, .int .i64 0, .int .i64 0]) ?_ 1 _ (by first | rfl | (simp only [hji30, hji31, hji32]; done) | (simp only [hji30, hji31, hji32]; rfl)); refine zL ?_; refine blk_put (cs := #[.int .i64 0, .int .i64 0, .int .i64 0, .int .i64 0]) ?_ 0 _ (by first | rfl | (simp only [hji30, hji31, hji32]; done) | (simp only [hji30, hji31, hji32]; rfl)); refine zL ?_; exact BK116.out⟩, ⟨zG5 HB GE111 GE112 GE113 GE114 GE116⟩⟩
   ·rw [if_neg c29] at H
    have c29b0 : (a1_0 == a0_0) = false := beq_eq_false_iff_ne.mpr c29
    have c29b1 : (a1_0 != a0_0) = true := bne_iff_ne.mpr c29
    (first | rw [c29b0] | (simp only [i64_w, i32_w]; rw [c29b0]) | skip)
    have H' := am H
    clear H
    go_wp2
    go_meet
    case rel => exact ⟨_, (wrap64 (a1_0 + a1_1)), (0), (1), zS, H', ⟨by first | omega | exact Nat.le_refl _⟩, ⟨by refine zL ?_; refine blk_far ?_ NB111_116.out _; refine zL ?_; refine blk_far ?_ NB111_116.out _; refine zL ?_; refine blk_far ?_ NB111_116.out _; refine zL ?_; refine blk_far ?_ NB111_116.out _; refine zL ?_; exact BK111.out⟩, ⟨by refine zL ?_; refine blk_far ?_ NB112_116.out _; refine zL ?_; refine blk_far ?_ NB112_116.out _; refine zL ?_; refine blk_far ?_ NB112_116.out _; refine zL ?_; refine blk_far ?_ NB112_116.out _; refine zL ?_; exact BK112.out⟩, ⟨by refine zL ?_; refine blk_far ?_ NB113_116.out _; refine zL ?_; refine blk_far ?_ NB113_116.out _; refine zL ?_; refine blk_far ?_ NB113_116.out _; refine zL ?_; refine blk_far ?_ NB113_116.out _; refine zL ?_; exact BK113.out⟩, ⟨by refine zL ?_; refine blk_far ?_ NB114_116.out _; refine zL ?_; refine blk_far ?_ NB114_116.out _; refine zL ?_; refine blk_far ?_ NB114_116.out _; refine zL ?_; refine blk_far ?_ NB114_116.out _; refine zL ?_; exact BK114.out⟩, ⟨by refine zL ?_; refine blk_put (cs := #[.int .i64 (wrap64 (a1_0 + a1_1)), .int .i64 0, .int .i64 0, .int .i64 0]) ?_ 3 _ (by first | rfl | (simp only [hji30, hji31, hji32]; done) | (simp only [hji30, hji31, hji32]; rfl)); refine zL ?_; refine blk_put (cs := #[.int .i64 (wrap64 (a1_0 + a1_1)), .int .i64 0, .int .i64 0, .int .i64 0]) ?_ 2 _ (by first | rfl | (simp only [hji30, hji31, hji32]; done) | (simp only [hji30, hji31, hji32]; rfl)); refine zL ?_; refine blk_put (cs := #[.int .i64 (wrap64 (a1_0 + a1_1)), .int .i64 0, .int .i64 0, .int .i64 0]) ?_ 1 _ (by first | rfl | (simp only [hji30, hji31, hji32]; done) | (simp only [hji30, hji31, hji32]; rfl)); refine zL ?_; refine blk_put (cs := #[.int .i64 0, .int .i64 0, .int .i64 0, .int .i64 0]) ?_ 0 _ (by first | rfl | (simp only [hji30, hji31, hji32]; done) | (simp only [hji30, hji31, hji32]; rfl)); refine zL ?_; exact BK116.out⟩, ⟨zG5 HB GE111 GE112 GE113 GE114 GE116⟩⟩
  case rest =>
   clear HC7
   try clear c1
   try clear c2
   try clear p2
   try clear c3
   try clear c4
   try clear c6
   try clear p6
   try clear c9
   try clear c12
   try clear c13
   try clear c14
   try clear c16
   try clear c17
   try clear c22
   try clear c23
   try clear c24
   try clear c25
   try clear c26
   try clear c29
   try clear c29b0
   try clear c29b1
   try clear c33
   try clear c34
   try clear c35
   try clear c36
   try clear c38
   try clear c39
   try clear c40
   try clear hcz15_0
   try clear hcz15_1
   try clear hcz15_2
   try clear hcz15_3
   try clear hcz18_0
   try clear hcz18_1
   try clear hcz20_0
   try clear hcz20_1
   try clear hcz26_0
   try clear hcz26_1
   try clear hcz26_2
   try clear hcz26_3
   try clear hcz27_0
   try clear hcz27_1
   try clear hcz28_0
   try clear hcz28_1
   try clear hcz28_2
   try clear hcz28_3
   try clear hcz37_0
   try clear hcz37_1
   try clear hcz37_2
   try clear hcz37_3
   try clear hcz41_0
   try clear hcz41_1
   try clear hcz41_2
   try clear hcz41_3
   try clear hfz15_0
   try clear hfz15_1
   try clear hfz15_2
   try clear hfz15_3
   try clear hfz18_0
   try clear hfz18_1
   try clear hfz20_0
   try clear hfz20_1
   try clear hfz26_0
   try clear hfz26_1
   try clear hfz26_2
   try clear hfz26_3
   try clear hfz27_0
   try clear hfz27_1
   try clear hfz28_0
   try clear hfz28_1
   try clear hfz28_2
   try clear hfz28_3
   try clear hfz37_0
   try clear hfz37_1
   try clear hfz37_2
   try clear hfz37_3
   try clear hfz41_0
   try clear hfz41_1
   try clear hfz41_2
   try clear hfz41_3
   obtain ⟨kq, x12_6, x117001_6, x117003_6, rfl, HA, HJ6, BK111, BK112, BK113, BK114, BK116, HB⟩ := hcut
   cases kq with
   | zero => exact absurd HA.out (by simp [prefetch_Read.j0])
   | succ kj6 =>
    have H := HA.out
    clear HA
    simp only [prefetch_Read.j0] at H
    obtain ⟨ji42, hji42⟩ : ∃ j_ : Int, (mn a2 (wrap64 ((wrap64 (a1_0 + a1_1)) + (wrap64 (64 * x117001_6))))) = j_ := ⟨_, rfl⟩
    replace H : (if (ji42) ≤ x12_6 then (some ((wrap64 (a1_0 + a1_1)), x117001_6, mx x12_6 (ji42), x117003_6, 0, 0)) else (some ((wrap64 (a1_0 + a1_1)), x117001_6, mx x12_6 (ji42), x117003_6, x12_6, wrap64 ((ji42) - x12_6)))) = some (r1, r2, r3, r4, r5, r6) := by first | (rw [hji42] at H; exact H) | (simp only [hji42] at H ⊢; exact H)
    have hji42_ : (if (wrap64 ((wrap64 (a1_0 + a1_1)) + (wrap64 (64 * x117001_6)))) < a2 then (wrap64 ((wrap64 (a1_0 + a1_1)) + (wrap64 (64 * x117001_6)))) else a2) = ji42 := hji42
    obtain ⟨ji43, hji43⟩ : ∃ j_ : Int, (mx x12_6 (ji42)) = j_ := ⟨_, rfl⟩
    replace H : (if (ji42) ≤ x12_6 then (some ((wrap64 (a1_0 + a1_1)), x117001_6, ji43, x117003_6, 0, 0)) else (some ((wrap64 (a1_0 + a1_1)), x117001_6, ji43, x117003_6, x12_6, wrap64 ((ji42) - x12_6)))) = some (r1, r2, r3, r4, r5, r6) := by first | (rw [hji43] at H; exact H) | (simp only [hji43] at H ⊢; exact H)
    have hji43_ : (if x12_6 < (ji42) then (ji42) else x12_6) = ji43 := hji43
    by_cases c44 : (ji42) ≤ x12_6
    ·rw [if_pos c44] at H
     have c44b0 : decide ((ji42) ≤ x12_6) = true := decide_eq_true c44
     clear c44
     simp only [Option.some.injEq, Prod.mk.injEq] at H
     obtain ⟨rfl, rfl, rfl, rfl, rfl, rfl⟩ := H
     have hnb45 := NB116_111.out
     have hnc45 := NB111_116.out
     have hnb46 := NB116_112.out
     have hnc46 := NB112_116.out
     have hnb47 := NB116_113.out
     have hnc47 := NB113_116.out
     have hnb48 := NB116_114.out
     have hnc48 := NB114_116.out
     have hcz49_0 : wc.cell? ⟨gb116, 0, none⟩ = some (.int .i64 (wrap64 (a1_0 + a1_1))) := (blk_cell BK116.out 0).trans rfl
     have hcz49_1 : wc.cell? ⟨gb116, 1, none⟩ = some (.int .i64 x117001_6) := (blk_cell BK116.out 1).trans rfl
     have hcz49_2 : wc.cell? ⟨gb116, 2, none⟩ = some (.int .i64 0) := (blk_cell BK116.out 2).trans rfl
     have hcz49_3 : wc.cell? ⟨gb116, 3, none⟩ = some (.int .i64 x117003_6) := (blk_cell BK116.out 3).trans rfl
     have hfz49_0 := blk_frozen BK116.out 0
     have hfz49_1 := blk_frozen BK116.out 1
     have hfz49_2 := blk_frozen BK116.out 2
     have hfz49_3 := blk_frozen BK116.out 3
     have hnb50 := NB113_111.out
     have hnc50 := NB111_113.out
     have hnb51 := NB113_112.out
     have hnc51 := NB112_113.out
     have hnb52 := NB113_114.out
     have hnc52 := NB114_113.out
     have hcz53_0 : wc.cell? ⟨gb113, 0, none⟩ = some (.int .i64 0) := (blk_cell BK113.out 0).trans rfl
     have hcz53_1 : wc.cell? ⟨gb113, 1, none⟩ = some (.int .i64 0) := (blk_cell BK113.out 1).trans rfl
     have hcz53_2 : wc.cell? ⟨gb113, 2, none⟩ = some (.int .i64 0) := (blk_cell BK113.out 2).trans rfl
     have hcz53_3 : wc.cell? ⟨gb113, 3, none⟩ = some (.int .i64 0) := (blk_cell BK113.out 3).trans rfl
     have hfz53_0 := blk_frozen BK113.out 0
     have hfz53_1 := blk_frozen BK113.out 1
     have hfz53_2 := blk_frozen BK113.out 2
     have hfz53_3 := blk_frozen BK113.out 3
     have hnb54 := NB114_111.out
     have hnc54 := NB111_114.out
     have hnb55 := NB114_112.out
     have hnc55 := NB112_114.out
     have hcz56_0 : wc.cell? ⟨gb114, 0, none⟩ = some (.int .i64 0) := (blk_cell BK114.out 0).trans rfl
     have hcz56_1 : wc.cell? ⟨gb114, 1, none⟩ = some (.int .i64 0) := (blk_cell BK114.out 1).trans rfl
     have hfz56_0 := blk_frozen BK114.out 0
     have hfz56_1 := blk_frozen BK114.out 1
     go_wp2
     refine bodyPost_ret (results_cc rfl _ _ gb113 gb114 28 25 #[.int .i64 (wrap64 (a1_0 + a1_1)), .int .i64 x117001_6, .int .i64 ji43, .int .i64 x117003_6] #[.int .i64 0, .int .i64 0] (0, 0) (0, 0) _ _ rfl (by refine zL ?_; refine blk_far ?_ NB113_114.out _; refine zL ?_; refine blk_far ?_ NB113_114.out _; refine zL ?_; refine blk_put (cs := #[.int .i64 (wrap64 (a1_0 + a1_1)), .int .i64 x117001_6, .int .i64 ji43, .int .i64 0]) ?_ 3 _ (by first | rfl | (simp only [hji30, hji31, hji32]; done) | (simp only [hji30, hji31, hji32]; rfl)); refine zL ?_; refine blk_put (cs := #[.int .i64 (wrap64 (a1_0 + a1_1)), .int .i64 x117001_6, .int .i64 0, .int .i64 0]) ?_ 2 _ (by first | rfl | (simp only [hji30, hji31, hji32]; done) | (simp only [hji30, hji31, hji32]; rfl)); refine zL ?_; refine blk_put (cs := #[.int .i64 (wrap64 (a1_0 + a1_1)), .int .i64 0, .int .i64 0, .int .i64 0]) ?_ 1 _ (by first | rfl | (simp only [hji30, hji31, hji32]; done) | (simp only [hji30, hji31, hji32]; rfl)); refine zL ?_; refine blk_put (cs := #[.int .i64 0, .int .i64 0, .int .i64 0, .int .i64 0]) ?_ 0 _ (by first | rfl | (simp only [hji30, hji31, hji32]; done) | (simp only [hji30, hji31, hji32]; rfl)); refine zL ?_; refine blk_far ?_ NB113_116.out _; refine zL ?_; exact BK113.out) Try.underlying28 rfl (by kernel_rfl) rfl (by refine zL ?_; refine blk_put (cs := #[.int .i64 0, .int .i64 0]) ?_ 1 _ (by first | rfl | (simp only [hji30, hji31, hji32]; done) | (simp only [hji30, hji31, hji32]; rfl)); refine zL ?_; refine blk_put (cs := #[.int .i64 0, .int .i64 0]) ?_ 0 _ (by first | rfl | (simp only [hji30, hji31, hji32]; done) | (simp only [hji30, hji31, hji32]; rfl)); refine zL ?_; refine blk_far ?_ NB114_113.out _; refine zL ?_; refine blk_far ?_ NB114_113.out _; refine zL ?_; refine blk_far ?_ NB114_113.out _; refine zL ?_; refine blk_far ?_ NB114_113.out _; refine zL ?_; refine blk_far ?_ NB114_116.out _; refine zL ?_; exact BK114.out) Try.underlying25 rfl (by kernel_rfl)) rfl ?_
     exact ⟨by first | rfl | (simp [errW_none, errW_some] <;> rfl) | (simp only [← hji42, ← hji43]; first | rfl | (simp [errW_none, errW_some] <;> rfl)) | (simp [*, errW_none, errW_some] <;> rfl), zG5 HB GE111 GE112 GE113 GE114 GE116⟩
    ·rw [if_neg c44] at H
     have c44b0 : decide ((ji42) ≤ x12_6) = false := decide_eq_false c44
     clear c44
     simp only [Option.some.injEq, Prod.mk.injEq] at H
     obtain ⟨rfl, rfl, rfl, rfl, rfl, rfl⟩ := H
     have hnb57 := NB116_111.out
     have hnc57 := NB111_116.out
     have hnb58 := NB116_112.out
     have hnc58 := NB112_116.out
     have hnb59 := NB116_113.out
     have hnc59 := NB113_116.out
     have hnb60 := NB116_114.out
     have hnc60 := NB114_116.out
     have hcz61_0 : wc.cell? ⟨gb116, 0, none⟩ = some (.int .i64 (wrap64 (a1_0 + a1_1))) := (blk_cell BK116.out 0).trans rfl
     have hcz61_1 : wc.cell? ⟨gb116, 1, none⟩ = some (.int .i64 x117001_6) := (blk_cell BK116.out 1).trans rfl
     have hcz61_2 : wc.cell? ⟨gb116, 2, none⟩ = some (.int .i64 0) := (blk_cell BK116.out 2).trans rfl
     have hcz61_3 : wc.cell? ⟨gb116, 3, none⟩ = some (.int .i64 x117003_6) := (blk_cell BK116.out 3).trans rfl
     have hfz61_0 := blk_frozen BK116.out 0
     have hfz61_1 := blk_frozen BK116.out 1
     have hfz61_2 := blk_frozen BK116.out 2
     have hfz61_3 := blk_frozen BK116.out 3
     have hnb62 := NB113_111.out
     have hnc62 := NB111_113.out
     have hnb63 := NB113_112.out
     have hnc63 := NB112_113.out
     have hnb64 := NB113_114.out
     have hnc64 := NB114_113.out
     have hcz65_0 : wc.cell? ⟨gb113, 0, none⟩ = some (.int .i64 0) := (blk_cell BK113.out 0).trans rfl
     have hcz65_1 : wc.cell? ⟨gb113, 1, none⟩ = some (.int .i64 0) := (blk_cell BK113.out 1).trans rfl
     have hcz65_2 : wc.cell? ⟨gb113, 2, none⟩ = some (.int .i64 0) := (blk_cell BK113.out 2).trans rfl
     have hcz65_3 : wc.cell? ⟨gb113, 3, none⟩ = some (.int .i64 0) := (blk_cell BK113.out 3).trans rfl
     have hfz65_0 := blk_frozen BK113.out 0
     have hfz65_1 := blk_frozen BK113.out 1
     have hfz65_2 := blk_frozen BK113.out 2
     have hfz65_3 := blk_frozen BK113.out 3
     have hnb66 := NB114_111.out
     have hnc66 := NB111_114.out
     have hnb67 := NB114_112.out
     have hnc67 := NB112_114.out
     have hcz68_0 : wc.cell? ⟨gb114, 0, none⟩ = some (.int .i64 0) := (blk_cell BK114.out 0).trans rfl
     have hcz68_1 : wc.cell? ⟨gb114, 1, none⟩ = some (.int .i64 0) := (blk_cell BK114.out 1).trans rfl
     have hfz68_0 := blk_frozen BK114.out 0
     have hfz68_1 := blk_frozen BK114.out 1
     go_wp2
     refine bodyPost_ret (results_cc rfl _ _ gb113 gb114 28 25 #[.int .i64 (wrap64 (a1_0 + a1_1)), .int .i64 x117001_6, .int .i64 ji43, .int .i64 x117003_6] #[.int .i64 x12_6, .int .i64 (wrap64 ((ji42) - x12_6))] (0, 0) (0, 0) _ _ rfl (by refine zL ?_; refine blk_far ?_ NB113_114.out _; refine zL ?_; refine blk_far ?_ NB113_114.out _; refine zL ?_; refine blk_put (cs := #[.int .i64 (wrap64 (a1_0 + a1_1)), .int .i64 x117001_6, .int .i64 ji43, .int .i64 0]) ?_ 3 _ (by first | rfl | (simp only [hji30, hji31, hji32]; done) | (simp only [hji30, hji31, hji32]; rfl)); refine zL ?_; refine blk_put (cs := #[.int .i64 (wrap64 (a1_0 + a1_1)), .int .i64 x117001_6, .int .i64 0, .int .i64 0]) ?_ 2 _ (by first | rfl | (simp only [hji30, hji31, hji32]; done) | (simp only [hji30, hji31, hji32]; rfl)); refine zL ?_; refine blk_put (cs := #[.int .i64 (wrap64 (a1_0 + a1_1)), .int .i64 0, .int .i64 0, .int .i64 0]) ?_ 1 _ (by first | rfl | (simp only [hji30, hji31, hji32]; done) | (simp only [hji30, hji31, hji32]; rfl)); refine zL ?_; refine blk_put (cs := #[.int .i64 0, .int .i64 0, .int .i64 0, .int .i64 0]) ?_ 0 _ (by first | rfl | (simp only [hji30, hji31, hji32]; done) | (simp only [hji30, hji31, hji32]; rfl)); refine zL ?_; refine blk_far ?_ NB113_116.out _; refine zL ?_; exact BK113.out) Try.underlying28 rfl (by kernel_rfl) rfl (by refine zL ?_; refine blk_put (cs := #[.int .i64 x12_6, .int .i64 0]) ?_ 1 _ (by first | rfl | (simp only [hji30, hji31, hji32]; done) | (simp only [hji30, hji31, hji32]; rfl)); refine zL ?_; refine blk_put (cs := #[.int .i64 0, .int .i64 0]) ?_ 0 _ (by first | rfl | (simp only [hji30, hji31, hji32]; done) | (simp only [hji30, hji31, hji32]; rfl)); refine zL ?_; refine blk_far ?_ NB114_113.out _; refine zL ?_; refine blk_far ?_ NB114_113.out _; refine zL ?_; refine blk_far ?_ NB114_113.out _; refine zL ?_; refine blk_far ?_ NB114_113.out _; refine zL ?_; refine blk_far ?_ NB114_116.out _; refine zL ?_; exact BK114.out) Try.underlying25 rfl (by kernel_rfl)) rfl ?_
     exact ⟨by first | rfl | (simp [errW_none, errW_some] <;> rfl) | (simp only [← hji42, ← hji43]; first | rfl | (simp [errW_none, errW_some] <;> rfl)) | (simp [*, errW_none, errW_some] <;> rfl), zG5 HB GE111 GE112 GE113 GE114 GE116⟩
 ·replace c6 := Bool.eq_false_iff.mpr c6
  subst c6
  have H1 : (some (0, 0, 0, 0, 0, 0)) = some (r1, r2, r3, r4, r5, r6) := by rw [if_neg (show ¬ (false = true) by decide)] at H; exact H
  clear H
  have H := H1
  clear H1
  simp only [Option.some.injEq, Prod.mk.injEq] at H
  obtain ⟨rfl, rfl, rfl, rfl, rfl, rfl⟩ := H
  go_enter Try.func9, Try.ntmps9
  go_wp2_with (first | ((with_reducible refine gate_dst (N := 4) rfl ?_); refine box_event ?hg (N := 4) ?hd (cs := #[.int .i64 a0_0, .int .i64 a0_1, .int .i64 a0_2, .int .i64 a0_3]) (t := 28) ?hr ?_; (case hd => rfl); (case hg => rfl); (case hr => first | (go_simp; done) | (go_simp; rfl)); intro gb111 hg w69 hbox hb; have n0_ := am (below_step (zB HB) hb); have n1_ := am (hbox); have n2_ := am ((by rw [hg]; exact (below_size (zB HB)) : w.heap.size ≤ gb111)); have n3_ := am ((by rw [hg]; exact (below_size (zB HB)) : w.heap.size ≤ gb111)); clear HB; have HB := n0_; have BK111 := n1_; have GW111 := n2_; have GE111 := n3_; clear n0_ n1_ n2_ n3_; clear hb hbox hg) | ((with_reducible refine gate_dst (N := 5) rfl ?_); refine box_event ?hg (N := 5) ?hd (cs := #[.int .i64 a1_0, .int .i64 a1_1]) (t := 25) ?hr ?_; (case hd => rfl); (case hg => rfl); (case hr => first | (go_simp; done) | (go_simp; rfl)); intro gb112 hg w70 hbox hb; have n0_ := am (blk_below (g := gb111) (o := .cells #[.int .i64 a0_0, .int .i64 a0_1, .int .i64 a0_2, .int .i64 a0_3] 28 (0, 0)) (zL BK111.out) hb); have n1_ := am (below_step (zG HB GE111) hb); have n2_ := am (hbox); have n3_ := am ((by rw [hg]; exact (below_size (zG HB GE111)) : w.heap.size ≤ gb112)); have n4_ := am ((by rw [hg]; exact (below_size (zG HB GE111)) : w.heap.size ≤ gb112)); have n5_ := am ((by rw [hg]; exact Nat.ne_of_lt (blk_lt (g := gb111) (o := .cells #[.int .i64 a0_0, .int .i64 a0_1, .int .i64 a0_2, .int .i64 a0_3] 28 (0, 0)) (zL BK111.out)) : gb111 ≠ gb112)); have n6_ := am ((by rw [hg]; exact Nat.ne_of_gt (blk_lt (g := gb111) (o := .cells #[.int .i64 a0_0, .int .i64 a0_1, .int .i64 a0_2, .int .i64 a0_3] 28 (0, 0)) (zL BK111.out)) : gb112 ≠ gb111)); clear BK111; clear HB; have BK111 := n0_; have HB := n1_; have BK112 := n2_; have GW112 := n3_; have GE112 := n4_; have NB111_112 := n5_; have NB112_111 := n6_; clear n0_ n1_ n2_ n3_ n4_ n5_ n6_; clear hb hbox hg) | ((with_reducible refine gate_dst (N := 8) rfl ?_); refine box_event ?hg (N := 8) ?hd (cs := #[.int .i64 0, .int .i64 0, .int .i64 0, .int .i64 0]) (t := 28) ?hr ?_; (case hd => rfl); (case hg => rfl); (case hr => first | (go_simp; done) | (go_simp; rfl)); intro gb113 hg w71 hbox hb; have n0_ := am (blk_below (g := gb111) (o := .cells #[.int .i64 a0_0, .int .i64 a0_1, .int .i64 a0_2, .int .i64 a0_3] 28 (0, 0)) (zL BK111.out) hb); have n1_ := am (blk_below (g := gb112) (o := .cells #[.int .i64 a1_0, .int .i64 a1_1] 25 (0, 0)) (zL BK112.out) hb); have n2_ := am (below_step (zG2 HB GE111 GE112) hb); have n3_ := am (hbox); have n4_ := am ((by rw [hg]; exact (below_size (zG2 HB GE111 GE112)) : w.heap.size ≤ gb113)); have n5_ := am ((by rw [hg]; exact (below_size (zG2 HB GE111 GE112)) : w.heap.size ≤ gb113)); have n6_ := am ((by rw [hg]; exact Nat.ne_of_lt (blk_lt (g := gb111) (o := .cells #[.int .i64 a0_0, .int .i64 a0_1, .int .i64 a0_2, .int .i64 a0_3] 28 (0, 0)) (zL BK111.out)) : gb111 ≠ gb113)); have n7_ := am ((by rw [hg]; exact Nat.ne_of_gt (blk_lt (g := gb111) (o := .cells #[.int .i64 a0_0, .int .i64 a0_1, .int .i64 a0_2, .int .i64 a0_3] 28 (0, 0)) (zL BK111.out)) : gb113 ≠ gb111)); have n8_ := am ((by rw [hg]; exact Nat.ne_of_lt (blk_lt (g := gb112) (o := .cells #[.int .i64 a1_0, .int .i64 a1_1] 25 (0, 0)) (zL BK112.out)) : gb112 ≠ gb113)); have n9_ := am ((by rw [hg]; exact Nat.ne_of_gt (blk_lt (g := gb112) (o := .cells #[.int .i64 a1_0, .int .i64 a1_1] 25 (0, 0)) (zL BK112.out)) : gb113 ≠ gb112)); clear BK111; clear BK112; clear HB; have BK111 := n0_; have BK112 := n1_; have HB := n2_; have BK113 := n3_; have GW113 := n4_; have GE113 := n5_; have NB111_113 := n6_; have NB113_111 := n7_; have NB112_113 := n8_; have NB113_112 := n9_; clear n0_ n1_ n2_ n3_ n4_ n5_ n6_ n7_ n8_ n9_; clear hb hbox hg) | ((with_reducible refine gate_dst (N := 9) rfl ?_); refine box_event ?hg (N := 9) ?hd (cs := #[.int .i64 0, .int .i64 0]) (t := 25) ?hr ?_; (case hd => rfl); (case hg => rfl); (case hr => first | (go_simp; done) | (go_simp; rfl)); intro gb114 hg w72 hbox hb; have n0_ := am (blk_below (g := gb111) (o := .cells #[.int .i64 a0_0, .int .i64 a0_1, .int .i64 a0_2, .int .i64 a0_3] 28 (0, 0)) (zL BK111.out) hb); have n1_ := am (blk_below (g := gb112) (o := .cells #[.int .i64 a1_0, .int .i64 a1_1] 25 (0, 0)) (zL BK112.out) hb); have n2_ := am (blk_below (g := gb113) (o := .cells #[.int .i64 0, .int .i64 0, .int .i64 0, .int .i64 0] 28 (0, 0)) (zL BK113.out) hb); have n3_ := am (below_step (zG3 HB GE111 GE112 GE113) hb); have n4_ := am (hbox); have n5_ := am ((by rw [hg]; exact (below_size (zG3 HB GE111 GE112 GE113)) : w.heap.size ≤ gb114)); have n6_ := am ((by rw [hg]; exact (below_size (zG3 HB GE111 GE112 GE113)) : w.heap.size ≤ gb114)); have n7_ := am ((by rw [hg]; exact Nat.ne_of_lt (blk_lt (g := gb111) (o := .cells #[.int .i64 a0_0, .int .i64 a0_1, .int .i64 a0_2, .int .i64 a0_3] 28 (0, 0)) (zL BK111.out)) : gb111 ≠ gb114)); have n8_ := am ((by rw [hg]; exact Nat.ne_of_gt (blk_lt (g := gb111) (o := .cells #[.int .i64 a0_0, .int .i64 a0_1, .int .i64 a0_2, .int .i64 a0_3] 28 (0, 0)) (zL BK111.out)) : gb114 ≠ gb111)); have n9_ := am ((by rw [hg]; exact Nat.ne_of_lt (blk_lt (g := gb112) (o := .cells #[.int .i64 a1_0, .int .i64 a1_1] 25 (0, 0)) (zL BK112.out)) : gb112 ≠ gb114)); have n10_ := am ((by rw [hg]; exact Nat.ne_of_gt (blk_lt (g := gb112) (o := .cells #[.int .i64 a1_0, .int .i64 a1_1] 25 (0, 0)) (zL BK112.out)) : gb114 ≠ gb112)); have n11_ := am ((by rw [hg]; exact Nat.ne_of_lt (blk_lt (g := gb113) (o := .cells #[.int .i64 0, .int .i64 0, .int .i64 0, .int .i64 0] 28 (0, 0)) (zL BK113.out)) : gb113 ≠ gb114)); have n12_ := am ((by rw [hg]; exact Nat.ne_of_gt (blk_lt (g := gb113) (o := .cells #[.int .i64 0, .int .i64 0, .int .i64 0, .int .i64 0] 28 (0, 0)) (zL BK113.out)) : gb114 ≠ gb113)); clear BK111; clear BK112; clear BK113; clear HB; have BK111 := n0_; have BK112 := n1_; have BK113 := n2_; have HB := n3_; have BK114 := n4_; have GW114 := n5_; have GE114 := n6_; have NB111_114 := n7_; have NB114_111 := n8_; have NB112_114 := n9_; have NB114_112 := n10_; have NB113_114 := n11_; have NB114_113 := n12_; clear n0_ n1_ n2_ n3_ n4_ n5_ n6_ n7_ n8_ n9_ n10_ n11_ n12_; clear hb hbox hg; have hnb73 := NB111_112.out; have hnc73 := NB112_111.out; have hnb74 := NB111_113.out; have hnc74 := NB113_111.out; have hnb75 := NB111_114.out; have hnc75 := NB114_111.out; have hcz76_0 : w72.cell? ⟨gb111, 0, none⟩ = some (.int .i64 a0_0) := (blk_cell BK111.out 0).trans rfl; have hcz76_1 : w72.cell? ⟨gb111, 1, none⟩ = some (.int .i64 a0_1) := (blk_cell BK111.out 1).trans rfl; have hcz76_2 : w72.cell? ⟨gb111, 2, none⟩ = some (.int .i64 a0_2) := (blk_cell BK111.out 2).trans rfl; have hcz76_3 : w72.cell? ⟨gb111, 3, none⟩ = some (.int .i64 a0_3) := (blk_cell BK111.out 3).trans rfl; have hfz76_0 := blk_frozen BK111.out 0; have hfz76_1 := blk_frozen BK111.out 1; have hfz76_2 := blk_frozen BK111.out 2; have hfz76_3 := blk_frozen BK111.out 3; have hnb77 := NB112_113.out; have hnc77 := NB113_112.out; have hnb78 := NB112_114.out; have hnc78 := NB114_112.out; have hcz79_0 : w72.cell? ⟨gb112, 0, none⟩ = some (.int .i64 a1_0) := (blk_cell BK112.out 0).trans rfl; have hcz79_1 : w72.cell? ⟨gb112, 1, none⟩ = some (.int .i64 a1_1) := (blk_cell BK112.out 1).trans rfl; have hfz79_0 := blk_frozen BK112.out 0; have hfz79_1 := blk_frozen BK112.out 1) | ((with_reducible refine gate_callee (f := 26) rfl ?_); refine goesL_ (some 18) rfl rfl Try.func26 (by kernel_rfl) rfl #[.agg #[.int .i64 a0_0, .int .i64 a0_1, .int .i64 a0_2, .int .i64 a0_3], .agg #[.int .i64 a1_0, .int .i64 a1_1], .int .i64 a2, .int .i64 a3] rfl zM ?_; (with_reducible refine (prefetch_valid.calls k a0_0 a0_1 a0_2 a0_3 a1_0 a1_1 a2 a3 false _ A5.out).mono ?_); rintro e w80 ⟨rfl, hb⟩; refine ⟨_, rfl, ?_⟩; have n0_ := am (blk_below (g := gb111) (o := .cells #[.int .i64 a0_0, .int .i64 a0_1, .int .i64 a0_2, .int .i64 a0_3] 28 (0, 0)) (zL BK111.out) hb); have n1_ := am (blk_below (g := gb112) (o := .cells #[.int .i64 a1_0, .int .i64 a1_1] 25 (0, 0)) (zL BK112.out) hb); have n2_ := am (blk_below (g := gb113) (o := .cells #[.int .i64 0, .int .i64 0, .int .i64 0, .int .i64 0] 28 (0, 0)) (zL BK113.out) hb); have n3_ := am (blk_below (g := gb114) (o := .cells #[.int .i64 0, .int .i64 0] 25 (0, 0)) (zL BK114.out) hb); have n4_ := am (below_step (zG4 HB GE111 GE112 GE113 GE114) hb); clear BK111; clear BK112; clear BK113; clear BK114; clear HB; have BK111 := n0_; have BK112 := n1_; have BK113 := n2_; have BK114 := n3_; have HB := n4_; clear n0_ n1_ n2_ n3_ n4_; (try clear hb); (try clear hb2); (try clear hk); (try clear hi); have hnb81 := NB113_114.out; have hnc81 := NB114_113.out; have hcz82_0 : w80.cell? ⟨gb113, 0, none⟩ = some (.int .i64 0) := (blk_cell BK113.out 0).trans rfl; have hcz82_1 : w80.cell? ⟨gb113, 1, none⟩ = some (.int .i64 0) := (blk_cell BK113.out 1).trans rfl; have hcz82_2 : w80.cell? ⟨gb113, 2, none⟩ = some (.int .i64 0) := (blk_cell BK113.out 2).trans rfl; have hcz82_3 : w80.cell? ⟨gb113, 3, none⟩ = some (.int .i64 0) := (blk_cell BK113.out 3).trans rfl; have hfz82_0 := blk_frozen BK113.out 0; have hfz82_1 := blk_frozen BK113.out 1; have hfz82_2 := blk_frozen BK113.out 2; have hfz82_3 := blk_frozen BK113.out 3; have hcz83_0 : w80.cell? ⟨gb114, 0, none⟩ = some (.int .i64 0) := (blk_cell BK114.out 0).trans rfl; have hcz83_1 : w80.cell? ⟨gb114, 1, none⟩ = some (.int .i64 0) := (blk_cell BK114.out 1).trans rfl; have hfz83_0 := blk_frozen BK114.out 0; have hfz83_1 := blk_frozen BK114.out 1))
  refine bodyPost_ret (results_cc rfl _ _ gb113 gb114 28 25 #[.int .i64 0, .int .i64 0, .int .i64 0, .int .i64 0] #[.int .i64 0, .int .i64 0] (0, 0) (0, 0) _ _ rfl (by refine zL ?_; refine blk_far ?_ NB113_114.out _; refine zL ?_; refine blk_far ?_ NB113_114.out _; refine zL ?_; refine blk_put (cs := #[.int .i64 0, .int .i64 0, .int .i64 0, .int .i64 0]) ?_ 3 _ (by first | rfl | (simp only [hji30, hji31, hji32]; done) | (simp only [hji30, hji31, hji32]; rfl)); refine zL ?_; refine blk_put (cs := #[.int .i64 0, .int .i64 0, .int .i64 0, .int .i64 0]) ?_ 2 _ (by first | rfl | (simp only [hji30, hji31, hji32]; done) | (simp only [hji30, hji31, hji32]; rfl)); refine zL ?_; refine blk_put (cs := #[.int .i64 0, .int .i64 0, .int .i64 0, .int .i64 0]) ?_ 1 _ (by first | rfl | (simp only [hji30, hji31, hji32]; done) | (simp only [hji30, hji31, hji32]; rfl)); refine zL ?_; refine blk_put (cs := #[.int .i64 0, .int .i64 0, .int .i64 0, .int .i64 0]) ?_ 0 _ (by first | rfl | (simp only [hji30, hji31, hji32]; done) | (simp only [hji30, hji31, hji32]; rfl)); refine zL ?_; exact BK113.out) Try.underlying28 rfl (by kernel_rfl) rfl (by refine zL ?_; refine blk_put (cs := #[.int .i64 0, .int .i64 0]) ?_ 1 _ (by first | rfl | (simp only [hji30, hji31, hji32]; done) | (simp only [hji30, hji31, hji32]; rfl)); refine zL ?_; refine blk_put (cs := #[.int .i64 0, .int .i64 0]) ?_ 0 _ (by first | rfl | (simp only [hji30, hji31, hji32]; done) | (simp only [hji30, hji31, hji32]; rfl)); refine zL ?_; refine blk_far ?_ NB114_113.out _; refine zL ?_; refine blk_far ?_ NB114_113.out _; refine zL ?_; refine blk_far ?_ NB114_113.out _; refine zL ?_; refine blk_far ?_ NB114_113.out _; refine zL ?_; exact BK114.out) Try.underlying25 rfl (by kernel_rfl)) rfl ?_
  exact ⟨by first | rfl | (simp [errW_none, errW_some] <;> rfl) | (simp [*, errW_none, errW_some] <;> rfl), zG4 HB GE111 GE112 GE113 GE114⟩

/-! ### w36_stream: function 10 -/
def w36_stream.f (a0_0 : Int) (a0_1 : Int) (a0_2 : Int) (a0_3 : Int) : Option (Int × Int × Int × Int) := some (a0_0, a0_1, a0_2, a0_3)
set_option maxHeartbeats 8000000 in
set_option maxRecDepth 100000 in
theorem w36_stream.calls (a0_0 : Int) (a0_1 : Int) (a0_2 : Int) (a0_3 : Int) (r1 : Int) (r2 : Int) (r3 : Int) (r4 : Int) (w : World) (h : w36_stream.f a0_0 a0_1 a0_2 a0_3 = some (r1, r2, r3, r4)) :
  Calls Try.prog 10 #[.agg #[.int .i64 a0_0, .int .i64 a0_1, .int .i64 a0_2, .int .i64 a0_3]] w fun e w' => e = .returned (.agg #[.int .i64 r1, .int .i64 r2, .int .i64 r3, .int .i64 r4]) ∧ Below w.heap.size w w' := by
 have hu23 := Try.underlying23
 have hu28 := Try.underlying28
 have HB := am (Below.refl w.heap.size w)
 have H : (some (a0_0, a0_1, a0_2, a0_3)) = some (r1, r2, r3, r4) := h
 clear h
 simp only [Option.some.injEq, Prod.mk.injEq] at H
 obtain ⟨rfl, rfl, rfl, rfl⟩ := H
 go_enter Try.func10, Try.ntmps10
 go_wp2_with (first | ((with_reducible refine gate_dst (N := 1) rfl ?_); refine box_event ?hg (N := 1) ?hd (cs := #[.int .i64 a0_0, .int .i64 a0_1, .int .i64 a0_2, .int .i64 a0_3]) (t := 23) ?hr ?_; (case hd => rfl); (case hg => rfl); (case hr => first | (go_simp; done) | (go_simp; rfl)); intro gb117 hg w2 hbox hb; have n0_ := am (below_step (zB HB) hb); have n1_ := am (hbox); have n2_ := am ((by rw [hg]; exact (below_size (zB HB)) : w.heap.size ≤ gb117)); have n3_ := am ((by rw [hg]; exact (below_size (zB HB)) : w.heap.size ≤ gb117)); clear HB; have HB := n0_; have BK117 := n1_; have GW117 := n2_; have GE117 := n3_; clear n0_ n1_ n2_ n3_; clear hb hbox hg) | ((with_reducible refine gate_dst (N := 2) rfl ?_); refine box_event ?hg (N := 2) ?hd (cs := #[.int .i64 0, .int .i64 0, .int .i64 0, .int .i64 0]) (t := 28) ?hr ?_; (case hd => rfl); (case hg => rfl); (case hr => first | (go_simp; done) | (go_simp; rfl)); intro gb118 hg w3 hbox hb; have n0_ := am (blk_below (g := gb117) (o := .cells #[.int .i64 a0_0, .int .i64 a0_1, .int .i64 a0_2, .int .i64 a0_3] 23 (0, 0)) (zL BK117.out) hb); have n1_ := am (below_step (zG HB GE117) hb); have n2_ := am (hbox); have n3_ := am ((by rw [hg]; exact (below_size (zG HB GE117)) : w.heap.size ≤ gb118)); have n4_ := am ((by rw [hg]; exact (below_size (zG HB GE117)) : w.heap.size ≤ gb118)); have n5_ := am ((by rw [hg]; exact Nat.ne_of_lt (blk_lt (g := gb117) (o := .cells #[.int .i64 a0_0, .int .i64 a0_1, .int .i64 a0_2, .int .i64 a0_3] 23 (0, 0)) (zL BK117.out)) : gb117 ≠ gb118)); have n6_ := am ((by rw [hg]; exact Nat.ne_of_gt (blk_lt (g := gb117) (o := .cells #[.int .i64 a0_0, .int .i64 a0_1, .int .i64 a0_2, .int .i64 a0_3] 23 (0, 0)) (zL BK117.out)) : gb118 ≠ gb117)); clear BK117; clear HB; have BK117 := n0_; have HB := n1_; have BK118 := n2_; have GW118 := n3_; have GE118 := n4_; have NB117_118 := n5_; have NB118_117 := n6_; clear n0_ n1_ n2_ n3_ n4_ n5_ n6_; clear hb hbox hg; have hnb4 := NB117_118.out; have hnc4 := NB118_117.out; have hcz5_0 : w3.cell? ⟨gb117, 0, none⟩ = some (.int .i64 a0_0) := (blk_cell BK117.out 0).trans rfl; have hcz5_1 : w3.cell? ⟨gb117, 1, none⟩ = some (.int .i64 a0_1) := (blk_cell BK117.out 1).trans rfl; have hcz5_2 : w3.cell? ⟨gb117, 2, none⟩ = some (.int .i64 a0_2) := (blk_cell BK117.out 2).trans rfl; have hcz5_3 : w3.cell? ⟨gb117, 3, none⟩ = some (.int .i64 a0_3) := (blk_cell BK117.out 3).trans rfl; have hfz5_0 := blk_frozen BK117.out 0; have hfz5_1 := blk_frozen BK117.out 1; have hfz5_2 := blk_frozen BK117.out 2; have hfz5_3 := blk_frozen BK117.out 3; have hcz6_0 : w3.cell? ⟨gb118, 0, none⟩ = some (.int .i64 0) := (blk_cell BK118.out 0).trans rfl; have hcz6_1 : w3.cell? ⟨gb118, 1, none⟩ = some (.int .i64 0) := (blk_cell BK118.out 1).trans rfl; have hcz6_2 : w3.cell? ⟨gb118, 2, none⟩ = some (.int .i64 0) := (blk_cell BK118.out 2).trans rfl; have hcz6_3 : w3.cell? ⟨gb118, 3, none⟩ = some (.int .i64 0) := (blk_cell BK118.out 3).trans rfl; have hfz6_0 := blk_frozen BK118.out 0; have hfz6_1 := blk_frozen BK118.out 1; have hfz6_2 := blk_frozen BK118.out 2; have hfz6_3 := blk_frozen BK118.out 3))
 refine bodyPost_ret (results_cell_row rfl _ _ gb118 28 #[.int .i64 a0_0, .int .i64 a0_1, .int .i64 a0_2, .int .i64 a0_3] (0, 0) _ rfl (by refine zL ?_; refine blk_put (cs := #[.int .i64 a0_0, .int .i64 a0_1, .int .i64 a0_2, .int .i64 0]) ?_ 3 _ (by first | rfl | (simp only [hji30, hji31, hji32]; done) | (simp only [hji30, hji31, hji32]; rfl)); refine zL ?_; refine blk_put (cs := #[.int .i64 a0_0, .int .i64 a0_1, .int .i64 0, .int .i64 0]) ?_ 2 _ (by first | rfl | (simp only [hji30, hji31, hji32]; done) | (simp only [hji30, hji31, hji32]; rfl)); refine zL ?_; refine blk_put (cs := #[.int .i64 a0_0, .int .i64 0, .int .i64 0, .int .i64 0]) ?_ 1 _ (by first | rfl | (simp only [hji30, hji31, hji32]; done) | (simp only [hji30, hji31, hji32]; rfl)); refine zL ?_; refine blk_put (cs := #[.int .i64 0, .int .i64 0, .int .i64 0, .int .i64 0]) ?_ 0 _ (by first | rfl | (simp only [hji30, hji31, hji32]; done) | (simp only [hji30, hji31, hji32]; rfl)); refine zL ?_; exact BK118.out) Try.underlying28 rfl (by kernel_rfl)) rfl ?_
 exact ⟨by first | rfl | (simp [errW_none, errW_some] <;> rfl) | (simp [*, errW_none, errW_some] <;> rfl), zG2 HB GE117 GE118⟩

/-! ### r36_in: function 35 -/
def r36_in.f (a0 : Int) (a1 : Int) : Option (Bool) := if a0 ≥ 0 then (some (decide (a0 ≤ a1))) else (some false)
set_option maxHeartbeats 8000000 in
set_option maxRecDepth 100000 in
theorem r36_in.calls (a0 : Int) (a1 : Int) (r : Bool) (w : World) (h : r36_in.f a0 a1 = some r) :
  Calls Try.prog 35 #[.int .i64 a0, .int .i64 a1] w fun e w' => e = .returned (.bool r) ∧ Drawn0 w w' := by
 have H : (if a0 ≥ 0 then (some (decide (a0 ≤ a1))) else (some false)) = some r := h
 clear h
 by_cases c3 : a0 ≥ 0
 ·rw [if_pos c3] at H
  have c3b0 : decide (0 ≤ a0) = true := decide_eq_true c3
  clear c3
  obtain rfl := Option.some.inj H
  go_enter Try.func35, Try.ntmps35
  go_wp2
  go_ret
  exact ⟨by first | rfl | (simp; done) | (simp [*]; done), by repeat (first | exact Drawn0.refl _ | apply Drawn0.step)⟩
 ·rw [if_neg c3] at H
  have c3b0 : decide (0 ≤ a0) = false := decide_eq_false c3
  clear c3
  obtain rfl := Option.some.inj H
  go_enter Try.func35, Try.ntmps35
  go_wp2
  go_ret
  exact ⟨by first | rfl | (simp; done) | (simp [*]; done), by repeat (first | exact Drawn0.refl _ | apply Drawn0.step)⟩

end
end Go.Proofs.Ytapbmkcncjkanaa.P
