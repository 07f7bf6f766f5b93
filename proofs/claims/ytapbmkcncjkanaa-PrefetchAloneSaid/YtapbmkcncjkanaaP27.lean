-- Written by this session's wip/tools/px.py out of the translation. Lean checks it.
import Derived.Test.YtapbmkcncjkanaaP0
import Derived.Test.YtapbmkcncjkanaaP10
import Derived.Test.YtapbmkcncjkanaaAwake
namespace Go.Proofs.Ytapbmkcncjkanaa.P
noncomputable section
open Go.RowKit Go.Proofs.YtapbmkcncjkanaaW.PrintWords Go.Proofs.YtapbmkcncjkanaaW.PrintLast Go.Proofs.YtapbmkcncjkanaaW.PrintMore
attribute [local go_sem] max2_int min2_int max_two min_two max_three min_three max_four min_four   -- for this text's walks alone
set_option linter.unusedVariables false
set_option linter.unusedSimpArgs false

/-! ### tapearchivelaw36_PrefetchAlone: function 7 -/
def tapearchivelaw36_PrefetchAlone.j0 : Nat → Int → Int → Bool → Int → Int → Option (Bool)
 | 0, _, _, _, _, _ => none
 | k + 1, x1, x2, x46, x558000, x558001 => if x46 = true then ((tapearchivelaw36_awake_s.f).bind fun t558 => (some t558)) else ((prefetch_Replay.f k (([(⟨x558000, x558001⟩ : S25)] : List (S25))) x1 x2).bind fun t562 => (if (t562.length : Int) = 1 then (if 0 < (t562.length : Int) then (if ((rd_T25 t562 0).f0) = (wrap64 ((wrap64 (Int.tdiv x558000 64)) * 64)) then (if (wrap64 (((rd_T25 t562 0).f0) + ((rd_T25 t562 0).f1))) = (mn x1 (wrap64 ((wrap64 (Int.tdiv (wrap64 ((wrap64 (x558000 + x558001)) + 63)) 64)) * 64))) then ((prefetch_Waste.f k t562 (([(⟨x558000, x558001⟩ : S25)] : List (S25)))).bind fun t571 => (if t571 = (wrap64 (((rd_T25 t562 0).f1) - x558001)) then ((tapearchivelaw36_awake_s.f).bind fun t573 => (some t573)) else (some false))) else (some false)) else (some false)) else (none)) else (some false)))
def tapearchivelaw36_PrefetchAlone.f (k : Nat) (a0_0 : Int) (a0_1 : Int) (a1 : Int) (a2 : Int) : Option (Bool) := if a1 < 0 then (tapearchivelaw36_PrefetchAlone.j0 k a1 a2 true a0_0 a0_1) else (if a1 > 4096 then (tapearchivelaw36_PrefetchAlone.j0 k a1 a2 true a0_0 a0_1) else (if a2 < 0 then (tapearchivelaw36_PrefetchAlone.j0 k a1 a2 true a0_0 a0_1) else (if a2 > 64 then (tapearchivelaw36_PrefetchAlone.j0 k a1 a2 true a0_0 a0_1) else (if a0_0 < 1 then (tapearchivelaw36_PrefetchAlone.j0 k a1 a2 true a0_0 a0_1) else (if a0_0 > a1 then (tapearchivelaw36_PrefetchAlone.j0 k a1 a2 true a0_0 a0_1) else (if a0_1 < 1 then (tapearchivelaw36_PrefetchAlone.j0 k a1 a2 true a0_0 a0_1) else (tapearchivelaw36_PrefetchAlone.j0 k a1 a2 (decide (a0_1 > (wrap64 (a1 - a0_0)))) a0_0 a0_1)))))))
theorem tapearchivelaw36_PrefetchAlone.mono_l : ∀ k, (∀ y0 y1 y2 y3 y4, LeO (tapearchivelaw36_PrefetchAlone.j0 k y0 y1 y2 y3 y4) (tapearchivelaw36_PrefetchAlone.j0 (k + 1) y0 y1 y2 y3 y4))
 | 0 => fun _ _ _ _ _ r h => by simp [tapearchivelaw36_PrefetchAlone.j0] at h
 | k + 1 => by
  have ih0 := tapearchivelaw36_PrefetchAlone.mono_l k
  ·intro y0 y1 y2 y3 y4
   unfold tapearchivelaw36_PrefetchAlone.j0
   repeat' first
   | (with_reducible exact ih0 _ _ _ _ _)
   | (with_reducible exact prefetch_Replay.mono _ _ _ _)
   | (with_reducible exact prefetch_Waste.mono _ _ _)
   | (with_reducible exact LeO.refl _)
   | (with_reducible exact LeO.none _)
   | (with_reducible refine LeO.ite ?_ ?_)
   | (with_reducible refine LeO.bind ?_ (fun _ => ?_))
   | exact ih0 _ _ _ _ _
   | exact prefetch_Replay.mono _ _ _ _
   | exact prefetch_Waste.mono _ _ _
   | exact LeO.none _
   | refine LeO.ite ?_ ?_
   | refine LeO.bind ?_ (fun _ => ?_)
theorem tapearchivelaw36_PrefetchAlone.mono : ∀ a0 a1 a2 a3 k, LeO (tapearchivelaw36_PrefetchAlone.f k a0 a1 a2 a3) (tapearchivelaw36_PrefetchAlone.f (k + 1) a0 a1 a2 a3) := by
 intro a0 a1 a2 a3 k
 have ih0 := tapearchivelaw36_PrefetchAlone.mono_l k
 unfold tapearchivelaw36_PrefetchAlone.f
 repeat' first
   | (with_reducible exact ih0 _ _ _ _ _)
   | (with_reducible exact prefetch_Replay.mono _ _ _ _)
   | (with_reducible exact prefetch_Waste.mono _ _ _)
   | (with_reducible exact LeO.refl _)
   | (with_reducible exact LeO.none _)
   | (with_reducible refine LeO.ite ?_ ?_)
   | (with_reducible refine LeO.bind ?_ (fun _ => ?_))
   | exact ih0 _ _ _ _ _
   | exact prefetch_Replay.mono _ _ _ _
   | exact prefetch_Waste.mono _ _ _
   | exact LeO.none _
   | refine LeO.ite ?_ ?_
   | refine LeO.bind ?_ (fun _ => ?_)
def tapearchivelaw36_PrefetchAlone.T4 : Bool × List (List Nat × List Nat) := (true, [([], []), ([0], [0]), ([1], [1]), ([2], [2]), ([3], [3]), ([4, 3], [3, 4]), ([5, 3], [3, 5]), ([6, 3], [3, 6]), ([3], [3]), ([8, 3], [3, 8]), ([9, 3], [3, 9]), ([10, 3], [3, 10]), ([7, 11, 3], [3, 7, 11]), ([3, 12], [3, 12]), ([13, 3], [13]), ([14], [14]), ([15, 14], [14, 15]), ([16, 14], [14, 16]), ([17, 14], [14, 17]), ([14], [14]), ([19, 14], [14, 19]), ([20, 14], [14, 20]), ([21, 14], [14, 21]), ([18, 22, 14], [14, 18, 22]), ([14], [14]), ([14], [14]), ([25, 14], [14, 25]), ([14], [14]), ([27, 14], [14, 27]), ([26, 28, 14], [14, 26, 28]), ([29, 14], [14, 29]), ([30, 14], [14, 30]), ([31, 14], [14, 31]), ([24, 32, 14], [14, 24, 32]), ([23, 33, 14], [14, 23, 33]), ([14, 34], [14, 34]), ([35, 14], [35]), ([36], [36]), ([36], [36]), ([38, 36], [36, 38]), ([37, 39, 36, 36], [36, 37, 39]), ([36], [36]), ([41, 36], [36, 41]), ([42, 36], [36, 42]), ([43, 36], [36, 43]), ([36], [36]), ([45, 36], [36, 45]), ([44, 46, 36], [36, 44, 46]), ([40, 47, 36], [36, 40, 47]), ([36, 48], [36, 48]), ([49, 40], [49]), ([50, 50], [50]), ([50, 51], [50, 51]), ([52, 51, 0, 1, 2, 3, 4, 5, 6, 7, 8, 9, 10, 11, 12, 13, 14, 15, 16, 17, 18, 19, 20, 21, 22, 23, 24, 25, 26, 27, 28, 29, 30, 31, 32, 33, 34, 35, 36, 37, 38, 39, 40, 41, 42, 43, 44, 45, 46, 47, 48, 49, 50, 51, 52], [52])])
def tapearchivelaw36_PrefetchAlone.B4 : List Nat := [0, 1, 3, 7, 15, 31, 63, 127, 15, 271, 783, 1807, 4095, 8191, 16383, 32767, 65535, 131071, 262143, 32767, 557055, 1605631, 3702783, 8388607, 32767, 32767, 33587199, 32767, 134250495, 503349247, 1040220159, 2113961983, 4261445631, 8573190143, 17179869183, 34359738367, 68719476735, 137438953471, 137438953471, 412316860415, 1099511627775, 137438953471, 2336462209023, 6734508720127, 15530601742335, 137438953471, 35321811042303, 138675904053247, 281474976710655, 562949953421311, 1125899906842623, 2251799813685247, 4503599627370495, 9007199254740991]
theorem tapearchivelaw36_PrefetchAlone.tab4 : rtab .any (opsOf Try.f7 4) = tapearchivelaw36_PrefetchAlone.T4 := by kernel_rfl
theorem tapearchivelaw36_PrefetchAlone.bits4 : waitsOk tapearchivelaw36_PrefetchAlone.T4.2 tapearchivelaw36_PrefetchAlone.B4 = true := by kernel_rfl
set_option maxHeartbeats 8000000 in
set_option maxRecDepth 100000 in
theorem tapearchivelaw36_PrefetchAlone.calls (k : Nat) (a0_0 : Int) (a0_1 : Int) (a1 : Int) (a2 : Int) (r : Bool) (w : World) (ht_ : Aside0 (r = true)) (h : tapearchivelaw36_PrefetchAlone.f k a0_0 a0_1 a1 a2 = some r) :
  Calls Try.prog 7 #[.agg #[.int .i64 a0_0, .int .i64 a0_1], .int .i64 a1, .int .i64 a2] w fun e w' => e = .returned (.bool r) ∧ Below w.heap.size w w' := by
 have hu25 := Try.underlying25
 have HB := Aside0.mk (Below.refl w.heap.size w)
 have H : (if a1 < 0 then (tapearchivelaw36_PrefetchAlone.j0 k a1 a2 true a0_0 a0_1) else (if a1 > 4096 then (tapearchivelaw36_PrefetchAlone.j0 k a1 a2 true a0_0 a0_1) else (if a2 < 0 then (tapearchivelaw36_PrefetchAlone.j0 k a1 a2 true a0_0 a0_1) else (if a2 > 64 then (tapearchivelaw36_PrefetchAlone.j0 k a1 a2 true a0_0 a0_1) else (if a0_0 < 1 then (tapearchivelaw36_PrefetchAlone.j0 k a1 a2 true a0_0 a0_1) else (if a0_0 > a1 then (tapearchivelaw36_PrefetchAlone.j0 k a1 a2 true a0_0 a0_1) else (if a0_1 < 1 then (tapearchivelaw36_PrefetchAlone.j0 k a1 a2 true a0_0 a0_1) else (tapearchivelaw36_PrefetchAlone.j0 k a1 a2 (decide (a0_1 > (wrap64 (a1 - a0_0)))) a0_0 a0_1)))))))) = some r := h
 clear h
 have HC4 := Aside0.mk H
 clear H
 go_enter Try.func7, Try.ntmps7
 go_upto_region 1 with (first | ((with_reducible refine gate_dst (N := 3) rfl ?_); (try (refine gate_guard (by rfl) ?_; dsimp only)); refine box_event ?hg (N := 3) ?hd (cs := #[.int .i64 a0_0, .int .i64 a0_1]) (t := 25) ?hr ?_; (case hd => rfl); (case hg => rfl); (case hr => first | (go_simp; done) | (go_simp; rfl)); intro gb557 hg w5 hbox hb; have n0_ := Aside0.mk (below_step (zB HB) hb); have n1_ := Aside0.mk (hbox); have n2_ := Aside0.mk ((by rw [hg]; exact (below_size (zB HB)) : w.heap.size ≤ gb557)); have n3_ := Aside0.mk ((by rw [hg]; exact (below_size (zB HB)) : w.heap.size ≤ gb557)); clear HB; have HB := n0_; have BK557 := n1_; have GW557 := n2_; have GE557 := n3_; clear n0_ n1_ n2_ n3_; clear hb hbox hg))
 (try simp only [Act.put, List.setIfInBounds_toArray, List.set_cons_zero, List.set_cons_succ])
 go_cut [46] (fun v46 wc => ∃ (kq : Nat) (x46_3 : Bool), v46 = .bool x46_3 ∧ Aside0 (tapearchivelaw36_PrefetchAlone.j0 kq a1 a2 x46_3 a0_0 a0_1 = some r) ∧ Aside0 (kq ≤ k) ∧ Aside0 (wc.heap[gb557]? = some (.cells #[.int .i64 a0_0, .int .i64 a0_1] 25 (0, 0))) ∧ Aside0 (Below w.heap.size w wc))
 case first =>
  have H := HC4.out
  clear HC4
  by_cases c6 : a1 < 0
  ·rw [if_pos c6] at H
   have c6b0 : decide (a1 < 0) = true := decide_eq_true c6
   clear c6
   (first | rw [c6b0] | (simp only [i64_w, i32_w]; rw [c6b0]) | skip)
   have H' := Aside0.mk H
   clear H
   go_wp2
   go_meet
   case rel => exact ⟨_, (true), zS, H', ⟨by first | omega | exact Nat.le_refl _⟩, ⟨by (with_reducible repeat (first | refine blk_drewN ?_ _ | refine blk_drew ?_ | refine blk_alloc ?_ _)); exact BK557.out⟩, ⟨zG HB GE557⟩⟩
  ·rw [if_neg c6] at H
   have c6b0 : decide (a1 < 0) = false := decide_eq_false c6
   clear c6
   (first | rw [c6b0] | (simp only [i64_w, i32_w]; rw [c6b0]) | skip)
   by_cases c7 : a1 > 4096
   ·rw [if_pos c7] at H
    have c7b0 : decide (4096 < a1) = true := decide_eq_true c7
    clear c7
    have H' := Aside0.mk H
    clear H
    go_wp2
    go_meet
    case rel => exact ⟨_, (true), zS, H', ⟨by first | omega | exact Nat.le_refl _⟩, ⟨by (with_reducible repeat (first | refine blk_drewN ?_ _ | refine blk_drew ?_ | refine blk_alloc ?_ _)); exact BK557.out⟩, ⟨zG HB GE557⟩⟩
   ·rw [if_neg c7] at H
    have c7b0 : decide (4096 < a1) = false := decide_eq_false c7
    clear c7
    by_cases c8 : a2 < 0
    ·rw [if_pos c8] at H
     have c8b0 : decide (a2 < 0) = true := decide_eq_true c8
     clear c8
     have H' := Aside0.mk H
     clear H
     go_wp2
     go_meet
     case rel => exact ⟨_, (true), zS, H', ⟨by first | omega | exact Nat.le_refl _⟩, ⟨by (with_reducible repeat (first | refine blk_drewN ?_ _ | refine blk_drew ?_ | refine blk_alloc ?_ _)); exact BK557.out⟩, ⟨zG HB GE557⟩⟩
    ·rw [if_neg c8] at H
     have c8b0 : decide (a2 < 0) = false := decide_eq_false c8
     clear c8
     by_cases c9 : a2 > 64
     ·rw [if_pos c9] at H
      have c9b0 : decide (64 < a2) = true := decide_eq_true c9
      clear c9
      have H' := Aside0.mk H
      clear H
      go_wp2
      go_meet
      case rel => exact ⟨_, (true), zS, H', ⟨by first | omega | exact Nat.le_refl _⟩, ⟨by (with_reducible repeat (first | refine blk_drewN ?_ _ | refine blk_drew ?_ | refine blk_alloc ?_ _)); exact BK557.out⟩, ⟨zG HB GE557⟩⟩
     ·rw [if_neg c9] at H
      have c9b0 : decide (64 < a2) = false := decide_eq_false c9
      clear c9
      by_cases c10 : a0_0 < 1
      ·rw [if_pos c10] at H
       have c10b0 : decide (a0_0 < 1) = true := decide_eq_true c10
       clear c10
       have H' := Aside0.mk H
       clear H
       have hcz11_0 : w5.cell? ⟨gb557, 0, none⟩ = some (.int .i64 a0_0) := (blk_cell BK557.out 0).trans rfl
       have hcz11_1 : w5.cell? ⟨gb557, 1, none⟩ = some (.int .i64 a0_1) := (blk_cell BK557.out 1).trans rfl
       have hfz11_0 := blk_frozen BK557.out 0
       have hfz11_1 := blk_frozen BK557.out 1
       go_wp2
       go_meet
       case rel => exact ⟨_, (true), zS, H', ⟨by first | omega | exact Nat.le_refl _⟩, ⟨by (with_reducible repeat (first | refine blk_drewN ?_ _ | refine blk_drew ?_ | refine blk_alloc ?_ _)); exact BK557.out⟩, ⟨zG HB GE557⟩⟩
      ·rw [if_neg c10] at H
       have c10b0 : decide (a0_0 < 1) = false := decide_eq_false c10
       clear c10
       by_cases c12 : a0_0 > a1
       ·rw [if_pos c12] at H
        have c12b0 : decide (a1 < a0_0) = true := decide_eq_true c12
        clear c12
        have H' := Aside0.mk H
        clear H
        have hcz13_0 : w5.cell? ⟨gb557, 0, none⟩ = some (.int .i64 a0_0) := (blk_cell BK557.out 0).trans rfl
        have hcz13_1 : w5.cell? ⟨gb557, 1, none⟩ = some (.int .i64 a0_1) := (blk_cell BK557.out 1).trans rfl
        have hfz13_0 := blk_frozen BK557.out 0
        have hfz13_1 := blk_frozen BK557.out 1
        go_wp2
        go_meet
        case rel => exact ⟨_, (true), zS, H', ⟨by first | omega | exact Nat.le_refl _⟩, ⟨by (with_reducible repeat (first | refine blk_drewN ?_ _ | refine blk_drew ?_ | refine blk_alloc ?_ _)); exact BK557.out⟩, ⟨zG HB GE557⟩⟩
       ·rw [if_neg c12] at H
        have c12b0 : decide (a1 < a0_0) = false := decide_eq_false c12
        clear c12
        by_cases c14 : a0_1 < 1
        ·rw [if_pos c14] at H
         have c14b0 : decide (a0_1 < 1) = true := decide_eq_true c14
         clear c14
         have H' := Aside0.mk H
         clear H
         have hcz15_0 : w5.cell? ⟨gb557, 0, none⟩ = some (.int .i64 a0_0) := (blk_cell BK557.out 0).trans rfl
         have hcz15_1 : w5.cell? ⟨gb557, 1, none⟩ = some (.int .i64 a0_1) := (blk_cell BK557.out 1).trans rfl
         have hfz15_0 := blk_frozen BK557.out 0
         have hfz15_1 := blk_frozen BK557.out 1
         go_wp2
         go_meet
         case rel => exact ⟨_, (true), zS, H', ⟨by first | omega | exact Nat.le_refl _⟩, ⟨by (with_reducible repeat (first | refine blk_drewN ?_ _ | refine blk_drew ?_ | refine blk_alloc ?_ _)); exact BK557.out⟩, ⟨zG HB GE557⟩⟩
        ·rw [if_neg c14] at H
         have c14b0 : decide (a0_1 < 1) = false := decide_eq_false c14
         clear c14
         have H' := Aside0.mk H
         clear H
         have hcz16_0 : w5.cell? ⟨gb557, 0, none⟩ = some (.int .i64 a0_0) := (blk_cell BK557.out 0).trans rfl
         have hcz16_1 : w5.cell? ⟨gb557, 1, none⟩ = some (.int .i64 a0_1) := (blk_cell BK557.out 1).trans rfl
         have hfz16_0 := blk_frozen BK557.out 0
         have hfz16_1 := blk_frozen BK557.out 1
         go_wp2
         go_meet
         case rel => exact ⟨_, (decide (a0_1 > (wrap64 (a1 - a0_0)))), zS, H', ⟨by first | omega | exact Nat.le_refl _⟩, ⟨by (with_reducible repeat (first | refine blk_drewN ?_ _ | refine blk_drew ?_ | refine blk_alloc ?_ _)); exact BK557.out⟩, ⟨zG HB GE557⟩⟩
 case rest =>
  clear HC4
  try clear c1
  try clear p2
  try clear c6
  try clear c6b0
  try clear p6
  try clear c7
  try clear c7b0
  try clear c8
  try clear c8b0
  try clear c9
  try clear c9b0
  try clear c10
  try clear c10b0
  try clear c12
  try clear c12b0
  try clear c14
  try clear c14b0
  try clear hcz11_0
  try clear hcz11_1
  try clear hcz13_0
  try clear hcz13_1
  try clear hcz15_0
  try clear hcz15_1
  try clear hcz16_0
  try clear hcz16_1
  try clear hfz11_0
  try clear hfz11_1
  try clear hfz13_0
  try clear hfz13_1
  try clear hfz15_0
  try clear hfz15_1
  try clear hfz16_0
  try clear hfz16_1
  obtain ⟨kq, x46_3, rfl, HA, HJ3, BK557, HB⟩ := hcut
  cases kq with
  | zero => exact absurd HA.out (by simp [tapearchivelaw36_PrefetchAlone.j0])
  | succ kj3 =>
   have H := HA.out
   clear HA
   simp only [tapearchivelaw36_PrefetchAlone.j0] at H
   by_cases c17 : x46_3 = true
   ·subst c17
    have H1 : ((tapearchivelaw36_awake_s.f).bind fun t558 => (some t558)) = some r := by rw [if_pos rfl] at H; exact H
    clear H
    have H := H1
    clear H1
    replace H := Option.bind_eq_some_iff.mp H
    obtain ⟨t558, A180, H⟩ := H
    replace H : (some t558) = some r := H
    have A18 := Aside0.mk A180
    clear A180
    obtain rfl := Option.some.inj H
    go_wp2_with (first | ((with_reducible refine gate_callee (f := 12) rfl ?_); refine goesL_ (some 47) rfl rfl Try.func12 (by kernel_rfl) rfl #[] rfl zM ?_; (with_reducible refine (tapearchivelaw36_awake_s.calls  t558 _ A18.out).mono ?_); rintro e w19 ⟨rfl, hb⟩; refine ⟨_, rfl, ?_⟩; have n0_ := Aside0.mk (blk_below (g := gb557) (o := .cells #[.int .i64 a0_0, .int .i64 a0_1] 25 (0, 0)) (zL BK557.out) hb); have n1_ := Aside0.mk (below_step (zG HB GE557) hb); clear BK557; clear HB; have BK557 := n0_; have HB := n1_; clear n0_ n1_; (try clear hb); (try clear hb2); (try clear hk); (try clear hi)))
    go_ret
    exact ⟨by first | rfl | (simp [errW_none, errW_some] <;> rfl) | (simp [*, errW_none, errW_some] <;> rfl), by repeat (first | (with_reducible first | exact HB.out | apply below_alloc | apply pw_below_drewN | apply below_drew1 | refine below_set ?_ GE557.out) | exact HB.out)⟩
   ·replace c17 := Bool.eq_false_iff.mpr c17
    subst c17
    have H1 : ((prefetch_Replay.f kj3 (([(⟨a0_0, a0_1⟩ : S25)] : List (S25))) a1 a2).bind fun t562 => (if (t562.length : Int) = 1 then (if 0 < (t562.length : Int) then (if ((rd_T25 t562 0).f0) = (wrap64 ((wrap64 (Int.tdiv a0_0 64)) * 64)) then (if (wrap64 (((rd_T25 t562 0).f0) + ((rd_T25 t562 0).f1))) = (mn a1 (wrap64 ((wrap64 (Int.tdiv (wrap64 ((wrap64 (a0_0 + a0_1)) + 63)) 64)) * 64))) then ((prefetch_Waste.f kj3 t562 (([(⟨a0_0, a0_1⟩ : S25)] : List (S25)))).bind fun t571 => (if t571 = (wrap64 (((rd_T25 t562 0).f1) - a0_1)) then ((tapearchivelaw36_awake_s.f).bind fun t573 => (some t573)) else (some false))) else (some false)) else (some false)) else (none)) else (some false))) = some r := by rw [if_neg (show ¬ (false = true) by decide)] at H; exact H
    clear H
    have H := H1
    clear H1
    obtain ⟨y559, hy559⟩ : ∃ y_ : List (S25), y_ = (([(⟨a0_0, a0_1⟩ : S25)] : List (S25))) := ⟨_, rfl⟩
    replace H : ((prefetch_Replay.f kj3 y559 a1 a2).bind fun t562 => (if (t562.length : Int) = 1 then (if 0 < (t562.length : Int) then (if ((rd_T25 t562 0).f0) = (wrap64 ((wrap64 (Int.tdiv a0_0 64)) * 64)) then (if (wrap64 (((rd_T25 t562 0).f0) + ((rd_T25 t562 0).f1))) = (mn a1 (wrap64 ((wrap64 (Int.tdiv (wrap64 ((wrap64 (a0_0 + a0_1)) + 63)) 64)) * 64))) then ((prefetch_Waste.f kj3 t562 (([(⟨a0_0, a0_1⟩ : S25)] : List (S25)))).bind fun t571 => (if t571 = (wrap64 (((rd_T25 t562 0).f1) - a0_1)) then ((tapearchivelaw36_awake_s.f).bind fun t573 => (some t573)) else (some false))) else (some false)) else (some false)) else (none)) else (some false))) = some r := by first | (rw [hy559]; with_reducible exact H) | (have H2_ := (Option.bind_some _ _).symm.trans H; rw [hy559]; with_reducible exact H2_) | (have H2_ := (Option.bind_some _ _).symm.trans H; with_reducible exact H2_) | with_reducible exact H | (rw [hy559]; exact H) | exact H
    have Ny559 := Aside0.mk hy559
    clear hy559
    replace H := Option.bind_eq_some_iff.mp H
    obtain ⟨t562, A200, H⟩ := H
    replace H : (if (t562.length : Int) = 1 then (if 0 < (t562.length : Int) then (if ((rd_T25 t562 0).f0) = (wrap64 ((wrap64 (Int.tdiv a0_0 64)) * 64)) then (if (wrap64 (((rd_T25 t562 0).f0) + ((rd_T25 t562 0).f1))) = (mn a1 (wrap64 ((wrap64 (Int.tdiv (wrap64 ((wrap64 (a0_0 + a0_1)) + 63)) 64)) * 64))) then ((prefetch_Waste.f kj3 t562 (([(⟨a0_0, a0_1⟩ : S25)] : List (S25)))).bind fun t571 => (if t571 = (wrap64 (((rd_T25 t562 0).f1) - a0_1)) then ((tapearchivelaw36_awake_s.f).bind fun t573 => (some t573)) else (some false))) else (some false)) else (some false)) else (none)) else (some false)) = some r := H
    have A20 := Aside0.mk A200
    clear A200
    by_cases c21 : (t562.length : Int) = 1
    ·rw [if_pos c21] at H
     have c21b0 : ((t562.length : Int) == 1) = true := beq_iff_eq.mpr c21
     have c21b1 : ((t562.length : Int) != 1) = false := bne_eq_false_iff_eq.mpr c21
     clear c21
     by_cases c22 : 0 < (t562.length : Int)
     ·rw [if_pos c22] at H
      have c22b0 : decide (0 < (t562.length : Int)) = true := decide_eq_true c22
      have c22b1 : decide (0 < t562.length) = true := decide_eq_true (by omega)
      clear c22
      by_cases c23 : ((rd_T25 t562 0).f0) = (wrap64 ((wrap64 (Int.tdiv a0_0 64)) * 64))
      ·rw [if_pos c23] at H
       have c23b0 : (((rd_T25 t562 0).f0) == (wrap64 ((wrap64 (Int.tdiv a0_0 64)) * 64))) = true := beq_iff_eq.mpr c23
       have c23b1 : (((rd_T25 t562 0).f0) != (wrap64 ((wrap64 (Int.tdiv a0_0 64)) * 64))) = false := bne_eq_false_iff_eq.mpr c23
       clear c23
       obtain ⟨ji24, hji24⟩ : ∃ j_ : Int, (mn a1 (wrap64 ((wrap64 (Int.tdiv (wrap64 ((wrap64 (a0_0 + a0_1)) + 63)) 64)) * 64))) = j_ := ⟨_, rfl⟩
       replace H : (if (wrap64 (((rd_T25 t562 0).f0) + ((rd_T25 t562 0).f1))) = (ji24) then ((prefetch_Waste.f kj3 t562 (([(⟨a0_0, a0_1⟩ : S25)] : List (S25)))).bind fun t571 => (if t571 = (wrap64 (((rd_T25 t562 0).f1) - a0_1)) then ((tapearchivelaw36_awake_s.f).bind fun t573 => (some t573)) else (some false))) else (some false)) = some r := by first | (rw [hji24] at H; exact H) | (simp only [hji24] at H ⊢; exact H)
       (try rw [hji24] at A20)
       have hji24_ : (if (wrap64 ((wrap64 (Int.tdiv (wrap64 ((wrap64 (a0_0 + a0_1)) + 63)) 64)) * 64)) < a1 then (wrap64 ((wrap64 (Int.tdiv (wrap64 ((wrap64 (a0_0 + a0_1)) + 63)) 64)) * 64)) else a1) = ji24 := hji24
       by_cases c25 : (wrap64 (((rd_T25 t562 0).f0) + ((rd_T25 t562 0).f1))) = (ji24)
       ·rw [if_pos c25] at H
        have c25b0 : ((wrap64 (((rd_T25 t562 0).f0) + ((rd_T25 t562 0).f1))) == (ji24)) = true := beq_iff_eq.mpr c25
        have c25b1 : ((wrap64 (((rd_T25 t562 0).f0) + ((rd_T25 t562 0).f1))) != (ji24)) = false := bne_eq_false_iff_eq.mpr c25
        clear c25
        obtain ⟨y568, hy568⟩ : ∃ y_ : List (S25), y_ = (([(⟨a0_0, a0_1⟩ : S25)] : List (S25))) := ⟨_, rfl⟩
        replace H : ((prefetch_Waste.f kj3 t562 y568).bind fun t571 => (if t571 = (wrap64 (((rd_T25 t562 0).f1) - a0_1)) then ((tapearchivelaw36_awake_s.f).bind fun t573 => (some t573)) else (some false))) = some r := by first | (rw [hy568]; with_reducible exact H) | (have H2_ := (Option.bind_some _ _).symm.trans H; rw [hy568]; with_reducible exact H2_) | (have H2_ := (Option.bind_some _ _).symm.trans H; with_reducible exact H2_) | with_reducible exact H | (rw [hy568]; exact H) | exact H
        have Ny568 := Aside0.mk hy568
        clear hy568
        replace H := Option.bind_eq_some_iff.mp H
        obtain ⟨t571, A260, H⟩ := H
        replace H : (if t571 = (wrap64 (((rd_T25 t562 0).f1) - a0_1)) then ((tapearchivelaw36_awake_s.f).bind fun t573 => (some t573)) else (some false)) = some r := H
        have A26 := Aside0.mk A260
        clear A260
        by_cases c27 : t571 = (wrap64 (((rd_T25 t562 0).f1) - a0_1))
        ·rw [if_pos c27] at H
         have c27b0 : (t571 == (wrap64 (((rd_T25 t562 0).f1) - a0_1))) = true := beq_iff_eq.mpr c27
         have c27b1 : (t571 != (wrap64 (((rd_T25 t562 0).f1) - a0_1))) = false := bne_eq_false_iff_eq.mpr c27
         clear c27
         replace H := Option.bind_eq_some_iff.mp H
         obtain ⟨t573, A280, H⟩ := H
         replace H : (some t573) = some r := H
         have A28 := Aside0.mk A280
         clear A280
         obtain rfl := Option.some.inj H
         have hcz29_0 : wc.cell? ⟨gb557, 0, none⟩ = some (.int .i64 a0_0) := (blk_cell BK557.out 0).trans rfl
         have hcz29_1 : wc.cell? ⟨gb557, 1, none⟩ = some (.int .i64 a0_1) := (blk_cell BK557.out 1).trans rfl
         have hfz29_0 := blk_frozen BK557.out 0
         have hfz29_1 := blk_frozen BK557.out 1
         try go_wp2_with (first | ((with_reducible refine gate_dst (N := 49) rfl ?_); (try (refine gate_guard (by rfl) ?_; dsimp only)); refine Kd.R_lit k25 _ 25 ?hg (N := 49) ?hd (xs := ([(⟨a0_0, a0_1⟩ : S25)] : List (S25))) (inner := [.int .i64 a0_0, .int .i64 a0_1]) (ok := fun _ => True) (okp := fun _ => True) ?hr ?hp (fun _ hk => hk) trivial (Below.refl _ _) (Nat.le_refl _) (by simp) ?_; (case hd => rfl); (case hg => rfl); (case hr => first | (go_simp; done) | (go_simp; rfl)); (case hp => exact (Reps.c2 (show Kd.M k25 _ _ _ (⟨a0_0, a0_1⟩ : S25) [.int .i64 a0_0, .int .i64 a0_1] from (k25_mkM _ _ _ (⟨a0_0, a0_1⟩ : S25) )) (Reps.none _ _))); intro v560 w30 ho31 hb hg_ hnew_; clear hg_ hnew_; (first | rw [← Ny559.out] at ho31 | (simp only [Int.reduceToNat] at ho31; rw [← Ny559.out] at ho31)); have n0_ := Aside0.mk (Kd.R_lower (Kd.R_newB ho31 (g := gb557) (o := .cells #[.int .i64 a0_0, .int .i64 a0_1] 25 (0, 0)) (zL BK557.out)) (below_size (zG HB GE557))); have n1_ := Aside0.mk (blk_below (g := gb557) (o := .cells #[.int .i64 a0_0, .int .i64 a0_1] 25 (0, 0)) (zL BK557.out) hb); have n2_ := Aside0.mk (below_step (zG HB GE557) hb); clear BK557; clear HB; have HO561 := n0_; have BK557 := n1_; have HB := n2_; clear n0_ n1_ n2_; clear hb ho31; obtain ⟨Ao32, co32, eo32⟩ := Kd.R_slice HO561.out; subst eo32) | ((with_reducible refine gate_callee (f := 19) rfl ?_); refine goesL_ (some 52) rfl rfl Try.func19 (by kernel_rfl) rfl #[.slice Ao32 y559.length co32, .int .i64 a1, .int .i64 a2] rfl zM ?_; (with_reducible refine (prefetch_Replay.calls kj3 _ _ y559 a1 a2 t562 _ ?side1 ?side2 A20.out).mono ?_); (case side1 => exact zC (Kd.R_reads' HO561.out).2.2); (case side2 => exact (Kd.R_reads' HO561.out).2.1); rintro e w33 ⟨v563, rfl, ho0, hb⟩; refine ⟨_, rfl, ?_⟩; have n0_ := Aside0.mk (Kd.R_elder' (zR HO561.out) (Kd.R_base ho0) hb); have n1_ := Aside0.mk (Kd.R_lower (Kd.R_newB (Kd.R_new' ho0 (Kd.R_lt (zR HO561.out))) (g := gb557) (o := .cells #[.int .i64 a0_0, .int .i64 a0_1] 25 (0, 0)) (zL BK557.out)) (below_size (zG HB GE557))); have n2_ := Aside0.mk (blk_below (g := gb557) (o := .cells #[.int .i64 a0_0, .int .i64 a0_1] 25 (0, 0)) (zL BK557.out) hb); have n3_ := Aside0.mk (below_step (zG HB GE557) hb); clear HO561; clear BK557; clear HB; have HO561 := n0_; have HO564 := n1_; have BK557 := n2_; have HB := n3_; clear n0_ n1_ n2_ n3_; (try clear hb); (try clear hb2); (try clear hk); (try clear hi); (try clear ho0)))
         have n0_ := Aside0.mk (Kd.R_drew HO561.out)
         have n1_ := Aside0.mk (Kd.R_drew HO564.out)
         have n2_ := Aside0.mk (blk_drew BK557.out)
         have n3_ := Aside0.mk (below_drew1 HB.out)
         clear HO561
         clear HO564
         clear BK557
         clear HB
         have HO561 := n0_
         have HO564 := n1_
         have BK557 := n2_
         have HB := n3_
         clear n0_ n1_ n2_ n3_
         obtain ⟨Ao35, co35, eo35⟩ := Kd.R_slice HO564.out
         (first | subst eo35 | (injection eo35 with f1_ f2_ f3_; have f4_ := f1_.symm; have f5_ := f3_.symm; clear f1_ f2_ f3_; subst f4_; subst f5_))
         have p565 : 0 ≤ (0 : Int) := (by omega)
         have q565 : 0 < (t562.length : Int) := of_decide_eq_true zA
         obtain ⟨ad565, e565, hx565_0, hx565_1⟩ := at_T25 (Kd.R_reads' HO564.out).2.2 0 p565 q565
         cases e565
         have qi565 : (0 < t562.length) = True := eq_true (by omega)
         (try rw [show ((0 : Int)).toNat = 0 from rfl] at hx565_0)
         (try rw [show 0 * 2 = 0 from rfl] at hx565_0)
         (try rw [Addr.add_zero'] at hx565_0)
         (try rw [show ((0 : Int)).toNat = 0 from rfl] at hx565_1)
         (try rw [show 0 * 2 = 0 from rfl] at hx565_1)
         (try rw [Addr.add_zero'] at hx565_1)
         replace p565 := eq_true p565
         replace q565 := eq_true q565
         have p566 : 0 ≤ (0 : Int) := (by omega)
         have q566 : 0 < (t562.length : Int) := of_decide_eq_true zA
         obtain ⟨ad566, e566, hx566_0, hx566_1⟩ := at_T25 (Kd.R_reads' HO564.out).2.2 0 p566 q566
         obtain rfl : ad565 = ad566 := (by injection e566)
         have qi566 : (0 < t562.length) = True := eq_true (by omega)
         (try rw [show ((0 : Int)).toNat = 0 from rfl] at hx566_0)
         (try rw [show 0 * 2 = 0 from rfl] at hx566_0)
         (try rw [Addr.add_zero'] at hx566_0)
         (try rw [show ((0 : Int)).toNat = 0 from rfl] at hx566_1)
         (try rw [show 0 * 2 = 0 from rfl] at hx566_1)
         (try rw [Addr.add_zero'] at hx566_1)
         replace p566 := eq_true p566
         replace q566 := eq_true q566
         have p567 : 0 ≤ (0 : Int) := (by omega)
         have q567 : 0 < (t562.length : Int) := of_decide_eq_true zA
         obtain ⟨ad567, e567, hx567_0, hx567_1⟩ := at_T25 (Kd.R_reads' HO564.out).2.2 0 p567 q567
         obtain rfl : ad565 = ad567 := (by injection e567)
         have qi567 : (0 < t562.length) = True := eq_true (by omega)
         (try rw [show ((0 : Int)).toNat = 0 from rfl] at hx567_0)
         (try rw [show 0 * 2 = 0 from rfl] at hx567_0)
         (try rw [Addr.add_zero'] at hx567_0)
         (try rw [show ((0 : Int)).toNat = 0 from rfl] at hx567_1)
         (try rw [show 0 * 2 = 0 from rfl] at hx567_1)
         (try rw [Addr.add_zero'] at hx567_1)
         replace p567 := eq_true p567
         replace q567 := eq_true q567
         have p572 : 0 ≤ (0 : Int) := (by omega)
         have q572 : 0 < (t562.length : Int) := of_decide_eq_true zA
         obtain ⟨ad572, e572, hx572_0, hx572_1⟩ := at_T25 (Kd.R_reads' HO564.out).2.2 0 p572 q572
         obtain rfl : ad565 = ad572 := (by injection e572)
         have qi572 : (0 < t562.length) = True := eq_true (by omega)
         (try rw [show ((0 : Int)).toNat = 0 from rfl] at hx572_0)
         (try rw [show 0 * 2 = 0 from rfl] at hx572_0)
         (try rw [Addr.add_zero'] at hx572_0)
         (try rw [show ((0 : Int)).toNat = 0 from rfl] at hx572_1)
         (try rw [show 0 * 2 = 0 from rfl] at hx572_1)
         (try rw [Addr.add_zero'] at hx572_1)
         replace p572 := eq_true p572
         replace q572 := eq_true q572
         refine start_ (n := 54) (S := fun w' => w'.cell? ⟨gb557, 0, none⟩ = some (.int .i64 a0_0) ∧ w'.cell? ⟨gb557, 1, none⟩ = some (.int .i64 a0_1) ∧ w'.cell? ad565 = some (.int .i64 ((rd_T25 t562 0).f0)) ∧ w'.cell? ⟨ad565.block, ad565.off + 1, none⟩ = some (.int .i64 ((rd_T25 t562 0).f1)) ∧ w'.cell? ad565 = some (.int .i64 ((rd_T25 t562 0).f0)) ∧ w'.cell? ⟨ad565.block, ad565.off + 1, none⟩ = some (.int .i64 ((rd_T25 t562 0).f1)) ∧ w'.cell? ad565 = some (.int .i64 ((rd_T25 t562 0).f0)) ∧ w'.cell? ⟨ad565.block, ad565.off + 1, none⟩ = some (.int .i64 ((rd_T25 t562 0).f1)) ∧ w'.cell? ad565 = some (.int .i64 ((rd_T25 t562 0).f0)) ∧ w'.cell? ⟨ad565.block, ad565.off + 1, none⟩ = some (.int .i64 ((rd_T25 t562 0).f1))) (ds := []) #[false, false, false, false, false, false, false, false, false, false, false, false, false, false, false, false, false, false, false, false, false, false, false, false, false, false, false, false, false, false, false, false, false, false, false, false, false, false, false, false, false, false, false, false, false, false, false, false, false, false, false, false, false, false] (by kernel_rfl) rfl rfl ⟨(blk_cell BK557.out 0).trans rfl, (blk_cell BK557.out 1).trans rfl, hx565_0, hx565_1, hx566_0, hx566_1, hx567_0, hx567_1, hx572_0, hx572_1⟩ (fun hHeld => ?_); refine with_tabW tapearchivelaw36_PrefetchAlone.tab4 tapearchivelaw36_PrefetchAlone.bits4 (fun HT_ HW_ => ?_)
         generalize w33.drew = w34 at HO561 HO564 BK557 HB hx565_0 hx565_1 hx566_0 hx566_1 hx567_0 hx567_1 hx572_0 hx572_1 hHeld ⊢
         refine pure_ (i := 0) (N := some 53) (v := ?_) (a' := ?_) #[true, false, false, false, false, false, false, false, false, false, false, false, false, false, false, false, false, false, false, false, false, false, false, false, false, false, false, false, false, false, false, false, false, false, false, false, false, false, false, false, false, false, false, false, false, false, false, false, false, false, false, false, false, false] rfl rfl (any_of HT_.out (by kernel_rfl)) (fun _ _ _ h => h) (Or.inl ⟨by rfl, ?_⟩) ?_ ?_
         rotate_left
         ·intro w'
          go_simp
          with_reducible rfl
         rotate_left
         ·exact zP i64_w i32_w
         refine pure_ (i := 1) (N := some 54) (v := ?_) (a' := ?_) #[true, true, false, false, false, false, false, false, false, false, false, false, false, false, false, false, false, false, false, false, false, false, false, false, false, false, false, false, false, false, false, false, false, false, false, false, false, false, false, false, false, false, false, false, false, false, false, false, false, false, false, false, false, false] rfl rfl (any_of HT_.out (by kernel_rfl)) (fun _ _ _ h => h) (Or.inl ⟨by rfl, ?_⟩) ?_ ?_
         rotate_left
         ·intro w'
          go_simp
          with_reducible rfl
         rotate_left
         ·exact zP i64_w i32_w
         refine pure_ (i := 2) (N := some 55) (v := ?_) (a' := ?_) #[true, true, true, false, false, false, false, false, false, false, false, false, false, false, false, false, false, false, false, false, false, false, false, false, false, false, false, false, false, false, false, false, false, false, false, false, false, false, false, false, false, false, false, false, false, false, false, false, false, false, false, false, false, false] rfl rfl (any_of HT_.out (by kernel_rfl)) (fun _ _ _ h => h) (Or.inl ⟨by rfl, ?_⟩) ?_ ?_
         rotate_left
         ·intro w'
          go_simp
          with_reducible rfl
         rotate_left
         ·exact zP i64_w i32_w
         refine pure_ (i := 3) (N := some 56) (v := ?_) (a' := ?_) #[true, true, true, true, false, false, false, false, false, false, false, false, false, false, false, false, false, false, false, false, false, false, false, false, false, false, false, false, false, false, false, false, false, false, false, false, false, false, false, false, false, false, false, false, false, false, false, false, false, false, false, false, false, false] rfl rfl (any_of HT_.out (by kernel_rfl)) (fun _ _ _ h => h) (Or.inl ⟨by rfl, ?_⟩) ?_ ?_
         rotate_left
         ·intro w'
          go_simp
          with_reducible rfl
         rotate_left
         ·exact zP i64_w i32_w
         refine pure_ (i := 4) (N := some 57) (v := ?_) (a' := ?_) #[true, true, true, true, true, false, false, false, false, false, false, false, false, false, false, false, false, false, false, false, false, false, false, false, false, false, false, false, false, false, false, false, false, false, false, false, false, false, false, false, false, false, false, false, false, false, false, false, false, false, false, false, false, false] rfl rfl (any_of HT_.out (by kernel_rfl)) (fun _ _ _ h => h) (Or.inl ⟨by rfl, ?_⟩) ?_ ?_
         rotate_left
         ·intro w'
          go_simp
          with_reducible rfl
         rotate_left
         ·exact zP i64_w i32_w
         refine pure_ (i := 5) (N := some 58) (v := ?_) (a' := ?_) #[true, true, true, true, true, true, false, false, false, false, false, false, false, false, false, false, false, false, false, false, false, false, false, false, false, false, false, false, false, false, false, false, false, false, false, false, false, false, false, false, false, false, false, false, false, false, false, false, false, false, false, false, false, false] rfl rfl (any_of HT_.out (by kernel_rfl)) (fun _ _ _ h => h) (Or.inl ⟨by rfl, ?_⟩) ?_ ?_
         rotate_left
         ·intro w'
          go_simp
          with_reducible rfl
         rotate_left
         ·exact zP i64_w i32_w
         refine pure_ (i := 6) (N := some 59) (v := ?_) (a' := ?_) #[true, true, true, true, true, true, true, false, false, false, false, false, false, false, false, false, false, false, false, false, false, false, false, false, false, false, false, false, false, false, false, false, false, false, false, false, false, false, false, false, false, false, false, false, false, false, false, false, false, false, false, false, false, false] rfl rfl (any_of HT_.out (by kernel_rfl)) (fun _ _ _ h => h) (Or.inl ⟨by rfl, ?_⟩) ?_ ?_
         rotate_left
         ·intro w'
          go_simp
          with_reducible rfl
         rotate_left
         ·exact zP i64_w i32_w
         refine pure_ (i := 8) (N := some 61) (v := ?_) (a' := ?_) #[true, true, true, true, true, true, true, false, true, false, false, false, false, false, false, false, false, false, false, false, false, false, false, false, false, false, false, false, false, false, false, false, false, false, false, false, false, false, false, false, false, false, false, false, false, false, false, false, false, false, false, false, false, false] rfl rfl (any_of HT_.out (by kernel_rfl)) (fun _ _ _ h => h) (Or.inl ⟨by rfl, ?_⟩) ?_ ?_
         rotate_left
         ·intro w'
          go_simp
          with_reducible rfl
         rotate_left
         ·exact zP i64_w i32_w
         refine take_ (i := 7) (N := some 60) (v := ?_) (a' := ?_) #[true, true, true, true, true, true, true, true, true, false, false, false, false, false, false, false, false, false, false, false, false, false, false, false, false, false, false, false, false, false, false, false, false, false, false, false, false, false, false, false, false, false, false, false, false, false, false, false, false, false, false, false, false, false] rfl rfl (take_ofW HT_.out HW_.out (by kernel_rfl)) (fun _ _ _ h => h) (Or.inl ⟨by rfl, ?_⟩) hHeld ?_ ?_
         rotate_left
         ·rintro w' ⟨s0, s1, s2, s3, s4, s5, s6, s7, s8, s9⟩
          go_simp
          with_reducible rfl
         rotate_left
         ·exact zP i64_w i32_w
         refine take_ (i := 9) (N := some 62) (v := ?_) (a' := ?_) #[true, true, true, true, true, true, true, true, true, true, false, false, false, false, false, false, false, false, false, false, false, false, false, false, false, false, false, false, false, false, false, false, false, false, false, false, false, false, false, false, false, false, false, false, false, false, false, false, false, false, false, false, false, false] rfl rfl (take_ofW HT_.out HW_.out (by kernel_rfl)) (fun _ _ _ h => h) (Or.inl ⟨by rfl, ?_⟩) hHeld ?_ ?_
         rotate_left
         ·rintro w' ⟨s0, s1, s2, s3, s4, s5, s6, s7, s8, s9⟩
          go_simp
          with_reducible rfl
         rotate_left
         ·exact zP i64_w i32_w
         refine pure_ (i := 10) (N := some 63) (v := ?_) (a' := ?_) #[true, true, true, true, true, true, true, true, true, true, true, false, false, false, false, false, false, false, false, false, false, false, false, false, false, false, false, false, false, false, false, false, false, false, false, false, false, false, false, false, false, false, false, false, false, false, false, false, false, false, false, false, false, false] rfl rfl (any_of HT_.out (by kernel_rfl)) (fun _ _ _ h => h) (Or.inl ⟨by rfl, ?_⟩) ?_ ?_
         rotate_left
         ·intro w'
          go_simp
          with_reducible rfl
         rotate_left
         ·exact zP i64_w i32_w
         refine pure_ (i := 11) (N := some 64) (v := ?_) (a' := ?_) #[true, true, true, true, true, true, true, true, true, true, true, true, false, false, false, false, false, false, false, false, false, false, false, false, false, false, false, false, false, false, false, false, false, false, false, false, false, false, false, false, false, false, false, false, false, false, false, false, false, false, false, false, false, false] rfl rfl (any_of HT_.out (by kernel_rfl)) (fun _ _ _ h => h) (Or.inl ⟨by rfl, ?_⟩) ?_ ?_
         rotate_left
         ·intro w'
          go_simp
          with_reducible rfl
         rotate_left
         ·exact zP i64_w i32_w
         refine pure_ (i := 12) (N := some 65) (v := ?_) (a' := ?_) #[true, true, true, true, true, true, true, true, true, true, true, true, true, false, false, false, false, false, false, false, false, false, false, false, false, false, false, false, false, false, false, false, false, false, false, false, false, false, false, false, false, false, false, false, false, false, false, false, false, false, false, false, false, false] rfl rfl (any_of HT_.out (by kernel_rfl)) (fun _ _ _ h => h) (Or.inl ⟨by rfl, ?_⟩) ?_ ?_
         rotate_left
         ·intro w'
          go_simp
          with_reducible rfl
         rotate_left
         ·exact zP i64_w i32_w
         refine pure_ (i := 13) (N := some 66) (v := ?_) (a' := ?_) #[true, true, true, true, true, true, true, true, true, true, true, true, true, true, false, false, false, false, false, false, false, false, false, false, false, false, false, false, false, false, false, false, false, false, false, false, false, false, false, false, false, false, false, false, false, false, false, false, false, false, false, false, false, false] rfl rfl (any_of HT_.out (by kernel_rfl)) (fun _ _ _ h => h) (Or.inl ⟨by rfl, ?_⟩) ?_ ?_
         rotate_left
         ·intro w'
          go_simp
          with_reducible rfl
         rotate_left
         ·exact zP i64_w i32_w
         refine pure_ (i := 14) (N := some 67) (v := ?_) (a' := ?_) #[true, true, true, true, true, true, true, true, true, true, true, true, true, true, true, false, false, false, false, false, false, false, false, false, false, false, false, false, false, false, false, false, false, false, false, false, false, false, false, false, false, false, false, false, false, false, false, false, false, false, false, false, false, false] rfl rfl (any_of HT_.out (by kernel_rfl)) (fun _ _ _ h => h) (Or.inl ⟨by rfl, ?_⟩) ?_ ?_
         rotate_left
         ·intro w'
          go_simp
          with_reducible rfl
         rotate_left
         ·exact zP i64_w i32_w
         refine pure_ (i := 15) (N := some 68) (v := ?_) (a' := ?_) #[true, true, true, true, true, true, true, true, true, true, true, true, true, true, true, true, false, false, false, false, false, false, false, false, false, false, false, false, false, false, false, false, false, false, false, false, false, false, false, false, false, false, false, false, false, false, false, false, false, false, false, false, false, false] rfl rfl (any_of HT_.out (by kernel_rfl)) (fun _ _ _ h => h) (Or.inl ⟨by rfl, ?_⟩) ?_ ?_
         rotate_left
         ·intro w'
          go_simp
          with_reducible rfl
         rotate_left
         ·exact zP i64_w i32_w
         refine pure_ (i := 16) (N := some 69) (v := ?_) (a' := ?_) #[true, true, true, true, true, true, true, true, true, true, true, true, true, true, true, true, true, false, false, false, false, false, false, false, false, false, false, false, false, false, false, false, false, false, false, false, false, false, false, false, false, false, false, false, false, false, false, false, false, false, false, false, false, false] rfl rfl (any_of HT_.out (by kernel_rfl)) (fun _ _ _ h => h) (Or.inl ⟨by rfl, ?_⟩) ?_ ?_
         rotate_left
         ·intro w'
          go_simp
          with_reducible rfl
         rotate_left
         ·exact zP i64_w i32_w
         refine pure_ (i := 17) (N := some 70) (v := ?_) (a' := ?_) #[true, true, true, true, true, true, true, true, true, true, true, true, true, true, true, true, true, true, false, false, false, false, false, false, false, false, false, false, false, false, false, false, false, false, false, false, false, false, false, false, false, false, false, false, false, false, false, false, false, false, false, false, false, false] rfl rfl (any_of HT_.out (by kernel_rfl)) (fun _ _ _ h => h) (Or.inl ⟨by rfl, ?_⟩) ?_ ?_
         rotate_left
         ·intro w'
          go_simp
          with_reducible rfl
         rotate_left
         ·exact zP i64_w i32_w
         refine pure_ (i := 19) (N := some 72) (v := ?_) (a' := ?_) #[true, true, true, true, true, true, true, true, true, true, true, true, true, true, true, true, true, true, false, true, false, false, false, false, false, false, false, false, false, false, false, false, false, false, false, false, false, false, false, false, false, false, false, false, false, false, false, false, false, false, false, false, false, false] rfl rfl (any_of HT_.out (by kernel_rfl)) (fun _ _ _ h => h) (Or.inl ⟨by rfl, ?_⟩) ?_ ?_
         rotate_left
         ·intro w'
          go_simp
          with_reducible rfl
         rotate_left
         ·exact zP i64_w i32_w
         refine pure_ (i := 20) (N := some 73) (v := ?_) (a' := ?_) #[true, true, true, true, true, true, true, true, true, true, true, true, true, true, true, true, true, true, false, true, true, false, false, false, false, false, false, false, false, false, false, false, false, false, false, false, false, false, false, false, false, false, false, false, false, false, false, false, false, false, false, false, false, false] rfl rfl (any_of HT_.out (by kernel_rfl)) (fun _ _ _ h => h) (Or.inl ⟨by rfl, ?_⟩) ?_ ?_
         rotate_left
         ·intro w'
          go_simp
          with_reducible rfl
         rotate_left
         ·exact zP i64_w i32_w
         refine pure_ (i := 21) (N := some 74) (v := ?_) (a' := ?_) #[true, true, true, true, true, true, true, true, true, true, true, true, true, true, true, true, true, true, false, true, true, true, false, false, false, false, false, false, false, false, false, false, false, false, false, false, false, false, false, false, false, false, false, false, false, false, false, false, false, false, false, false, false, false] rfl rfl (any_of HT_.out (by kernel_rfl)) (fun _ _ _ h => h) (Or.inl ⟨by rfl, ?_⟩) ?_ ?_
         rotate_left
         ·intro w'
          go_simp
          with_reducible rfl
         rotate_left
         ·exact zP i64_w i32_w
         refine pure_ (i := 24) (N := some 77) (v := ?_) (a' := ?_) #[true, true, true, true, true, true, true, true, true, true, true, true, true, true, true, true, true, true, false, true, true, true, false, false, true, false, false, false, false, false, false, false, false, false, false, false, false, false, false, false, false, false, false, false, false, false, false, false, false, false, false, false, false, false] rfl rfl (any_of HT_.out (by kernel_rfl)) (fun _ _ _ h => h) (Or.inl ⟨by rfl, ?_⟩) ?_ ?_
         rotate_left
         ·intro w'
          go_simp
          with_reducible rfl
         rotate_left
         ·exact zP i64_w i32_w
         refine pure_ (i := 25) (N := some 78) (v := ?_) (a' := ?_) #[true, true, true, true, true, true, true, true, true, true, true, true, true, true, true, true, true, true, false, true, true, true, false, false, true, true, false, false, false, false, false, false, false, false, false, false, false, false, false, false, false, false, false, false, false, false, false, false, false, false, false, false, false, false] rfl rfl (any_of HT_.out (by kernel_rfl)) (fun _ _ _ h => h) (Or.inl ⟨by rfl, ?_⟩) ?_ ?_
         rotate_left
         ·intro w'
          go_simp
          with_reducible rfl
         rotate_left
         ·exact zP i64_w i32_w
         refine pure_ (i := 27) (N := some 80) (v := ?_) (a' := ?_) #[true, true, true, true, true, true, true, true, true, true, true, true, true, true, true, true, true, true, false, true, true, true, false, false, true, true, false, true, false, false, false, false, false, false, false, false, false, false, false, false, false, false, false, false, false, false, false, false, false, false, false, false, false, false] rfl rfl (any_of HT_.out (by kernel_rfl)) (fun _ _ _ h => h) (Or.inl ⟨by rfl, ?_⟩) ?_ ?_
         rotate_left
         ·intro w'
          go_simp
          with_reducible rfl
         rotate_left
         ·exact zP i64_w i32_w
         refine take_ (i := 18) (N := some 71) (v := ?_) (a' := ?_) #[true, true, true, true, true, true, true, true, true, true, true, true, true, true, true, true, true, true, true, true, true, true, false, false, true, true, false, true, false, false, false, false, false, false, false, false, false, false, false, false, false, false, false, false, false, false, false, false, false, false, false, false, false, false] rfl rfl (take_ofW HT_.out HW_.out (by kernel_rfl)) (fun _ _ _ h => h) (Or.inl ⟨by rfl, ?_⟩) hHeld ?_ ?_
         rotate_left
         ·rintro w' ⟨s0, s1, s2, s3, s4, s5, s6, s7, s8, s9⟩
          go_simp
          with_reducible rfl
         rotate_left
         ·exact zP i64_w i32_w
         refine take_ (i := 22) (N := some 75) (v := ?_) (a' := ?_) #[true, true, true, true, true, true, true, true, true, true, true, true, true, true, true, true, true, true, true, true, true, true, true, false, true, true, false, true, false, false, false, false, false, false, false, false, false, false, false, false, false, false, false, false, false, false, false, false, false, false, false, false, false, false] rfl rfl (take_ofW HT_.out HW_.out (by kernel_rfl)) (fun _ _ _ h => h) (Or.inl ⟨by rfl, ?_⟩) hHeld ?_ ?_
         rotate_left
         ·rintro w' ⟨s0, s1, s2, s3, s4, s5, s6, s7, s8, s9⟩
          go_simp
          with_reducible rfl
         rotate_left
         ·exact zP i64_w i32_w
         refine pure_ (i := 23) (N := some 76) (v := ?_) (a' := ?_) #[true, true, true, true, true, true, true, true, true, true, true, true, true, true, true, true, true, true, true, true, true, true, true, true, true, true, false, true, false, false, false, false, false, false, false, false, false, false, false, false, false, false, false, false, false, false, false, false, false, false, false, false, false, false] rfl rfl (any_of HT_.out (by kernel_rfl)) (fun _ _ _ h => h) (Or.inl ⟨by rfl, ?_⟩) ?_ ?_
         rotate_left
         ·intro w'
          go_simp
          with_reducible rfl
         rotate_left
         ·exact zP i64_w i32_w
         refine take_ (i := 26) (N := some 79) (v := ?_) (a' := ?_) #[true, true, true, true, true, true, true, true, true, true, true, true, true, true, true, true, true, true, true, true, true, true, true, true, true, true, true, true, false, false, false, false, false, false, false, false, false, false, false, false, false, false, false, false, false, false, false, false, false, false, false, false, false, false] rfl rfl (take_ofW HT_.out HW_.out (by kernel_rfl)) (fun _ _ _ h => h) (Or.inl ⟨by rfl, ?_⟩) hHeld ?_ ?_
         rotate_left
         ·rintro w' ⟨s0, s1, s2, s3, s4, s5, s6, s7, s8, s9⟩
          go_simp
          with_reducible rfl
         rotate_left
         ·exact zP i64_w i32_w
         refine take_ (i := 28) (N := some 81) (v := ?_) (a' := ?_) #[true, true, true, true, true, true, true, true, true, true, true, true, true, true, true, true, true, true, true, true, true, true, true, true, true, true, true, true, true, false, false, false, false, false, false, false, false, false, false, false, false, false, false, false, false, false, false, false, false, false, false, false, false, false] rfl rfl (take_ofW HT_.out HW_.out (by kernel_rfl)) (fun _ _ _ h => h) (Or.inl ⟨by rfl, ?_⟩) hHeld ?_ ?_
         rotate_left
         ·rintro w' ⟨s0, s1, s2, s3, s4, s5, s6, s7, s8, s9⟩
          go_simp
          with_reducible rfl
         rotate_left
         ·exact zP i64_w i32_w
         refine pure_ (i := 29) (N := some 82) (v := ?_) (a' := ?_) #[true, true, true, true, true, true, true, true, true, true, true, true, true, true, true, true, true, true, true, true, true, true, true, true, true, true, true, true, true, true, false, false, false, false, false, false, false, false, false, false, false, false, false, false, false, false, false, false, false, false, false, false, false, false] rfl rfl (any_of HT_.out (by kernel_rfl)) (fun _ _ _ h => h) (Or.inl ⟨by rfl, ?_⟩) ?_ ?_
         rotate_left
         ·intro w'
          go_simp
          with_reducible rfl
         rotate_left
         ·exact zP i64_w i32_w
         refine pure_ (i := 30) (N := some 83) (v := ?_) (a' := ?_) #[true, true, true, true, true, true, true, true, true, true, true, true, true, true, true, true, true, true, true, true, true, true, true, true, true, true, true, true, true, true, true, false, false, false, false, false, false, false, false, false, false, false, false, false, false, false, false, false, false, false, false, false, false, false] rfl rfl (any_of HT_.out (by kernel_rfl)) (fun _ _ _ h => h) (Or.inl ⟨by rfl, ?_⟩) ?_ ?_
         rotate_left
         ·intro w'
          go_simp
          with_reducible rfl
         rotate_left
         ·exact zP i64_w i32_w
         refine pure_ (i := 31) (N := some 84) (v := ?_) (a' := ?_) #[true, true, true, true, true, true, true, true, true, true, true, true, true, true, true, true, true, true, true, true, true, true, true, true, true, true, true, true, true, true, true, true, false, false, false, false, false, false, false, false, false, false, false, false, false, false, false, false, false, false, false, false, false, false] rfl rfl (any_of HT_.out (by kernel_rfl)) (fun _ _ _ h => h) (Or.inl ⟨by rfl, ?_⟩) ?_ ?_
         rotate_left
         ·intro w'
          go_simp
          with_reducible rfl
         rotate_left
         ·exact zP i64_w i32_w
         refine pure_ (i := 32) (N := some 85) (v := ?_) (a' := ?_) #[true, true, true, true, true, true, true, true, true, true, true, true, true, true, true, true, true, true, true, true, true, true, true, true, true, true, true, true, true, true, true, true, true, false, false, false, false, false, false, false, false, false, false, false, false, false, false, false, false, false, false, false, false, false] rfl rfl (any_of HT_.out (by kernel_rfl)) (fun _ _ _ h => h) (Or.inl ⟨by rfl, ?_⟩) ?_ ?_
         rotate_left
         ·intro w'
          go_simp
          with_reducible rfl
         rotate_left
         ·exact zP i64_w i32_w
         refine pure_ (i := 33) (N := some 86) (v := ?_) (a' := ?_) #[true, true, true, true, true, true, true, true, true, true, true, true, true, true, true, true, true, true, true, true, true, true, true, true, true, true, true, true, true, true, true, true, true, true, false, false, false, false, false, false, false, false, false, false, false, false, false, false, false, false, false, false, false, false] rfl rfl (any_of HT_.out (by kernel_rfl)) (fun _ _ _ h => h) (Or.inl ⟨by rfl, ?_⟩) ?_ ?_
         rotate_left
         ·intro w'
          go_simp
          with_reducible rfl
         rotate_left
         ·exact zP i64_w i32_w
         refine pure_ (i := 34) (N := some 87) (v := ?_) (a' := ?_) #[true, true, true, true, true, true, true, true, true, true, true, true, true, true, true, true, true, true, true, true, true, true, true, true, true, true, true, true, true, true, true, true, true, true, true, false, false, false, false, false, false, false, false, false, false, false, false, false, false, false, false, false, false, false] rfl rfl (any_of HT_.out (by kernel_rfl)) (fun _ _ _ h => h) (Or.inl ⟨by rfl, ?_⟩) ?_ ?_
         rotate_left
         ·intro w'
          go_simp
          with_reducible rfl
         rotate_left
         ·exact zP i64_w i32_w
         refine pure_ (i := 35) (N := some 88) (v := ?_) (a' := ?_) #[true, true, true, true, true, true, true, true, true, true, true, true, true, true, true, true, true, true, true, true, true, true, true, true, true, true, true, true, true, true, true, true, true, true, true, true, false, false, false, false, false, false, false, false, false, false, false, false, false, false, false, false, false, false] rfl rfl (any_of HT_.out (by kernel_rfl)) (fun _ _ _ h => h) (Or.inl ⟨by rfl, ?_⟩) ?_ ?_
         rotate_left
         ·intro w'
          go_simp
          with_reducible rfl
         rotate_left
         ·exact zP i64_w i32_w
         refine pure_ (i := 36) (N := some 89) (v := ?_) (a' := ?_) #[true, true, true, true, true, true, true, true, true, true, true, true, true, true, true, true, true, true, true, true, true, true, true, true, true, true, true, true, true, true, true, true, true, true, true, true, true, false, false, false, false, false, false, false, false, false, false, false, false, false, false, false, false, false] rfl rfl (any_of HT_.out (by kernel_rfl)) (fun _ _ _ h => h) (Or.inl ⟨by rfl, ?_⟩) ?_ ?_
         rotate_left
         ·intro w'
          go_simp
          with_reducible rfl
         rotate_left
         ·exact zP i64_w i32_w
         refine pure_ (i := 37) (N := some 90) (v := ?_) (a' := ?_) #[true, true, true, true, true, true, true, true, true, true, true, true, true, true, true, true, true, true, true, true, true, true, true, true, true, true, true, true, true, true, true, true, true, true, true, true, true, true, false, false, false, false, false, false, false, false, false, false, false, false, false, false, false, false] rfl rfl (any_of HT_.out (by kernel_rfl)) (fun _ _ _ h => h) (Or.inl ⟨by rfl, ?_⟩) ?_ ?_
         rotate_left
         ·intro w'
          go_simp
          with_reducible rfl
         rotate_left
         ·exact zP i64_w i32_w
         refine pure_ (i := 41) (N := some 94) (v := ?_) (a' := ?_) #[true, true, true, true, true, true, true, true, true, true, true, true, true, true, true, true, true, true, true, true, true, true, true, true, true, true, true, true, true, true, true, true, true, true, true, true, true, true, false, false, false, true, false, false, false, false, false, false, false, false, false, false, false, false] rfl rfl (any_of HT_.out (by kernel_rfl)) (fun _ _ _ h => h) (Or.inl ⟨by rfl, ?_⟩) ?_ ?_
         rotate_left
         ·intro w'
          go_simp
          with_reducible rfl
         rotate_left
         ·exact zP i64_w i32_w
         refine pure_ (i := 42) (N := some 95) (v := ?_) (a' := ?_) #[true, true, true, true, true, true, true, true, true, true, true, true, true, true, true, true, true, true, true, true, true, true, true, true, true, true, true, true, true, true, true, true, true, true, true, true, true, true, false, false, false, true, true, false, false, false, false, false, false, false, false, false, false, false] rfl rfl (any_of HT_.out (by kernel_rfl)) (fun _ _ _ h => h) (Or.inl ⟨by rfl, ?_⟩) ?_ ?_
         rotate_left
         ·intro w'
          go_simp
          with_reducible rfl
         rotate_left
         ·exact zP i64_w i32_w
         refine pure_ (i := 43) (N := some 96) (v := ?_) (a' := ?_) #[true, true, true, true, true, true, true, true, true, true, true, true, true, true, true, true, true, true, true, true, true, true, true, true, true, true, true, true, true, true, true, true, true, true, true, true, true, true, false, false, false, true, true, true, false, false, false, false, false, false, false, false, false, false] rfl rfl (any_of HT_.out (by kernel_rfl)) (fun _ _ _ h => h) (Or.inl ⟨by rfl, ?_⟩) ?_ ?_
         rotate_left
         ·intro w'
          go_simp
          with_reducible rfl
         rotate_left
         ·exact zP i64_w i32_w
         refine pure_ (i := 45) (N := some 98) (v := ?_) (a' := ?_) #[true, true, true, true, true, true, true, true, true, true, true, true, true, true, true, true, true, true, true, true, true, true, true, true, true, true, true, true, true, true, true, true, true, true, true, true, true, true, false, false, false, true, true, true, false, true, false, false, false, false, false, false, false, false] rfl rfl (any_of HT_.out (by kernel_rfl)) (fun _ _ _ h => h) (Or.inl ⟨by rfl, ?_⟩) ?_ ?_
         rotate_left
         ·intro w'
          go_simp
          with_reducible rfl
         rotate_left
         ·exact zP i64_w i32_w
         refine take_ (i := 38) (N := some 91) (v := ?_) (a' := ?_) #[true, true, true, true, true, true, true, true, true, true, true, true, true, true, true, true, true, true, true, true, true, true, true, true, true, true, true, true, true, true, true, true, true, true, true, true, true, true, true, false, false, true, true, true, false, true, false, false, false, false, false, false, false, false] rfl rfl (take_ofW HT_.out HW_.out (by kernel_rfl)) (fun _ _ _ h => h) (Or.inl ⟨by rfl, ?_⟩) hHeld ?_ ?_
         rotate_left
         ·rintro w' ⟨s0, s1, s2, s3, s4, s5, s6, s7, s8, s9⟩
          go_simp
          with_reducible rfl
         rotate_left
         ·exact zP i64_w i32_w
         refine take_ (i := 44) (N := some 97) (v := ?_) (a' := ?_) #[true, true, true, true, true, true, true, true, true, true, true, true, true, true, true, true, true, true, true, true, true, true, true, true, true, true, true, true, true, true, true, true, true, true, true, true, true, true, true, false, false, true, true, true, true, true, false, false, false, false, false, false, false, false] rfl rfl (take_ofW HT_.out HW_.out (by kernel_rfl)) (fun _ _ _ h => h) (Or.inl ⟨by rfl, ?_⟩) hHeld ?_ ?_
         rotate_left
         ·rintro w' ⟨s0, s1, s2, s3, s4, s5, s6, s7, s8, s9⟩
          go_simp
          with_reducible rfl
         rotate_left
         ·exact zP i64_w i32_w
         refine take_ (i := 46) (N := some 99) (v := ?_) (a' := ?_) #[true, true, true, true, true, true, true, true, true, true, true, true, true, true, true, true, true, true, true, true, true, true, true, true, true, true, true, true, true, true, true, true, true, true, true, true, true, true, true, false, false, true, true, true, true, true, true, false, false, false, false, false, false, false] rfl rfl (take_ofW HT_.out HW_.out (by kernel_rfl)) (fun _ _ _ h => h) (Or.inl ⟨by rfl, ?_⟩) hHeld ?_ ?_
         rotate_left
         ·rintro w' ⟨s0, s1, s2, s3, s4, s5, s6, s7, s8, s9⟩
          go_simp
          with_reducible rfl
         rotate_left
         ·exact zP i64_w i32_w
         refine pure_ (i := 47) (N := some 100) (v := ?_) (a' := ?_) #[true, true, true, true, true, true, true, true, true, true, true, true, true, true, true, true, true, true, true, true, true, true, true, true, true, true, true, true, true, true, true, true, true, true, true, true, true, true, true, false, false, true, true, true, true, true, true, true, false, false, false, false, false, false] rfl rfl (any_of HT_.out (by kernel_rfl)) (fun _ _ _ h => h) (Or.inl ⟨by rfl, ?_⟩) ?_ ?_
         rotate_left
         ·intro w'
          go_simp
          with_reducible rfl
         rotate_left
         ·exact zP i64_w i32_w
         refine one_ (i := 39) (N := some 92) #[true, true, true, true, true, true, true, true, true, true, true, true, true, true, true, true, true, true, true, true, true, true, true, true, true, true, true, true, true, true, true, true, true, true, true, true, true, true, true, true, false, true, true, true, true, true, true, true, false, false, false, false, false, false] rfl rfl (one_of HT_.out (by kernel_rfl)) (by decide) (fun K hK => ?_)
         refine Kd.R_lit_step k25 _ 25 ?hg (N := 92) ?hd (xs := ([(⟨a0_0, a0_1⟩ : S25)] : List (S25))) (inner := [.int .i64 a0_0, .int .i64 a0_1]) (ok := fun _ => True) (okp := fun _ => True) ?hr ?hp (fun _ hk => hk) trivial (Below.refl _ _) (Nat.le_refl _) (by simp) ?_; (case hd => rfl); (case hg => rfl); (case hr => first | (go_simp; done) | (go_simp; rfl)); (case hp => exact (Reps.c2 (show Kd.M k25 _ _ _ (⟨a0_0, a0_1⟩ : S25) [.int .i64 a0_0, .int .i64 a0_1] from (k25_mkM _ _ _ (⟨a0_0, a0_1⟩ : S25) )) (Reps.none _ _)))
         intro v569 w36 ho37 hb hg_ hnew_
         have HS2_ := (hb.cell (World.block_lt_of_cell? _ _ (hHeld.2.2.1))).trans (hHeld.2.2.1)
         have HS3_ := (hb.cell (World.block_lt_of_cell? _ _ (hHeld.2.2.2.1))).trans (hHeld.2.2.2.1)
         have HS4_ := (hb.cell (World.block_lt_of_cell? _ _ (hHeld.2.2.2.2.1))).trans (hHeld.2.2.2.2.1)
         have HS5_ := (hb.cell (World.block_lt_of_cell? _ _ (hHeld.2.2.2.2.2.1))).trans (hHeld.2.2.2.2.2.1)
         have HS6_ := (hb.cell (World.block_lt_of_cell? _ _ (hHeld.2.2.2.2.2.2.1))).trans (hHeld.2.2.2.2.2.2.1)
         have HS7_ := (hb.cell (World.block_lt_of_cell? _ _ (hHeld.2.2.2.2.2.2.2.1))).trans (hHeld.2.2.2.2.2.2.2.1)
         have HS8_ := (hb.cell (World.block_lt_of_cell? _ _ (hHeld.2.2.2.2.2.2.2.2.1))).trans (hHeld.2.2.2.2.2.2.2.2.1)
         have HS9_ := (hb.cell (World.block_lt_of_cell? _ _ (hHeld.2.2.2.2.2.2.2.2.2))).trans (hHeld.2.2.2.2.2.2.2.2.2)
         clear hg_ hnew_
         (first | rw [← Ny568.out] at ho37 | (simp only [Int.reduceToNat] at ho37; rw [← Ny568.out] at ho37))
         have n0_ := Aside0.mk (Kd.R_elder' (zR HO561.out) (Kd.R_base ho37) hb)
         have n1_ := Aside0.mk (Kd.R_elder' (zR HO564.out) (Kd.R_base ho37) hb)
         have n2_ := Aside0.mk (Kd.R_lower (Kd.R_newB (Kd.R_new' (Kd.R_new' ho37 (Kd.R_lt (zR HO561.out))) (Kd.R_lt (zR HO564.out))) (g := gb557) (o := .cells #[.int .i64 a0_0, .int .i64 a0_1] 25 (0, 0)) (zL BK557.out)) (below_size (zG HB GE557)))
         have n3_ := Aside0.mk (blk_below (g := gb557) (o := .cells #[.int .i64 a0_0, .int .i64 a0_1] 25 (0, 0)) (zL BK557.out) hb)
         have n4_ := Aside0.mk (below_step (zG HB GE557) hb)
         clear HO561
         clear HO564
         clear BK557
         clear HB
         have HO561 := n0_
         have HO564 := n1_
         have HO570 := n2_
         have BK557 := n3_
         have HB := n4_
         clear n0_ n1_ n2_ n3_ n4_
         clear hb ho37
         obtain ⟨Ao38, co38, eo38⟩ := Kd.R_slice HO570.out
         (first | subst eo38 | (injection eo38 with f1_ f2_ f3_; have f4_ := f1_.symm; have f5_ := f3_.symm; clear f1_ f2_ f3_; subst f4_; subst f5_))
         refine hK.out _ _ ⟨(blk_cell BK557.out 0).trans rfl, (blk_cell BK557.out 1).trans rfl, HS2_, HS3_, HS4_, HS5_, HS6_, HS7_, HS8_, HS9_⟩ (fun hHeld => ?_)
         clear hK K
         refine norm_ (a' := ?_) ?_ ?_
         rotate_left
         ·show Act.put _ (some 92) _ = _
          simp only [Act.put, List.setIfInBounds_toArray, List.set_cons_zero, List.set_cons_succ, i64_w, i32_w]
          rfl
         refine one_ (i := 40) (N := some 93) #[true, true, true, true, true, true, true, true, true, true, true, true, true, true, true, true, true, true, true, true, true, true, true, true, true, true, true, true, true, true, true, true, true, true, true, true, true, true, true, true, true, true, true, true, true, true, true, true, false, false, false, false, false, false] rfl rfl (one_of HT_.out (by kernel_rfl)) (by decide) (fun K hK => ?_)
         refine goes_ Try.func17 (by kernel_rfl) rfl #[.slice (some ad565) t562.length co35, .slice Ao38 y568.length co38] (by rfl) rfl rfl zM ?_
         with_reducible refine (prefetch_Waste.calls kj3 _ _ t562 _ _ y568 t571 _ ?side1 ?side2 ?side3 ?side4 A26.out).mono ?_
         (case side1 => exact zC (Kd.R_reads' HO564.out).2.2)
         (case side2 => exact (Kd.R_reads' HO564.out).2.1)
         (case side3 => exact zC (Kd.R_reads' HO570.out).2.2)
         (case side4 => exact (Kd.R_reads' HO570.out).2.1)
         rintro e w39 ⟨rfl, hb⟩
         have HS2_ := (hb.cell (World.block_lt_of_cell? _ _ (hHeld.2.2.1))).trans (hHeld.2.2.1)
         have HS3_ := (hb.cell (World.block_lt_of_cell? _ _ (hHeld.2.2.2.1))).trans (hHeld.2.2.2.1)
         have HS4_ := (hb.cell (World.block_lt_of_cell? _ _ (hHeld.2.2.2.2.1))).trans (hHeld.2.2.2.2.1)
         have HS5_ := (hb.cell (World.block_lt_of_cell? _ _ (hHeld.2.2.2.2.2.1))).trans (hHeld.2.2.2.2.2.1)
         have HS6_ := (hb.cell (World.block_lt_of_cell? _ _ (hHeld.2.2.2.2.2.2.1))).trans (hHeld.2.2.2.2.2.2.1)
         have HS7_ := (hb.cell (World.block_lt_of_cell? _ _ (hHeld.2.2.2.2.2.2.2.1))).trans (hHeld.2.2.2.2.2.2.2.1)
         have HS8_ := (hb.cell (World.block_lt_of_cell? _ _ (hHeld.2.2.2.2.2.2.2.2.1))).trans (hHeld.2.2.2.2.2.2.2.2.1)
         have HS9_ := (hb.cell (World.block_lt_of_cell? _ _ (hHeld.2.2.2.2.2.2.2.2.2))).trans (hHeld.2.2.2.2.2.2.2.2.2)
         refine ⟨_, rfl, ?_⟩
         have n0_ := Aside0.mk (Kd.R_below (zR HO561.out) hb)
         have n1_ := Aside0.mk (Kd.R_below (zR HO564.out) hb)
         have n2_ := Aside0.mk (Kd.R_below (zR HO570.out) hb)
         have n3_ := Aside0.mk (blk_below (g := gb557) (o := .cells #[.int .i64 a0_0, .int .i64 a0_1] 25 (0, 0)) (zL BK557.out) hb)
         have n4_ := Aside0.mk (below_step (zG HB GE557) hb)
         clear HO561
         clear HO564
         clear HO570
         clear BK557
         clear HB
         have HO561 := n0_
         have HO564 := n1_
         have HO570 := n2_
         have BK557 := n3_
         have HB := n4_
         clear n0_ n1_ n2_ n3_ n4_
         (try clear hb)
         (try clear hb2)
         (try clear hk)
         (try clear hi)
         refine hK.out _ _ ⟨(blk_cell BK557.out 0).trans rfl, (blk_cell BK557.out 1).trans rfl, HS2_, HS3_, HS4_, HS5_, HS6_, HS7_, HS8_, HS9_⟩ (fun hHeld => ?_)
         clear hK K
         refine norm_ (a' := ?_) ?_ ?_
         rotate_left
         ·show Act.put _ (some 93) _ = _
          simp only [Act.put, List.setIfInBounds_toArray, List.set_cons_zero, List.set_cons_succ, i64_w, i32_w]
          rfl
         refine pure_ (i := 48) (N := some 101) (v := ?_) (a' := ?_) #[true, true, true, true, true, true, true, true, true, true, true, true, true, true, true, true, true, true, true, true, true, true, true, true, true, true, true, true, true, true, true, true, true, true, true, true, true, true, true, true, true, true, true, true, true, true, true, true, true, false, false, false, false, false] rfl rfl (any_of HT_.out (by kernel_rfl)) (fun _ _ _ h => h) (Or.inl ⟨by rfl, ?_⟩) ?_ ?_
         rotate_left
         ·intro w'
          go_simp
          with_reducible rfl
         rotate_left
         ·exact zP i64_w i32_w
         refine pure_ (i := 49) (N := some 102) (v := ?_) (a' := ?_) #[true, true, true, true, true, true, true, true, true, true, true, true, true, true, true, true, true, true, true, true, true, true, true, true, true, true, true, true, true, true, true, true, true, true, true, true, true, true, true, true, true, true, true, true, true, true, true, true, true, true, false, false, false, false] rfl rfl (any_of HT_.out (by kernel_rfl)) (fun _ _ _ h => h) (Or.inl ⟨by rfl, ?_⟩) ?_ ?_
         rotate_left
         ·intro w'
          go_simp
          with_reducible rfl
         rotate_left
         ·exact zP i64_w i32_w
         refine pure_ (i := 50) (N := some 103) (v := ?_) (a' := ?_) #[true, true, true, true, true, true, true, true, true, true, true, true, true, true, true, true, true, true, true, true, true, true, true, true, true, true, true, true, true, true, true, true, true, true, true, true, true, true, true, true, true, true, true, true, true, true, true, true, true, true, true, false, false, false] rfl rfl (any_of HT_.out (by kernel_rfl)) (fun _ _ _ h => h) (Or.inl ⟨by rfl, ?_⟩) ?_ ?_
         rotate_left
         ·intro w'
          go_simp
          with_reducible rfl
         rotate_left
         ·exact zP i64_w i32_w
         refine one_ (i := 51) (N := some 104) #[true, true, true, true, true, true, true, true, true, true, true, true, true, true, true, true, true, true, true, true, true, true, true, true, true, true, true, true, true, true, true, true, true, true, true, true, true, true, true, true, true, true, true, true, true, true, true, true, true, true, true, true, false, false] rfl rfl (one_of HT_.out (by kernel_rfl)) (by decide) (fun K hK => ?_)
         refine goes_ Try.func12 (by kernel_rfl) rfl #[] (by rfl) rfl rfl zM ?_
         with_reducible refine (tapearchivelaw36_awake_s.calls  t573 _ A28.out).mono ?_
         rintro e w40 ⟨rfl, hb⟩
         have HS2_ := (hb.cell (World.block_lt_of_cell? _ _ (hHeld.2.2.1))).trans (hHeld.2.2.1)
         have HS3_ := (hb.cell (World.block_lt_of_cell? _ _ (hHeld.2.2.2.1))).trans (hHeld.2.2.2.1)
         have HS4_ := (hb.cell (World.block_lt_of_cell? _ _ (hHeld.2.2.2.2.1))).trans (hHeld.2.2.2.2.1)
         have HS5_ := (hb.cell (World.block_lt_of_cell? _ _ (hHeld.2.2.2.2.2.1))).trans (hHeld.2.2.2.2.2.1)
         have HS6_ := (hb.cell (World.block_lt_of_cell? _ _ (hHeld.2.2.2.2.2.2.1))).trans (hHeld.2.2.2.2.2.2.1)
         have HS7_ := (hb.cell (World.block_lt_of_cell? _ _ (hHeld.2.2.2.2.2.2.2.1))).trans (hHeld.2.2.2.2.2.2.2.1)
         have HS8_ := (hb.cell (World.block_lt_of_cell? _ _ (hHeld.2.2.2.2.2.2.2.2.1))).trans (hHeld.2.2.2.2.2.2.2.2.1)
         have HS9_ := (hb.cell (World.block_lt_of_cell? _ _ (hHeld.2.2.2.2.2.2.2.2.2))).trans (hHeld.2.2.2.2.2.2.2.2.2)
         refine ⟨_, rfl, ?_⟩
         have n0_ := Aside0.mk (Kd.R_below (zR HO561.out) hb)
         have n1_ := Aside0.mk (Kd.R_below (zR HO564.out) hb)
         have n2_ := Aside0.mk (Kd.R_below (zR HO570.out) hb)
         have n3_ := Aside0.mk (blk_below (g := gb557) (o := .cells #[.int .i64 a0_0, .int .i64 a0_1] 25 (0, 0)) (zL BK557.out) hb)
         have n4_ := Aside0.mk (below_step (zG HB GE557) hb)
         clear HO561
         clear HO564
         clear HO570
         clear BK557
         clear HB
         have HO561 := n0_
         have HO564 := n1_
         have HO570 := n2_
         have BK557 := n3_
         have HB := n4_
         clear n0_ n1_ n2_ n3_ n4_
         (try clear hb)
         (try clear hb2)
         (try clear hk)
         (try clear hi)
         refine hK.out _ _ ⟨(blk_cell BK557.out 0).trans rfl, (blk_cell BK557.out 1).trans rfl, HS2_, HS3_, HS4_, HS5_, HS6_, HS7_, HS8_, HS9_⟩ (fun hHeld => ?_)
         clear hK K
         refine norm_ (a' := ?_) ?_ ?_
         rotate_left
         ·show Act.put _ (some 104) _ = _
          simp only [Act.put, List.setIfInBounds_toArray, List.set_cons_zero, List.set_cons_succ, i64_w, i32_w]
          rfl
         refine pure_ (i := 52) (N := some 105) (v := ?_) (a' := ?_) #[true, true, true, true, true, true, true, true, true, true, true, true, true, true, true, true, true, true, true, true, true, true, true, true, true, true, true, true, true, true, true, true, true, true, true, true, true, true, true, true, true, true, true, true, true, true, true, true, true, true, true, true, true, false] rfl rfl (any_of HT_.out (by kernel_rfl)) (fun _ _ _ h => h) (Or.inl ⟨by rfl, ?_⟩) ?_ ?_
         rotate_left
         ·intro w'
          go_simp
          with_reducible rfl
         rotate_left
         ·exact zP i64_w i32_w
         refine pure_ (i := 53) (N := some 6) (v := ?_) (a' := ?_) #[true, true, true, true, true, true, true, true, true, true, true, true, true, true, true, true, true, true, true, true, true, true, true, true, true, true, true, true, true, true, true, true, true, true, true, true, true, true, true, true, true, true, true, true, true, true, true, true, true, true, true, true, true, true] rfl rfl (any_of HT_.out (by kernel_rfl)) (fun _ _ _ h => h) (Or.inl ⟨by rfl, ?_⟩) ?_ ?_
         rotate_left
         ·intro w'
          go_simp
          with_reducible rfl
         rotate_left
         ·exact zP i64_w i32_w
         refine done_ (done_of HT_.out (by kernel_rfl)) ?_
         try go_wp2
         go_ret
         exact ⟨by first | rfl | (simp [errW_none, errW_some] <;> rfl) | (simp only [← hji24]; first | rfl | (simp [errW_none, errW_some] <;> rfl)) | (simp [*, errW_none, errW_some] <;> rfl), by repeat (first | (with_reducible first | exact HB.out | apply below_alloc | apply pw_below_drewN | apply below_drew1 | refine below_set ?_ GE557.out) | exact HB.out)⟩
        ·rw [if_neg c27] at H
         have c27b0 : (t571 == (wrap64 (((rd_T25 t562 0).f1) - a0_1))) = false := beq_eq_false_iff_ne.mpr c27
         have c27b1 : (t571 != (wrap64 (((rd_T25 t562 0).f1) - a0_1))) = true := bne_iff_ne.mpr c27
         exact absurd (Option.some.inj H) (by rw [ht_.out]; simp)
       ·rw [if_neg c25] at H
        have c25b0 : ((wrap64 (((rd_T25 t562 0).f0) + ((rd_T25 t562 0).f1))) == (ji24)) = false := beq_eq_false_iff_ne.mpr c25
        have c25b1 : ((wrap64 (((rd_T25 t562 0).f0) + ((rd_T25 t562 0).f1))) != (ji24)) = true := bne_iff_ne.mpr c25
        exact absurd (Option.some.inj H) (by rw [ht_.out]; simp)
      ·rw [if_neg c23] at H
       have c23b0 : (((rd_T25 t562 0).f0) == (wrap64 ((wrap64 (Int.tdiv a0_0 64)) * 64))) = false := beq_eq_false_iff_ne.mpr c23
       have c23b1 : (((rd_T25 t562 0).f0) != (wrap64 ((wrap64 (Int.tdiv a0_0 64)) * 64))) = true := bne_iff_ne.mpr c23
       exact absurd (Option.some.inj H) (by rw [ht_.out]; simp)
     ·rw [if_neg c22] at H
      exact absurd H (by simp)
    ·rw [if_neg c21] at H
     have c21b0 : ((t562.length : Int) == 1) = false := beq_eq_false_iff_ne.mpr c21
     have c21b1 : ((t562.length : Int) != 1) = true := bne_iff_ne.mpr c21
     exact absurd (Option.some.inj H) (by rw [ht_.out]; simp)

end
end Go.Proofs.Ytapbmkcncjkanaa.P
