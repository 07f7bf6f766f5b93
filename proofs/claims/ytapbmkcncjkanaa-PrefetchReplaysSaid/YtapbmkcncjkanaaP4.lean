-- Written by this session's wip/tools/px.py out of the translation. Lean checks it.
import Derived.Test.YtapbmkcncjkanaaP0
import Derived.Test.YtapbmkcncjkanaaP3
namespace Go.Proofs.Ytapbmkcncjkanaa.P
noncomputable section
open Go.RowKit Go.Proofs.YtapbmkcncjkanaaW.PrintWords Go.Proofs.YtapbmkcncjkanaaW.PrintLast Go.Proofs.YtapbmkcncjkanaaW.PrintMore
attribute [local go_sem] max2_int min2_int max_two min_two max_three min_three max_four min_four   -- for this text's walks alone
set_option linter.unusedVariables false
set_option linter.unusedSimpArgs false

/-! ### r36_Valid: function 21 -/
def r36_Valid.j0 : Nat → Int → Bool → Int → Int → Int → Int → Option (Bool)
 | 0, _, _, _, _, _, _ => none
 | k + 1, x2, x39, x120000, x120001, x120002, x120003 => if x39 = true then (some false) else ((r36_in.f x120000 x2).bind fun t125 => (if t125 = true then ((r36_in.f x120002 x2).bind fun t126 => (if t126 = true then ((r36_in.f x120001 64).bind fun t127 => (if t127 = true then ((r36_in.f x120003 1125899906842623).bind fun t128 => (some t128)) else (some false))) else (some false))) else (some false)))
def r36_Valid.f (k : Nat) (a0_0 : Int) (a0_1 : Int) (a0_2 : Int) (a0_3 : Int) (a1_0 : Int) (a1_1 : Int) (a2 : Int) (a3 : Int) : Option (Bool) := (r36_in.f a2 4096).bind fun t121 => (if t121 = true then ((r36_in.f a3 64).bind fun t122 => (if t122 = true then ((r36_in.f a1_0 a2).bind fun t123 => (if t123 = true then ((r36_in.f a1_1 a2).bind fun t124 => (if t124 = true then (r36_Valid.j0 k a2 (decide ((wrap64 (a1_0 + a1_1)) > a2)) a0_0 a0_1 a0_2 a0_3) else (r36_Valid.j0 k a2 true a0_0 a0_1 a0_2 a0_3))) else (r36_Valid.j0 k a2 true a0_0 a0_1 a0_2 a0_3))) else (r36_Valid.j0 k a2 true a0_0 a0_1 a0_2 a0_3))) else (r36_Valid.j0 k a2 true a0_0 a0_1 a0_2 a0_3))
theorem r36_Valid.mono_l : ∀ k, (∀ y0 y1 y2 y3 y4 y5, LeO (r36_Valid.j0 k y0 y1 y2 y3 y4 y5) (r36_Valid.j0 (k + 1) y0 y1 y2 y3 y4 y5))
 | 0 => fun _ _ _ _ _ _ r h => by simp [r36_Valid.j0] at h
 | k + 1 => by
  have ih0 := r36_Valid.mono_l k
  ·intro y0 y1 y2 y3 y4 y5
   unfold r36_Valid.j0
   repeat' first
   | (with_reducible exact ih0 _ _ _ _ _ _)
   | (with_reducible exact LeO.refl _)
   | (with_reducible exact LeO.none _)
   | (with_reducible refine LeO.ite ?_ ?_)
   | (with_reducible refine LeO.bind ?_ (fun _ => ?_))
   | exact ih0 _ _ _ _ _ _
   | exact LeO.none _
   | refine LeO.ite ?_ ?_
   | refine LeO.bind ?_ (fun _ => ?_)
theorem r36_Valid.mono : ∀ a0 a1 a2 a3 a4 a5 a6 a7 k, LeO (r36_Valid.f k a0 a1 a2 a3 a4 a5 a6 a7) (r36_Valid.f (k + 1) a0 a1 a2 a3 a4 a5 a6 a7) := by
 intro a0 a1 a2 a3 a4 a5 a6 a7 k
 have ih0 := r36_Valid.mono_l k
 unfold r36_Valid.f
 repeat' first
   | (with_reducible exact ih0 _ _ _ _ _ _)
   | (with_reducible exact LeO.refl _)
   | (with_reducible exact LeO.none _)
   | (with_reducible refine LeO.ite ?_ ?_)
   | (with_reducible refine LeO.bind ?_ (fun _ => ?_))
   | exact ih0 _ _ _ _ _ _
   | exact LeO.none _
   | refine LeO.ite ?_ ?_
   | refine LeO.bind ?_ (fun _ => ?_)
set_option maxHeartbeats 8000000 in
set_option maxRecDepth 100000 in
theorem r36_Valid.calls (k : Nat) (a0_0 : Int) (a0_1 : Int) (a0_2 : Int) (a0_3 : Int) (a1_0 : Int) (a1_1 : Int) (a2 : Int) (a3 : Int) (r : Bool) (w : World) (h : r36_Valid.f k a0_0 a0_1 a0_2 a0_3 a1_0 a1_1 a2 a3 = some r) :
  Calls Try.prog 21 #[.agg #[.int .i64 a0_0, .int .i64 a0_1, .int .i64 a0_2, .int .i64 a0_3], .agg #[.int .i64 a1_0, .int .i64 a1_1], .int .i64 a2, .int .i64 a3] w fun e w' => e = .returned (.bool r) ∧ Below w.heap.size w w' := by
 have hu23 := Try.underlying23
 have hu25 := Try.underlying25
 have HB := am (Below.refl w.heap.size w)
 have H : ((r36_in.f a2 4096).bind fun t121 => (if t121 = true then ((r36_in.f a3 64).bind fun t122 => (if t122 = true then ((r36_in.f a1_0 a2).bind fun t123 => (if t123 = true then ((r36_in.f a1_1 a2).bind fun t124 => (if t124 = true then (r36_Valid.j0 k a2 (decide ((wrap64 (a1_0 + a1_1)) > a2)) a0_0 a0_1 a0_2 a0_3) else (r36_Valid.j0 k a2 true a0_0 a0_1 a0_2 a0_3))) else (r36_Valid.j0 k a2 true a0_0 a0_1 a0_2 a0_3))) else (r36_Valid.j0 k a2 true a0_0 a0_1 a0_2 a0_3))) else (r36_Valid.j0 k a2 true a0_0 a0_1 a0_2 a0_3))) = some r := h
 clear h
 have HC5 := am H
 clear H
 go_enter Try.func21, Try.ntmps21
 go_upto_region 1 with (first | ((with_reducible refine gate_dst (N := 4) rfl ?_); refine box_event ?hg (N := 4) ?hd (cs := #[.int .i64 a0_0, .int .i64 a0_1, .int .i64 a0_2, .int .i64 a0_3]) (t := 23) ?hr ?_; (case hd => rfl); (case hg => rfl); (case hr => first | (go_simp; done) | (go_simp; rfl)); intro gb119 hg w6 hbox hb; have n0_ := am (below_step (zB HB) hb); have n1_ := am (hbox); have n2_ := am ((by rw [hg]; exact (below_size (zB HB)) : w.heap.size ≤ gb119)); have n3_ := am ((by rw [hg]; exact (below_size (zB HB)) : w.heap.size ≤ gb119)); clear HB; have HB := n0_; have BK119 := n1_; have GW119 := n2_; have GE119 := n3_; clear n0_ n1_ n2_ n3_; clear hb hbox hg) | ((with_reducible refine gate_dst (N := 5) rfl ?_); refine box_event ?hg (N := 5) ?hd (cs := #[.int .i64 a1_0, .int .i64 a1_1]) (t := 25) ?hr ?_; (case hd => rfl); (case hg => rfl); (case hr => first | (go_simp; done) | (go_simp; rfl)); intro gb120 hg w7 hbox hb; have n0_ := am (blk_below (g := gb119) (o := .cells #[.int .i64 a0_0, .int .i64 a0_1, .int .i64 a0_2, .int .i64 a0_3] 23 (0, 0)) (zL BK119.out) hb); have n1_ := am (below_step (zG HB GE119) hb); have n2_ := am (hbox); have n3_ := am ((by rw [hg]; exact (below_size (zG HB GE119)) : w.heap.size ≤ gb120)); have n4_ := am ((by rw [hg]; exact (below_size (zG HB GE119)) : w.heap.size ≤ gb120)); have n5_ := am ((by rw [hg]; exact Nat.ne_of_lt (blk_lt (g := gb119) (o := .cells #[.int .i64 a0_0, .int .i64 a0_1, .int .i64 a0_2, .int .i64 a0_3] 23 (0, 0)) (zL BK119.out)) : gb119 ≠ gb120)); have n6_ := am ((by rw [hg]; exact Nat.ne_of_gt (blk_lt (g := gb119) (o := .cells #[.int .i64 a0_0, .int .i64 a0_1, .int .i64 a0_2, .int .i64 a0_3] 23 (0, 0)) (zL BK119.out)) : gb120 ≠ gb119)); clear BK119; clear HB; have BK119 := n0_; have HB := n1_; have BK120 := n2_; have GW120 := n3_; have GE120 := n4_; have NB119_120 := n5_; have NB120_119 := n6_; clear n0_ n1_ n2_ n3_ n4_ n5_ n6_; clear hb hbox hg))
 (try simp only [Act.put, List.setIfInBounds_toArray, List.set_cons_zero, List.set_cons_succ])
 go_cut [39] (fun v39 wc => ∃ (kq : Nat) (x39_4 : Bool), v39 = .bool x39_4 ∧ Aside0 (r36_Valid.j0 kq a2 x39_4 a0_0 a0_1 a0_2 a0_3 = some r) ∧ Aside0 (kq ≤ k) ∧ Aside0 (wc.heap[gb119]? = some (.cells #[.int .i64 a0_0, .int .i64 a0_1, .int .i64 a0_2, .int .i64 a0_3] 23 (0, 0))) ∧ Aside0 (wc.heap[gb120]? = some (.cells #[.int .i64 a1_0, .int .i64 a1_1] 25 (0, 0))) ∧ Aside0 (Below w.heap.size w wc))
 case first =>
  have H := HC5.out
  clear HC5
  replace H := Option.bind_eq_some_iff.mp H
  obtain ⟨t121, A80, H⟩ := H
  replace H : (if t121 = true then ((r36_in.f a3 64).bind fun t122 => (if t122 = true then ((r36_in.f a1_0 a2).bind fun t123 => (if t123 = true then ((r36_in.f a1_1 a2).bind fun t124 => (if t124 = true then (r36_Valid.j0 k a2 (decide ((wrap64 (a1_0 + a1_1)) > a2)) a0_0 a0_1 a0_2 a0_3) else (r36_Valid.j0 k a2 true a0_0 a0_1 a0_2 a0_3))) else (r36_Valid.j0 k a2 true a0_0 a0_1 a0_2 a0_3))) else (r36_Valid.j0 k a2 true a0_0 a0_1 a0_2 a0_3))) else (r36_Valid.j0 k a2 true a0_0 a0_1 a0_2 a0_3)) = some r := H
  have A8 := am A80
  clear A80
  by_cases c9 : t121 = true
  ·subst c9
   have H1 : ((r36_in.f a3 64).bind fun t122 => (if t122 = true then ((r36_in.f a1_0 a2).bind fun t123 => (if t123 = true then ((r36_in.f a1_1 a2).bind fun t124 => (if t124 = true then (r36_Valid.j0 k a2 (decide ((wrap64 (a1_0 + a1_1)) > a2)) a0_0 a0_1 a0_2 a0_3) else (r36_Valid.j0 k a2 true a0_0 a0_1 a0_2 a0_3))) else (r36_Valid.j0 k a2 true a0_0 a0_1 a0_2 a0_3))) else (r36_Valid.j0 k a2 true a0_0 a0_1 a0_2 a0_3))) = some r := by rw [if_pos rfl] at H; exact H
   clear H
   have H := H1
   clear H1
   replace H := Option.bind_eq_some_iff.mp H
   obtain ⟨t122, A100, H⟩ := H
   replace H : (if t122 = true then ((r36_in.f a1_0 a2).bind fun t123 => (if t123 = true then ((r36_in.f a1_1 a2).bind fun t124 => (if t124 = true then (r36_Valid.j0 k a2 (decide ((wrap64 (a1_0 + a1_1)) > a2)) a0_0 a0_1 a0_2 a0_3) else (r36_Valid.j0 k a2 true a0_0 a0_1 a0_2 a0_3))) else (r36_Valid.j0 k a2 true a0_0 a0_1 a0_2 a0_3))) else (r36_Valid.j0 k a2 true a0_0 a0_1 a0_2 a0_3)) = some r := H
   have A10 := am A100
   clear A100
   by_cases c11 : t122 = true
   ·subst c11
    have H1 : ((r36_in.f a1_0 a2).bind fun t123 => (if t123 = true then ((r36_in.f a1_1 a2).bind fun t124 => (if t124 = true then (r36_Valid.j0 k a2 (decide ((wrap64 (a1_0 + a1_1)) > a2)) a0_0 a0_1 a0_2 a0_3) else (r36_Valid.j0 k a2 true a0_0 a0_1 a0_2 a0_3))) else (r36_Valid.j0 k a2 true a0_0 a0_1 a0_2 a0_3))) = some r := by rw [if_pos rfl] at H; exact H
    clear H
    have H := H1
    clear H1
    replace H := Option.bind_eq_some_iff.mp H
    obtain ⟨t123, A120, H⟩ := H
    replace H : (if t123 = true then ((r36_in.f a1_1 a2).bind fun t124 => (if t124 = true then (r36_Valid.j0 k a2 (decide ((wrap64 (a1_0 + a1_1)) > a2)) a0_0 a0_1 a0_2 a0_3) else (r36_Valid.j0 k a2 true a0_0 a0_1 a0_2 a0_3))) else (r36_Valid.j0 k a2 true a0_0 a0_1 a0_2 a0_3)) = some r := H
    have A12 := am A120
    clear A120
    by_cases c13 : t123 = true
    ·subst c13
     have H1 : ((r36_in.f a1_1 a2).bind fun t124 => (if t124 = true then (r36_Valid.j0 k a2 (decide ((wrap64 (a1_0 + a1_1)) > a2)) a0_0 a0_1 a0_2 a0_3) else (r36_Valid.j0 k a2 true a0_0 a0_1 a0_2 a0_3))) = some r := by rw [if_pos rfl] at H; exact H
     clear H
     have H := H1
     clear H1
     replace H := Option.bind_eq_some_iff.mp H
     obtain ⟨t124, A140, H⟩ := H
     replace H : (if t124 = true then (r36_Valid.j0 k a2 (decide ((wrap64 (a1_0 + a1_1)) > a2)) a0_0 a0_1 a0_2 a0_3) else (r36_Valid.j0 k a2 true a0_0 a0_1 a0_2 a0_3)) = some r := H
     have A14 := am A140
     clear A140
     by_cases c15 : t124 = true
     ·subst c15
      have H1 : (r36_Valid.j0 k a2 (decide ((wrap64 (a1_0 + a1_1)) > a2)) a0_0 a0_1 a0_2 a0_3) = some r := by rw [if_pos rfl] at H; exact H
      clear H
      have H := H1
      clear H1
      have H' := am H
      clear H
      go_wp2_with (first | ((with_reducible refine gate_callee (f := 35) rfl ?_); refine goesL_ (some 10) rfl rfl Try.func35 (by kernel_rfl) rfl #[.int .i64 a2, .int .i64 4096] rfl zM ?_; (with_reducible refine (r36_in.calls a2 4096 true _ A8.out).mono ?_); rintro e w' ⟨rfl, ⟨nd, rfl⟩⟩; refine ⟨_, rfl, ?_⟩) | (go_at_call 35; (with_reducible refine (r36_in.calls a3 64 true _ A10.out).mono ?_); rintro e w' ⟨rfl, ⟨nd, rfl⟩⟩; have hnb16 := NB120_119.out; have hnc16 := NB119_120.out; have hcz17_0 : w7.cell? ⟨gb120, 0, none⟩ = some (.int .i64 a1_0) := (blk_cell BK120.out 0).trans rfl; have hcz17_1 : w7.cell? ⟨gb120, 1, none⟩ = some (.int .i64 a1_1) := (blk_cell BK120.out 1).trans rfl; have hfz17_0 := blk_frozen BK120.out 0; have hfz17_1 := blk_frozen BK120.out 1) | (go_at_call 35; (with_reducible refine (r36_in.calls a1_0 a2 true _ A12.out).mono ?_); rintro e w' ⟨rfl, ⟨nd, rfl⟩⟩) | (go_at_call 35; (with_reducible refine (r36_in.calls a1_1 a2 true _ A14.out).mono ?_); rintro e w' ⟨rfl, ⟨nd, rfl⟩⟩))
      go_meet
      case rel => exact ⟨_, (decide ((wrap64 (a1_0 + a1_1)) > a2)), zS, H', ⟨by first | omega | exact Nat.le_refl _⟩, ⟨by refine zL ?_; exact BK119.out⟩, ⟨by refine zL ?_; exact BK120.out⟩, ⟨zG2 HB GE119 GE120⟩⟩
     ·replace c15 := Bool.eq_false_iff.mpr c15
      subst c15
      have H1 : (r36_Valid.j0 k a2 true a0_0 a0_1 a0_2 a0_3) = some r := by rw [if_neg (show ¬ (false = true) by decide)] at H; exact H
      clear H
      have H := H1
      clear H1
      have H' := am H
      clear H
      go_wp2_with (first | ((with_reducible refine gate_callee (f := 35) rfl ?_); refine goesL_ (some 10) rfl rfl Try.func35 (by kernel_rfl) rfl #[.int .i64 a2, .int .i64 4096] rfl zM ?_; (with_reducible refine (r36_in.calls a2 4096 true _ A8.out).mono ?_); rintro e w' ⟨rfl, ⟨nd, rfl⟩⟩; refine ⟨_, rfl, ?_⟩) | (go_at_call 35; (with_reducible refine (r36_in.calls a3 64 true _ A10.out).mono ?_); rintro e w' ⟨rfl, ⟨nd, rfl⟩⟩; have hnb18 := NB120_119.out; have hnc18 := NB119_120.out; have hcz19_0 : w7.cell? ⟨gb120, 0, none⟩ = some (.int .i64 a1_0) := (blk_cell BK120.out 0).trans rfl; have hcz19_1 : w7.cell? ⟨gb120, 1, none⟩ = some (.int .i64 a1_1) := (blk_cell BK120.out 1).trans rfl; have hfz19_0 := blk_frozen BK120.out 0; have hfz19_1 := blk_frozen BK120.out 1) | (go_at_call 35; (with_reducible refine (r36_in.calls a1_0 a2 true _ A12.out).mono ?_); rintro e w' ⟨rfl, ⟨nd, rfl⟩⟩) | (go_at_call 35; (with_reducible refine (r36_in.calls a1_1 a2 false _ A14.out).mono ?_); rintro e w' ⟨rfl, ⟨nd, rfl⟩⟩))
      go_meet
      case rel => exact ⟨_, (true), zS, H', ⟨by first | omega | exact Nat.le_refl _⟩, ⟨by refine zL ?_; exact BK119.out⟩, ⟨by refine zL ?_; exact BK120.out⟩, ⟨zG2 HB GE119 GE120⟩⟩
    ·replace c13 := Bool.eq_false_iff.mpr c13
     subst c13
     have H1 : (r36_Valid.j0 k a2 true a0_0 a0_1 a0_2 a0_3) = some r := by rw [if_neg (show ¬ (false = true) by decide)] at H; exact H
     clear H
     have H := H1
     clear H1
     have H' := am H
     clear H
     go_wp2_with (first | ((with_reducible refine gate_callee (f := 35) rfl ?_); refine goesL_ (some 10) rfl rfl Try.func35 (by kernel_rfl) rfl #[.int .i64 a2, .int .i64 4096] rfl zM ?_; (with_reducible refine (r36_in.calls a2 4096 true _ A8.out).mono ?_); rintro e w' ⟨rfl, ⟨nd, rfl⟩⟩; refine ⟨_, rfl, ?_⟩) | (go_at_call 35; (with_reducible refine (r36_in.calls a3 64 true _ A10.out).mono ?_); rintro e w' ⟨rfl, ⟨nd, rfl⟩⟩; have hnb20 := NB120_119.out; have hnc20 := NB119_120.out; have hcz21_0 : w7.cell? ⟨gb120, 0, none⟩ = some (.int .i64 a1_0) := (blk_cell BK120.out 0).trans rfl; have hcz21_1 : w7.cell? ⟨gb120, 1, none⟩ = some (.int .i64 a1_1) := (blk_cell BK120.out 1).trans rfl; have hfz21_0 := blk_frozen BK120.out 0; have hfz21_1 := blk_frozen BK120.out 1) | (go_at_call 35; (with_reducible refine (r36_in.calls a1_0 a2 false _ A12.out).mono ?_); rintro e w' ⟨rfl, ⟨nd, rfl⟩⟩))
     go_meet
     case rel => exact ⟨_, (true), zS, H', ⟨by first | omega | exact Nat.le_refl _⟩, ⟨by refine zL ?_; exact BK119.out⟩, ⟨by refine zL ?_; exact BK120.out⟩, ⟨zG2 HB GE119 GE120⟩⟩
   ·replace c11 := Bool.eq_false_iff.mpr c11
    subst c11
    have H1 : (r36_Valid.j0 k a2 true a0_0 a0_1 a0_2 a0_3) = some r := by rw [if_neg (show ¬ (false = true) by decide)] at H; exact H
    clear H
    have H := H1
    clear H1
    have H' := am H
    clear H
    go_wp2_with (first | ((with_reducible refine gate_callee (f := 35) rfl ?_); refine goesL_ (some 10) rfl rfl Try.func35 (by kernel_rfl) rfl #[.int .i64 a2, .int .i64 4096] rfl zM ?_; (with_reducible refine (r36_in.calls a2 4096 true _ A8.out).mono ?_); rintro e w' ⟨rfl, ⟨nd, rfl⟩⟩; refine ⟨_, rfl, ?_⟩) | (go_at_call 35; (with_reducible refine (r36_in.calls a3 64 false _ A10.out).mono ?_); rintro e w' ⟨rfl, ⟨nd, rfl⟩⟩))
    go_meet
    case rel => exact ⟨_, (true), zS, H', ⟨by first | omega | exact Nat.le_refl _⟩, ⟨by refine zL ?_; exact BK119.out⟩, ⟨by refine zL ?_; exact BK120.out⟩, ⟨zG2 HB GE119 GE120⟩⟩
  ·replace c9 := Bool.eq_false_iff.mpr c9
   subst c9
   have H1 : (r36_Valid.j0 k a2 true a0_0 a0_1 a0_2 a0_3) = some r := by rw [if_neg (show ¬ (false = true) by decide)] at H; exact H
   clear H
   have H := H1
   clear H1
   have H' := am H
   clear H
   go_wp2_with (first | ((with_reducible refine gate_callee (f := 35) rfl ?_); refine goesL_ (some 10) rfl rfl Try.func35 (by kernel_rfl) rfl #[.int .i64 a2, .int .i64 4096] rfl zM ?_; (with_reducible refine (r36_in.calls a2 4096 false _ A8.out).mono ?_); rintro e w' ⟨rfl, ⟨nd, rfl⟩⟩; refine ⟨_, rfl, ?_⟩))
   go_meet
   case rel => exact ⟨_, (true), zS, H', ⟨by first | omega | exact Nat.le_refl _⟩, ⟨by refine zL ?_; exact BK119.out⟩, ⟨by refine zL ?_; exact BK120.out⟩, ⟨zG2 HB GE119 GE120⟩⟩
 case rest =>
  clear HC5
  try clear c1
  try clear c2
  try clear p2
  try clear c3
  try clear p6
  try clear c9
  try clear c11
  try clear c13
  try clear c15
  try clear c16
  try clear c18
  try clear c20
  try clear c21
  try clear hcz17_0
  try clear hcz17_1
  try clear hcz19_0
  try clear hcz19_1
  try clear hcz21_0
  try clear hcz21_1
  try clear hfz17_0
  try clear hfz17_1
  try clear hfz19_0
  try clear hfz19_1
  try clear hfz21_0
  try clear hfz21_1
  obtain ⟨kq, x39_4, rfl, HA, HJ4, BK119, BK120, HB⟩ := hcut
  cases kq with
  | zero => exact absurd HA.out (by simp [r36_Valid.j0])
  | succ kj4 =>
   have H := HA.out
   clear HA
   simp only [r36_Valid.j0] at H
   by_cases c22 : x39_4 = true
   ·subst c22
    have H1 : (some false) = some r := by rw [if_pos rfl] at H; exact H
    clear H
    have H := H1
    clear H1
    obtain rfl := Option.some.inj H
    go_wp2
    go_ret
    exact ⟨by first | rfl | (simp [errW_none, errW_some] <;> rfl) | (simp [*, errW_none, errW_some] <;> rfl), zG2 HB GE119 GE120⟩
   ·replace c22 := Bool.eq_false_iff.mpr c22
    subst c22
    have H1 : ((r36_in.f a0_0 a2).bind fun t125 => (if t125 = true then ((r36_in.f a0_2 a2).bind fun t126 => (if t126 = true then ((r36_in.f a0_1 64).bind fun t127 => (if t127 = true then ((r36_in.f a0_3 1125899906842623).bind fun t128 => (some t128)) else (some false))) else (some false))) else (some false))) = some r := by rw [if_neg (show ¬ (false = true) by decide)] at H; exact H
    clear H
    have H := H1
    clear H1
    replace H := Option.bind_eq_some_iff.mp H
    obtain ⟨t125, A230, H⟩ := H
    replace H : (if t125 = true then ((r36_in.f a0_2 a2).bind fun t126 => (if t126 = true then ((r36_in.f a0_1 64).bind fun t127 => (if t127 = true then ((r36_in.f a0_3 1125899906842623).bind fun t128 => (some t128)) else (some false))) else (some false))) else (some false)) = some r := H
    have A23 := am A230
    clear A230
    by_cases c24 : t125 = true
    ·subst c24
     have H1 : ((r36_in.f a0_2 a2).bind fun t126 => (if t126 = true then ((r36_in.f a0_1 64).bind fun t127 => (if t127 = true then ((r36_in.f a0_3 1125899906842623).bind fun t128 => (some t128)) else (some false))) else (some false))) = some r := by rw [if_pos rfl] at H; exact H
     clear H
     have H := H1
     clear H1
     replace H := Option.bind_eq_some_iff.mp H
     obtain ⟨t126, A250, H⟩ := H
     replace H : (if t126 = true then ((r36_in.f a0_1 64).bind fun t127 => (if t127 = true then ((r36_in.f a0_3 1125899906842623).bind fun t128 => (some t128)) else (some false))) else (some false)) = some r := H
     have A25 := am A250
     clear A250
     by_cases c26 : t126 = true
     ·subst c26
      have H1 : ((r36_in.f a0_1 64).bind fun t127 => (if t127 = true then ((r36_in.f a0_3 1125899906842623).bind fun t128 => (some t128)) else (some false))) = some r := by rw [if_pos rfl] at H; exact H
      clear H
      have H := H1
      clear H1
      replace H := Option.bind_eq_some_iff.mp H
      obtain ⟨t127, A270, H⟩ := H
      replace H : (if t127 = true then ((r36_in.f a0_3 1125899906842623).bind fun t128 => (some t128)) else (some false)) = some r := H
      have A27 := am A270
      clear A270
      by_cases c28 : t127 = true
      ·subst c28
       have H1 : ((r36_in.f a0_3 1125899906842623).bind fun t128 => (some t128)) = some r := by rw [if_pos rfl] at H; exact H
       clear H
       have H := H1
       clear H1
       replace H := Option.bind_eq_some_iff.mp H
       obtain ⟨t128, A290, H⟩ := H
       replace H : (some t128) = some r := H
       have A29 := am A290
       clear A290
       obtain rfl := Option.some.inj H
       have hnb30 := NB119_120.out
       have hnc30 := NB120_119.out
       have hcz31_0 : wc.cell? ⟨gb119, 0, none⟩ = some (.int .i64 a0_0) := (blk_cell BK119.out 0).trans rfl
       have hcz31_1 : wc.cell? ⟨gb119, 1, none⟩ = some (.int .i64 a0_1) := (blk_cell BK119.out 1).trans rfl
       have hcz31_2 : wc.cell? ⟨gb119, 2, none⟩ = some (.int .i64 a0_2) := (blk_cell BK119.out 2).trans rfl
       have hcz31_3 : wc.cell? ⟨gb119, 3, none⟩ = some (.int .i64 a0_3) := (blk_cell BK119.out 3).trans rfl
       have hfz31_0 := blk_frozen BK119.out 0
       have hfz31_1 := blk_frozen BK119.out 1
       have hfz31_2 := blk_frozen BK119.out 2
       have hfz31_3 := blk_frozen BK119.out 3
       go_wp2_with (first | ((with_reducible refine gate_callee (f := 35) rfl ?_); refine goesL_ (some 43) rfl rfl Try.func35 (by kernel_rfl) rfl #[.int .i64 a0_0, .int .i64 a2] rfl zM ?_; (with_reducible refine (r36_in.calls a0_0 a2 true _ A23.out).mono ?_); rintro e w' ⟨rfl, ⟨nd, rfl⟩⟩; refine ⟨_, rfl, ?_⟩) | (go_at_call 35; (with_reducible refine (r36_in.calls a0_2 a2 true _ A25.out).mono ?_); rintro e w' ⟨rfl, ⟨nd, rfl⟩⟩) | (go_at_call 35; (with_reducible refine (r36_in.calls a0_1 64 true _ A27.out).mono ?_); rintro e w' ⟨rfl, ⟨nd, rfl⟩⟩) | (go_at_call 35; (with_reducible refine (r36_in.calls a0_3 1125899906842623 t128 _ A29.out).mono ?_); rintro e w' ⟨rfl, ⟨nd, rfl⟩⟩))
       go_ret
       exact ⟨by first | rfl | (simp [errW_none, errW_some] <;> rfl) | (simp [*, errW_none, errW_some] <;> rfl), zG2 HB GE119 GE120⟩
      ·replace c28 := Bool.eq_false_iff.mpr c28
       subst c28
       have H1 : (some false) = some r := by rw [if_neg (show ¬ (false = true) by decide)] at H; exact H
       clear H
       have H := H1
       clear H1
       obtain rfl := Option.some.inj H
       have hnb32 := NB119_120.out
       have hnc32 := NB120_119.out
       have hcz33_0 : wc.cell? ⟨gb119, 0, none⟩ = some (.int .i64 a0_0) := (blk_cell BK119.out 0).trans rfl
       have hcz33_1 : wc.cell? ⟨gb119, 1, none⟩ = some (.int .i64 a0_1) := (blk_cell BK119.out 1).trans rfl
       have hcz33_2 : wc.cell? ⟨gb119, 2, none⟩ = some (.int .i64 a0_2) := (blk_cell BK119.out 2).trans rfl
       have hcz33_3 : wc.cell? ⟨gb119, 3, none⟩ = some (.int .i64 a0_3) := (blk_cell BK119.out 3).trans rfl
       have hfz33_0 := blk_frozen BK119.out 0
       have hfz33_1 := blk_frozen BK119.out 1
       have hfz33_2 := blk_frozen BK119.out 2
       have hfz33_3 := blk_frozen BK119.out 3
       go_wp2_with (first | ((with_reducible refine gate_callee (f := 35) rfl ?_); refine goesL_ (some 43) rfl rfl Try.func35 (by kernel_rfl) rfl #[.int .i64 a0_0, .int .i64 a2] rfl zM ?_; (with_reducible refine (r36_in.calls a0_0 a2 true _ A23.out).mono ?_); rintro e w' ⟨rfl, ⟨nd, rfl⟩⟩; refine ⟨_, rfl, ?_⟩) | (go_at_call 35; (with_reducible refine (r36_in.calls a0_2 a2 true _ A25.out).mono ?_); rintro e w' ⟨rfl, ⟨nd, rfl⟩⟩) | (go_at_call 35; (with_reducible refine (r36_in.calls a0_1 64 false _ A27.out).mono ?_); rintro e w' ⟨rfl, ⟨nd, rfl⟩⟩))
       go_ret
       exact ⟨by first | rfl | (simp [errW_none, errW_some] <;> rfl) | (simp [*, errW_none, errW_some] <;> rfl), zG2 HB GE119 GE120⟩
     ·replace c26 := Bool.eq_false_iff.mpr c26
      subst c26
      have H1 : (some false) = some r := by rw [if_neg (show ¬ (false = true) by decide)] at H; exact H
      clear H
      have H := H1
      clear H1
      obtain rfl := Option.some.inj H
      have hnb34 := NB119_120.out
      have hnc34 := NB120_119.out
      have hcz35_0 : wc.cell? ⟨gb119, 0, none⟩ = some (.int .i64 a0_0) := (blk_cell BK119.out 0).trans rfl
      have hcz35_1 : wc.cell? ⟨gb119, 1, none⟩ = some (.int .i64 a0_1) := (blk_cell BK119.out 1).trans rfl
      have hcz35_2 : wc.cell? ⟨gb119, 2, none⟩ = some (.int .i64 a0_2) := (blk_cell BK119.out 2).trans rfl
      have hcz35_3 : wc.cell? ⟨gb119, 3, none⟩ = some (.int .i64 a0_3) := (blk_cell BK119.out 3).trans rfl
      have hfz35_0 := blk_frozen BK119.out 0
      have hfz35_1 := blk_frozen BK119.out 1
      have hfz35_2 := blk_frozen BK119.out 2
      have hfz35_3 := blk_frozen BK119.out 3
      go_wp2_with (first | ((with_reducible refine gate_callee (f := 35) rfl ?_); refine goesL_ (some 43) rfl rfl Try.func35 (by kernel_rfl) rfl #[.int .i64 a0_0, .int .i64 a2] rfl zM ?_; (with_reducible refine (r36_in.calls a0_0 a2 true _ A23.out).mono ?_); rintro e w' ⟨rfl, ⟨nd, rfl⟩⟩; refine ⟨_, rfl, ?_⟩) | (go_at_call 35; (with_reducible refine (r36_in.calls a0_2 a2 false _ A25.out).mono ?_); rintro e w' ⟨rfl, ⟨nd, rfl⟩⟩))
      go_ret
      exact ⟨by first | rfl | (simp [errW_none, errW_some] <;> rfl) | (simp [*, errW_none, errW_some] <;> rfl), zG2 HB GE119 GE120⟩
    ·replace c24 := Bool.eq_false_iff.mpr c24
     subst c24
     have H1 : (some false) = some r := by rw [if_neg (show ¬ (false = true) by decide)] at H; exact H
     clear H
     have H := H1
     clear H1
     obtain rfl := Option.some.inj H
     have hnb36 := NB119_120.out
     have hnc36 := NB120_119.out
     have hcz37_0 : wc.cell? ⟨gb119, 0, none⟩ = some (.int .i64 a0_0) := (blk_cell BK119.out 0).trans rfl
     have hcz37_1 : wc.cell? ⟨gb119, 1, none⟩ = some (.int .i64 a0_1) := (blk_cell BK119.out 1).trans rfl
     have hcz37_2 : wc.cell? ⟨gb119, 2, none⟩ = some (.int .i64 a0_2) := (blk_cell BK119.out 2).trans rfl
     have hcz37_3 : wc.cell? ⟨gb119, 3, none⟩ = some (.int .i64 a0_3) := (blk_cell BK119.out 3).trans rfl
     have hfz37_0 := blk_frozen BK119.out 0
     have hfz37_1 := blk_frozen BK119.out 1
     have hfz37_2 := blk_frozen BK119.out 2
     have hfz37_3 := blk_frozen BK119.out 3
     go_wp2_with (first | ((with_reducible refine gate_callee (f := 35) rfl ?_); refine goesL_ (some 43) rfl rfl Try.func35 (by kernel_rfl) rfl #[.int .i64 a0_0, .int .i64 a2] rfl zM ?_; (with_reducible refine (r36_in.calls a0_0 a2 false _ A23.out).mono ?_); rintro e w' ⟨rfl, ⟨nd, rfl⟩⟩; refine ⟨_, rfl, ?_⟩))
     go_ret
     exact ⟨by first | rfl | (simp [errW_none, errW_some] <;> rfl) | (simp [*, errW_none, errW_some] <;> rfl), zG2 HB GE119 GE120⟩

/-! ### r36_Read: function 11 -/
def r36_Read.j0 : Nat → Int → Int → Int → Int → Int → Int → Int → Option (Int × Int × Int × Int × Int × Int)
 | 0, _, _, _, _, _, _, _ => none
 | k + 1, x2, x10, x12, x135000, x135001, x135002, x135003 => if (mn x2 (wrap64 (x10 + (wrap64 (64 * x135001))))) > x12 then (some (x135000, x135001, mn x2 (wrap64 (x10 + (wrap64 (64 * x135001)))), x135003, x12, wrap64 ((mn x2 (wrap64 (x10 + (wrap64 (64 * x135001))))) - x12))) else (some (x135000, x135001, x12, x135003, 0, 0))
def r36_Read.f (k : Nat) (a0_0 : Int) (a0_1 : Int) (a0_2 : Int) (a0_3 : Int) (a1_0 : Int) (a1_1 : Int) (a2 : Int) (a3 : Int) : Option (Int × Int × Int × Int × Int × Int) := (r36_Valid.f k a0_0 a0_1 a0_2 a0_3 a1_0 a1_1 a2 a3).bind fun t133 => (if t133 = true then (if a1_0 = a0_0 then (r36_Read.j0 k a2 (wrap64 (a1_0 + a1_1)) (mx (wrap64 (a1_0 + a1_1)) a0_2) (wrap64 (a1_0 + a1_1)) (mn a3 (mx 1 (wrap64 (2 * a0_1)))) 0 (wrap64 (a0_3 + 1))) else (r36_Read.j0 k a2 (wrap64 (a1_0 + a1_1)) (wrap64 (a1_0 + a1_1)) (wrap64 (a1_0 + a1_1)) 0 0 1)) else (some (0, 0, 0, 0, 0, 0)))
theorem r36_Read.mono_l : ∀ k, (∀ y0 y1 y2 y3 y4 y5 y6, LeO (r36_Read.j0 k y0 y1 y2 y3 y4 y5 y6) (r36_Read.j0 (k + 1) y0 y1 y2 y3 y4 y5 y6))
 | 0 => fun _ _ _ _ _ _ _ r h => by simp [r36_Read.j0] at h
 | k + 1 => by
  have ih0 := r36_Read.mono_l k
  ·intro y0 y1 y2 y3 y4 y5 y6
   unfold r36_Read.j0
   repeat' first
   | (with_reducible exact ih0 _ _ _ _ _ _ _)
   | (with_reducible exact r36_Valid.mono _ _ _ _ _ _ _ _ _)
   | (with_reducible exact LeO.refl _)
   | (with_reducible exact LeO.none _)
   | (with_reducible refine LeO.ite ?_ ?_)
   | (with_reducible refine LeO.bind ?_ (fun _ => ?_))
   | exact ih0 _ _ _ _ _ _ _
   | exact r36_Valid.mono _ _ _ _ _ _ _ _ _
   | exact LeO.none _
   | refine LeO.ite ?_ ?_
   | refine LeO.bind ?_ (fun _ => ?_)
theorem r36_Read.mono : ∀ a0 a1 a2 a3 a4 a5 a6 a7 k, LeO (r36_Read.f k a0 a1 a2 a3 a4 a5 a6 a7) (r36_Read.f (k + 1) a0 a1 a2 a3 a4 a5 a6 a7) := by
 intro a0 a1 a2 a3 a4 a5 a6 a7 k
 have ih0 := r36_Read.mono_l k
 unfold r36_Read.f
 repeat' first
   | (with_reducible exact ih0 _ _ _ _ _ _ _)
   | (with_reducible exact r36_Valid.mono _ _ _ _ _ _ _ _ _)
   | (with_reducible exact LeO.refl _)
   | (with_reducible exact LeO.none _)
   | (with_reducible refine LeO.ite ?_ ?_)
   | (with_reducible refine LeO.bind ?_ (fun _ => ?_))
   | exact ih0 _ _ _ _ _ _ _
   | exact r36_Valid.mono _ _ _ _ _ _ _ _ _
   | exact LeO.none _
   | refine LeO.ite ?_ ?_
   | refine LeO.bind ?_ (fun _ => ?_)
set_option maxHeartbeats 8000000 in
set_option maxRecDepth 100000 in
theorem r36_Read.calls (k : Nat) (a0_0 : Int) (a0_1 : Int) (a0_2 : Int) (a0_3 : Int) (a1_0 : Int) (a1_1 : Int) (a2 : Int) (a3 : Int) (r1 : Int) (r2 : Int) (r3 : Int) (r4 : Int) (r5 : Int) (r6 : Int) (w : World) (h : r36_Read.f k a0_0 a0_1 a0_2 a0_3 a1_0 a1_1 a2 a3 = some (r1, r2, r3, r4, r5, r6)) :
  Calls Try.prog 11 #[.agg #[.int .i64 a0_0, .int .i64 a0_1, .int .i64 a0_2, .int .i64 a0_3], .agg #[.int .i64 a1_0, .int .i64 a1_1], .int .i64 a2, .int .i64 a3] w fun e w' => e = .returned (.tuple #[.agg #[.int .i64 r1, .int .i64 r2, .int .i64 r3, .int .i64 r4], .agg #[.int .i64 r5, .int .i64 r6]]) ∧ Below w.heap.size w w' := by
 have hu23 := Try.underlying23
 have hu25 := Try.underlying25
 have HB := am (Below.refl w.heap.size w)
 have H : ((r36_Valid.f k a0_0 a0_1 a0_2 a0_3 a1_0 a1_1 a2 a3).bind fun t133 => (if t133 = true then (if a1_0 = a0_0 then (r36_Read.j0 k a2 (wrap64 (a1_0 + a1_1)) (mx (wrap64 (a1_0 + a1_1)) a0_2) (wrap64 (a1_0 + a1_1)) (mn a3 (mx 1 (wrap64 (2 * a0_1)))) 0 (wrap64 (a0_3 + 1))) else (r36_Read.j0 k a2 (wrap64 (a1_0 + a1_1)) (wrap64 (a1_0 + a1_1)) (wrap64 (a1_0 + a1_1)) 0 0 1)) else (some (0, 0, 0, 0, 0, 0)))) = some (r1, r2, r3, r4, r5, r6) := h
 clear h
 replace H := Option.bind_eq_some_iff.mp H
 obtain ⟨t133, A50, H⟩ := H
 replace H : (if t133 = true then (if a1_0 = a0_0 then (r36_Read.j0 k a2 (wrap64 (a1_0 + a1_1)) (mx (wrap64 (a1_0 + a1_1)) a0_2) (wrap64 (a1_0 + a1_1)) (mn a3 (mx 1 (wrap64 (2 * a0_1)))) 0 (wrap64 (a0_3 + 1))) else (r36_Read.j0 k a2 (wrap64 (a1_0 + a1_1)) (wrap64 (a1_0 + a1_1)) (wrap64 (a1_0 + a1_1)) 0 0 1)) else (some (0, 0, 0, 0, 0, 0))) = some (r1, r2, r3, r4, r5, r6) := H
 have A5 := am A50
 clear A50
 by_cases c6 : t133 = true
 ·subst c6
  have H1 : (if a1_0 = a0_0 then (r36_Read.j0 k a2 (wrap64 (a1_0 + a1_1)) (mx (wrap64 (a1_0 + a1_1)) a0_2) (wrap64 (a1_0 + a1_1)) (mn a3 (mx 1 (wrap64 (2 * a0_1)))) 0 (wrap64 (a0_3 + 1))) else (r36_Read.j0 k a2 (wrap64 (a1_0 + a1_1)) (wrap64 (a1_0 + a1_1)) (wrap64 (a1_0 + a1_1)) 0 0 1)) = some (r1, r2, r3, r4, r5, r6) := by rw [if_pos rfl] at H; exact H
  clear H
  have H := H1
  clear H1
  have HC7 := am H
  clear H
  go_enter Try.func11, Try.ntmps11
  go_upto_if 34 with (first | ((with_reducible refine gate_dst (N := 4) rfl ?_); refine box_event ?hg (N := 4) ?hd (cs := #[.int .i64 a0_0, .int .i64 a0_1, .int .i64 a0_2, .int .i64 a0_3]) (t := 23) ?hr ?_; (case hd => rfl); (case hg => rfl); (case hr => first | (go_simp; done) | (go_simp; rfl)); intro gb129 hg w8 hbox hb; have n0_ := am (below_step (zB HB) hb); have n1_ := am (hbox); have n2_ := am ((by rw [hg]; exact (below_size (zB HB)) : w.heap.size ≤ gb129)); have n3_ := am ((by rw [hg]; exact (below_size (zB HB)) : w.heap.size ≤ gb129)); clear HB; have HB := n0_; have BK129 := n1_; have GW129 := n2_; have GE129 := n3_; clear n0_ n1_ n2_ n3_; clear hb hbox hg) | ((with_reducible refine gate_dst (N := 5) rfl ?_); refine box_event ?hg (N := 5) ?hd (cs := #[.int .i64 a1_0, .int .i64 a1_1]) (t := 25) ?hr ?_; (case hd => rfl); (case hg => rfl); (case hr => first | (go_simp; done) | (go_simp; rfl)); intro gb130 hg w9 hbox hb; have n0_ := am (blk_below (g := gb129) (o := .cells #[.int .i64 a0_0, .int .i64 a0_1, .int .i64 a0_2, .int .i64 a0_3] 23 (0, 0)) (zL BK129.out) hb); have n1_ := am (below_step (zG HB GE129) hb); have n2_ := am (hbox); have n3_ := am ((by rw [hg]; exact (below_size (zG HB GE129)) : w.heap.size ≤ gb130)); have n4_ := am ((by rw [hg]; exact (below_size (zG HB GE129)) : w.heap.size ≤ gb130)); have n5_ := am ((by rw [hg]; exact Nat.ne_of_lt (blk_lt (g := gb129) (o := .cells #[.int .i64 a0_0, .int .i64 a0_1, .int .i64 a0_2, .int .i64 a0_3] 23 (0, 0)) (zL BK129.out)) : gb129 ≠ gb130)); have n6_ := am ((by rw [hg]; exact Nat.ne_of_gt (blk_lt (g := gb129) (o := .cells #[.int .i64 a0_0, .int .i64 a0_1, .int .i64 a0_2, .int .i64 a0_3] 23 (0, 0)) (zL BK129.out)) : gb130 ≠ gb129)); clear BK129; clear HB; have BK129 := n0_; have HB := n1_; have BK130 := n2_; have GW130 := n3_; have GE130 := n4_; have NB129_130 := n5_; have NB130_129 := n6_; clear n0_ n1_ n2_ n3_ n4_ n5_ n6_; clear hb hbox hg) | ((with_reducible refine gate_dst (N := 8) rfl ?_); refine box_event ?hg (N := 8) ?hd (cs := #[.int .i64 0, .int .i64 0, .int .i64 0, .int .i64 0]) (t := 23) ?hr ?_; (case hd => rfl); (case hg => rfl); (case hr => first | (go_simp; done) | (go_simp; rfl)); intro gb131 hg w10 hbox hb; have n0_ := am (blk_below (g := gb129) (o := .cells #[.int .i64 a0_0, .int .i64 a0_1, .int .i64 a0_2, .int .i64 a0_3] 23 (0, 0)) (zL BK129.out) hb); have n1_ := am (blk_below (g := gb130) (o := .cells #[.int .i64 a1_0, .int .i64 a1_1] 25 (0, 0)) (zL BK130.out) hb); have n2_ := am (below_step (zG2 HB GE129 GE130) hb); have n3_ := am (hbox); have n4_ := am ((by rw [hg]; exact (below_size (zG2 HB GE129 GE130)) : w.heap.size ≤ gb131)); have n5_ := am ((by rw [hg]; exact (below_size (zG2 HB GE129 GE130)) : w.heap.size ≤ gb131)); have n6_ := am ((by rw [hg]; exact Nat.ne_of_lt (blk_lt (g := gb129) (o := .cells #[.int .i64 a0_0, .int .i64 a0_1, .int .i64 a0_2, .int .i64 a0_3] 23 (0, 0)) (zL BK129.out)) : gb129 ≠ gb131)); have n7_ := am ((by rw [hg]; exact Nat.ne_of_gt (blk_lt (g := gb129) (o := .cells #[.int .i64 a0_0, .int .i64 a0_1, .int .i64 a0_2, .int .i64 a0_3] 23 (0, 0)) (zL BK129.out)) : gb131 ≠ gb129)); have n8_ := am ((by rw [hg]; exact Nat.ne_of_lt (blk_lt (g := gb130) (o := .cells #[.int .i64 a1_0, .int .i64 a1_1] 25 (0, 0)) (zL BK130.out)) : gb130 ≠ gb131)); have n9_ := am ((by rw [hg]; exact Nat.ne_of_gt (blk_lt (g := gb130) (o := .cells #[.int .i64 a1_0, .int .i64 a1_1] 25 (0, 0)) (zL BK130.out)) : gb131 ≠ gb130)); clear BK129; clear BK130; clear HB; have BK129 := n0_; have BK130 := n1_; have HB := n2_; have BK131 := n3_; have GW131 := n4_; have GE131 := n5_; have NB129_131 := n6_; have NB131_129 := n7_; have NB130_131 := n8_; have NB131_130 := n9_; clear n0_ n1_ n2_ n3_ n4_ n5_ n6_ n7_ n8_ n9_; clear hb hbox hg) | ((with_reducible refine gate_dst (N := 9) rfl ?_); refine box_event ?hg (N := 9) ?hd (cs := #[.int .i64 0, .int .i64 0]) (t := 25) ?hr ?_; (case hd => rfl); (case hg => rfl); (case hr => first | (go_simp; done) | (go_simp; rfl)); intro gb132 hg w11 hbox hb; have n0_ := am (blk_below (g := gb129) (o := .cells #[.int .i64 a0_0, .int .i64 a0_1, .int .i64 a0_2, .int .i64 a0_3] 23 (0, 0)) (zL BK129.out) hb); have n1_ := am (blk_below (g := gb130) (o := .cells #[.int .i64 a1_0, .int .i64 a1_1] 25 (0, 0)) (zL BK130.out) hb); have n2_ := am (blk_below (g := gb131) (o := .cells #[.int .i64 0, .int .i64 0, .int .i64 0, .int .i64 0] 23 (0, 0)) (zL BK131.out) hb); have n3_ := am (below_step (zG3 HB GE129 GE130 GE131) hb); have n4_ := am (hbox); have n5_ := am ((by rw [hg]; exact (below_size (zG3 HB GE129 GE130 GE131)) : w.heap.size ≤ gb132)); have n6_ := am ((by rw [hg]; exact (below_size (zG3 HB GE129 GE130 GE131)) : w.heap.size ≤ gb132)); have n7_ := am ((by rw [hg]; exact Nat.ne_of_lt (blk_lt (g := gb129) (o := .cells #[.int .i64 a0_0, .int .i64 a0_1, .int .i64 a0_2, .int .i64 a0_3] 23 (0, 0)) (zL BK129.out)) : gb129 ≠ gb132)); have n8_ := am ((by rw [hg]; exact Nat.ne_of_gt (blk_lt (g := gb129) (o := .cells #[.int .i64 a0_0, .int .i64 a0_1, .int .i64 a0_2, .int .i64 a0_3] 23 (0, 0)) (zL BK129.out)) : gb132 ≠ gb129)); have n9_ := am ((by rw [hg]; exact Nat.ne_of_lt (blk_lt (g := gb130) (o := .cells #[.int .i64 a1_0, .int .i64 a1_1] 25 (0, 0)) (zL BK130.out)) : gb130 ≠ gb132)); have n10_ := am ((by rw [hg]; exact Nat.ne_of_gt (blk_lt (g := gb130) (o := .cells #[.int .i64 a1_0, .int .i64 a1_1] 25 (0, 0)) (zL BK130.out)) : gb132 ≠ gb130)); have n11_ := am ((by rw [hg]; exact Nat.ne_of_lt (blk_lt (g := gb131) (o := .cells #[.int .i64 0, .int .i64 0, .int .i64 0, .int .i64 0] 23 (0, 0)) (zL BK131.out)) : gb131 ≠ gb132)); have n12_ := am ((by rw [hg]; exact Nat.ne_of_gt (blk_lt (g := gb131) (o := .cells #[.int .i64 0, .int .i64 0, .int .i64 0, .int .i64 0] 23 (0, 0)) (zL BK131.out)) : gb132 ≠ gb131)); clear BK129; clear BK130; clear BK131; clear HB; have BK129 := n0_; have BK130 := n1_; have BK131 := n2_; have HB := n3_; have BK132 := n4_; have GW132 := n5_; have GE132 := n6_; have NB129_132 := n7_; have NB132_129 := n8_; have NB130_132 := n9_; have NB132_130 := n10_; have NB131_132 := n11_; have NB132_131 := n12_; clear n0_ n1_ n2_ n3_ n4_ n5_ n6_ n7_ n8_ n9_ n10_ n11_ n12_; clear hb hbox hg; have hnb12 := NB129_130.out; have hnc12 := NB130_129.out; have hnb13 := NB129_131.out; have hnc13 := NB131_129.out; have hnb14 := NB129_132.out; have hnc14 := NB132_129.out; have hcz15_0 : w11.cell? ⟨gb129, 0, none⟩ = some (.int .i64 a0_0) := (blk_cell BK129.out 0).trans rfl; have hcz15_1 : w11.cell? ⟨gb129, 1, none⟩ = some (.int .i64 a0_1) := (blk_cell BK129.out 1).trans rfl; have hcz15_2 : w11.cell? ⟨gb129, 2, none⟩ = some (.int .i64 a0_2) := (blk_cell BK129.out 2).trans rfl; have hcz15_3 : w11.cell? ⟨gb129, 3, none⟩ = some (.int .i64 a0_3) := (blk_cell BK129.out 3).trans rfl; have hfz15_0 := blk_frozen BK129.out 0; have hfz15_1 := blk_frozen BK129.out 1; have hfz15_2 := blk_frozen BK129.out 2; have hfz15_3 := blk_frozen BK129.out 3; have hnb16 := NB130_131.out; have hnc16 := NB131_130.out; have hnb17 := NB130_132.out; have hnc17 := NB132_130.out; have hcz18_0 : w11.cell? ⟨gb130, 0, none⟩ = some (.int .i64 a1_0) := (blk_cell BK130.out 0).trans rfl; have hcz18_1 : w11.cell? ⟨gb130, 1, none⟩ = some (.int .i64 a1_1) := (blk_cell BK130.out 1).trans rfl; have hfz18_0 := blk_frozen BK130.out 0; have hfz18_1 := blk_frozen BK130.out 1) | ((with_reducible refine gate_callee (f := 21) rfl ?_); refine goesL_ (some 18) rfl rfl Try.func21 (by kernel_rfl) rfl #[.agg #[.int .i64 a0_0, .int .i64 a0_1, .int .i64 a0_2, .int .i64 a0_3], .agg #[.int .i64 a1_0, .int .i64 a1_1], .int .i64 a2, .int .i64 a3] rfl zM ?_; (with_reducible refine (r36_Valid.calls k a0_0 a0_1 a0_2 a0_3 a1_0 a1_1 a2 a3 true _ A5.out).mono ?_); rintro e w19 ⟨rfl, hb⟩; refine ⟨_, rfl, ?_⟩; have n0_ := am (blk_below (g := gb129) (o := .cells #[.int .i64 a0_0, .int .i64 a0_1, .int .i64 a0_2, .int .i64 a0_3] 23 (0, 0)) (zL BK129.out) hb); have n1_ := am (blk_below (g := gb130) (o := .cells #[.int .i64 a1_0, .int .i64 a1_1] 25 (0, 0)) (zL BK130.out) hb); have n2_ := am (blk_below (g := gb131) (o := .cells #[.int .i64 0, .int .i64 0, .int .i64 0, .int .i64 0] 23 (0, 0)) (zL BK131.out) hb); have n3_ := am (blk_below (g := gb132) (o := .cells #[.int .i64 0, .int .i64 0] 25 (0, 0)) (zL BK132.out) hb); have n4_ := am (below_step (zG4 HB GE129 GE130 GE131 GE132) hb); clear BK129; clear BK130; clear BK131; clear BK132; clear HB; have BK129 := n0_; have BK130 := n1_; have BK131 := n2_; have BK132 := n3_; have HB := n4_; clear n0_ n1_ n2_ n3_ n4_; (try clear hb); (try clear hb2); (try clear hk); (try clear hi); have hcz20_0 : w19.cell? ⟨gb130, 0, none⟩ = some (.int .i64 a1_0) := (blk_cell BK130.out 0).trans rfl; have hcz20_1 : w19.cell? ⟨gb130, 1, none⟩ = some (.int .i64 a1_1) := (blk_cell BK130.out 1).trans rfl; have hfz20_0 := blk_frozen BK130.out 0; have hfz20_1 := blk_frozen BK130.out 1) | ((with_reducible refine gate_dst (N := 11) rfl ?_); refine box_event ?hg (N := 11) ?hd (cs := #[.int .i64 0, .int .i64 0, .int .i64 0, .int .i64 0]) (t := 23) ?hr ?_; (case hd => rfl); (case hg => rfl); (case hr => first | (go_simp; done) | (go_simp; rfl)); intro gb134 hg w21 hbox hb; have n0_ := am (blk_below (g := gb129) (o := .cells #[.int .i64 a0_0, .int .i64 a0_1, .int .i64 a0_2, .int .i64 a0_3] 23 (0, 0)) (zL BK129.out) hb); have n1_ := am (blk_below (g := gb130) (o := .cells #[.int .i64 a1_0, .int .i64 a1_1] 25 (0, 0)) (zL BK130.out) hb); have n2_ := am (blk_below (g := gb131) (o := .cells #[.int .i64 0, .int .i64 0, .int .i64 0, .int .i64 0] 23 (0, 0)) (zL BK131.out) hb); have n3_ := am (blk_below (g := gb132) (o := .cells #[.int .i64 0, .int .i64 0] 25 (0, 0)) (zL BK132.out) hb); have n4_ := am (below_step (zG4 HB GE129 GE130 GE131 GE132) hb); have n5_ := am (hbox); have n6_ := am ((by rw [hg]; exact (below_size (zG4 HB GE129 GE130 GE131 GE132)) : w.heap.size ≤ gb134)); have n7_ := am ((by rw [hg]; exact (below_size (zG4 HB GE129 GE130 GE131 GE132)) : w.heap.size ≤ gb134)); have n8_ := am ((by rw [hg]; exact Nat.ne_of_lt (blk_lt (g := gb129) (o := .cells #[.int .i64 a0_0, .int .i64 a0_1, .int .i64 a0_2, .int .i64 a0_3] 23 (0, 0)) (zL BK129.out)) : gb129 ≠ gb134)); have n9_ := am ((by rw [hg]; exact Nat.ne_of_gt (blk_lt (g := gb129) (o := .cells #[.int .i64 a0_0, .int .i64 a0_1, .int .i64 a0_2, .int .i64 a0_3] 23 (0, 0)) (zL BK129.out)) : gb134 ≠ gb129)); have n10_ := am ((by rw [hg]; exact Nat.ne_of_lt (blk_lt (g := gb130) (o := .cells #[.int .i64 a1_0, .int .i64 a1_1] 25 (0, 0)) (zL BK130.out)) : gb130 ≠ gb134)); have n11_ := am ((by rw [hg]; exact Nat.ne_of_gt (blk_lt (g := gb130) (o := .cells #[.int .i64 a1_0, .int .i64 a1_1] 25 (0, 0)) (zL BK130.out)) : gb134 ≠ gb130)); have n12_ := am ((by rw [hg]; exact Nat.ne_of_lt (blk_lt (g := gb131) (o := .cells #[.int .i64 0, .int .i64 0, .int .i64 0, .int .i64 0] 23 (0, 0)) (zL BK131.out)) : gb131 ≠ gb134)); have n13_ := am ((by rw [hg]; exact Nat.ne_of_gt (blk_lt (g := gb131) (o := .cells #[.int .i64 0, .int .i64 0, .int .i64 0, .int .i64 0] 23 (0, 0)) (zL BK131.out)) : gb134 ≠ gb131)); have n14_ := am ((by rw [hg]; exact Nat.ne_of_lt (blk_lt (g := gb132) (o := .cells #[.int .i64 0, .int .i64 0] 25 (0, 0)) (zL BK132.out)) : gb132 ≠ gb134)); have n15_ := am ((by rw [hg]; exact Nat.ne_of_gt (blk_lt (g := gb132) (o := .cells #[.int .i64 0, .int .i64 0] 25 (0, 0)) (zL BK132.out)) : gb134 ≠ gb132)); clear BK129; clear BK130; clear BK131; clear BK132; clear HB; have BK129 := n0_; have BK130 := n1_; have BK131 := n2_; have BK132 := n3_; have HB := n4_; have BK134 := n5_; have GW134 := n6_; have GE134 := n7_; have NB129_134 := n8_; have NB134_129 := n9_; have NB130_134 := n10_; have NB134_130 := n11_; have NB131_134 := n12_; have NB134_131 := n13_; have NB132_134 := n14_; have NB134_132 := n15_; clear n0_ n1_ n2_ n3_ n4_ n5_ n6_ n7_ n8_ n9_ n10_ n11_ n12_ n13_ n14_ n15_; clear hb hbox hg; have hnb22 := NB134_129.out; have hnc22 := NB129_134.out; have hnb23 := NB134_130.out; have hnc23 := NB130_134.out; have hnb24 := NB134_131.out; have hnc24 := NB131_134.out; have hnb25 := NB134_132.out; have hnc25 := NB132_134.out; have hcz26_0 : w21.cell? ⟨gb134, 0, none⟩ = some (.int .i64 0) := (blk_cell BK134.out 0).trans rfl; have hcz26_1 : w21.cell? ⟨gb134, 1, none⟩ = some (.int .i64 0) := (blk_cell BK134.out 1).trans rfl; have hcz26_2 : w21.cell? ⟨gb134, 2, none⟩ = some (.int .i64 0) := (blk_cell BK134.out 2).trans rfl; have hcz26_3 : w21.cell? ⟨gb134, 3, none⟩ = some (.int .i64 0) := (blk_cell BK134.out 3).trans rfl; have hfz26_0 := blk_frozen BK134.out 0; have hfz26_1 := blk_frozen BK134.out 1; have hfz26_2 := blk_frozen BK134.out 2; have hfz26_3 := blk_frozen BK134.out 3; have hcz27_0 : w21.cell? ⟨gb130, 0, none⟩ = some (.int .i64 a1_0) := (blk_cell BK130.out 0).trans rfl; have hcz27_1 : w21.cell? ⟨gb130, 1, none⟩ = some (.int .i64 a1_1) := (blk_cell BK130.out 1).trans rfl; have hfz27_0 := blk_frozen BK130.out 0; have hfz27_1 := blk_frozen BK130.out 1; have hcz28_0 : w21.cell? ⟨gb129, 0, none⟩ = some (.int .i64 a0_0) := (blk_cell BK129.out 0).trans rfl; have hcz28_1 : w21.cell? ⟨gb129, 1, none⟩ = some (.int .i64 a0_1) := (blk_cell BK129.out 1).trans rfl; have hcz28_2 : w21.cell? ⟨gb129, 2, none⟩ = some (.int .i64 a0_2) := (blk_cell BK129.out 2).trans rfl; have hcz28_3 : w21.cell? ⟨gb129, 3, none⟩ = some (.int .i64 a0_3) := (blk_cell BK129.out 3).trans rfl; have hfz28_0 := blk_frozen BK129.out 0; have hfz28_1 := blk_frozen BK129.out 1; have hfz28_2 := blk_frozen BK129.out 2; have hfz28_3 := blk_frozen BK129.out 3))
  (try simp only [Act.put, List.setIfInBounds_toArray, List.set_cons_zero, List.set_cons_succ])
  go_cut [12] (fun v12 wc => ∃ (kq : Nat) (x12_6 : Int) (x135001_6 : Int) (x135003_6 : Int), v12 = .int .i64 x12_6 ∧ Aside0 (r36_Read.j0 kq a2 (wrap64 (a1_0 + a1_1)) x12_6 (wrap64 (a1_0 + a1_1)) x135001_6 0 x135003_6 = some (r1, r2, r3, r4, r5, r6)) ∧ Aside0 (kq ≤ k) ∧ Aside0 (wc.heap[gb129]? = some (.cells #[.int .i64 a0_0, .int .i64 a0_1, .int .i64 a0_2, .int .i64 a0_3] 23 (0, 0))) ∧ Aside0 (wc.heap[gb130]? = some (.cells #[.int .i64 a1_0, .int .i64 a1_1] 25 (0, 0))) ∧ Aside0 (wc.heap[gb131]? = some (.cells #[.int .i64 0, .int .i64 0, .int .i64 0, .int .i64 0] 23 (0, 0))) ∧ Aside0 (wc.heap[gb132]? = some (.cells #[.int .i64 0, .int .i64 0] 25 (0, 0))) ∧ Aside0 (wc.heap[gb134]? = some (.cells #[.int .i64 (wrap64 (a1_0 + a1_1)), .int .i64 x135001_6, .int .i64 0, .int .i64 x135003_6] 23 (0, 0))) ∧ Aside0 (Below w.heap.size w wc))
  case first =>
   have H := HC7.out
   clear HC7
   by_cases c29 : a1_0 = a0_0
   ·rw [if_pos c29] at H
    have c29b0 : (a1_0 == a0_0) = true := beq_iff_eq.mpr c29
    have c29b1 : (a1_0 != a0_0) = false := bne_eq_false_iff_eq.mpr c29
    clear c29
    (first | rw [c29b0] | (simp only [i64_w, i32_w]; rw [c29b0]) | skip)
    obtain ⟨ji30, hji30⟩ : ∃ j_ : Int, (mx 1 (wrap64 (2 * a0_1))) = j_ := ⟨_, rfl⟩
    replace H : (r36_Read.j0 k a2 (wrap64 (a1_0 + a1_1)) (mx (wrap64 (a1_0 + a1_1)) a0_2) (wrap64 (a1_0 + a1_1)) (mn a3 (ji30)) 0 (wrap64 (a0_3 + 1))) = some (r1, r2, r3, r4, r5, r6) := by first | (rw [hji30] at H; exact H) | (simp only [hji30] at H ⊢; exact H)
    (try (have hji30l : 1 ≤ ji30 := by (rw [← hji30]; unfold mx; (repeat' split) <;> omega)))
    (try (have hji30m : 0 ≤ ji30 := by omega))
    have hji30_ : (if 1 < (wrap64 (2 * a0_1)) then (wrap64 (2 * a0_1)) else 1) = ji30 := hji30
    obtain ⟨ji31, hji31⟩ : ∃ j_ : Int, (mn a3 (ji30)) = j_ := ⟨_, rfl⟩
    replace H : (r36_Read.j0 k a2 (wrap64 (a1_0 + a1_1)) (mx (wrap64 (a1_0 + a1_1)) a0_2) (wrap64 (a1_0 + a1_1)) ji31 0 (wrap64 (a0_3 + 1))) = some (r1, r2, r3, r4, r5, r6) := by first | (rw [hji31] at H; exact H) | (simp only [hji31] at H ⊢; exact H)
    have hji31_ : (if (ji30) < a3 then (ji30) else a3) = ji31 := hji31
    obtain ⟨ji32, hji32⟩ : ∃ j_ : Int, (mx (wrap64 (a1_0 + a1_1)) a0_2) = j_ := ⟨_, rfl⟩
    replace H : (r36_Read.j0 k a2 (wrap64 (a1_0 + a1_1)) ji32 (wrap64 (a1_0 + a1_1)) ji31 0 (wrap64 (a0_3 + 1))) = some (r1, r2, r3, r4, r5, r6) := by first | (rw [hji32] at H; exact H) | (simp only [hji32] at H ⊢; exact H)
    have hji32_ : (if (wrap64 (a1_0 + a1_1)) < a0_2 then a0_2 else (wrap64 (a1_0 + a1_1))) = ji32 := hji32
    have H' := am H
    clear H
    have hnb33 := NB129_130.out
    have hnc33 := NB130_129.out
    have hnb34 := NB129_131.out
    have hnc34 := NB131_129.out
    have hnb35 := NB129_132.out
    have hnc35 := NB132_129.out
    have hnb36 := NB129_134.out
    have hnc36 := NB134_129.out
    have hcz37_0 : w21.cell? ⟨gb129, 0, none⟩ = some (.int .i64 a0_0) := (blk_cell BK129.out 0).trans rfl
    have hcz37_1 : w21.cell? ⟨gb129, 1, none⟩ = some (.int .i64 a0_1) := (blk_cell BK129.out 1).trans rfl
    have hcz37_2 : w21.cell? ⟨gb129, 2, none⟩ = some (.int .i64 a0_2) := (blk_cell BK129.out 2).trans rfl
    have hcz37_3 : w21.cell? ⟨gb129, 3, none⟩ = some (.int .i64 a0_3) := (blk_cell BK129.out 3).trans rfl
    have hfz37_0 := blk_frozen BK129.out 0
    have hfz37_1 := blk_frozen BK129.out 1
    have hfz37_2 := blk_frozen BK129.out 2
    have hfz37_3 := blk_frozen BK129.out 3
    have hnb38 := NB134_130.out
    have hnc38 := NB130_134.out
    have hnb39 := NB134_131.out
    have hnc39 := NB131_134.out
    have hnb40 := NB134_132.out
    have hnc40 := NB132_134.out
    have hcz41_0 : w21.cell? ⟨gb134, 0, none⟩ = some (.int .i64 0) := (blk_cell BK134.out 0).trans rfl
    have hcz41_1 : w21.cell? ⟨gb134, 1, none⟩ = some (.int .i64 0) := (blk_cell BK134.out 1).trans rfl
    have hcz41_2 : w21.cell? ⟨gb134, 2, none⟩ = some (.int .i64 0) := (blk_cell BK134.out 2).trans rfl
    have hcz41_3 : w21.cell? ⟨gb134, 3, none⟩ = some (.int .i64 0) := (blk_cell BK134.out 3).trans rfl
    have hfz41_0 := blk_frozen BK134.out 0
    have hfz41_1 := blk_frozen BK134.out 1
    have hfz41_2 := blk_frozen BK134.out 2
    have hfz41_3 := blk_frozen BK134.out 3
    go_wp2
    (try simp only [show (Value.int .i64 ji30) = .int .i64 (mx 1 (wrap64 (2 * a0_1))) from by rw [hji30], show (Value.int .i64 ji31) = .int .i64 (mn a3 (ji30)) from by rw [hji31], show (Value.int .i64 ji32) = .int .i64 (mx (wrap64 (a1_0 + a1_1)) a0_2) from by rw [hji32]])
    go_meet
    case rel => exact ⟨k, (ji32), (ji31), (wrap64 (a0_3 + 1)), (by first | rfl | (simp; done) | (simp only [← hji32] <;> (first | rfl | simp)) | (simp [*]; done)), (by first | exact H' | (rw [hji30, hji31, hji32]; exact H') | (simp only [hji30, hji31, hji32]; exact H')), ⟨by first | omega | exact Nat.le_refl _⟩, ⟨by refine zL ?_; refine blk_far ?_ NB129_134.out _; refine zL ?_; refine blk_far ?_ NB129_134.out _; refine zL ?_; refine blk_far ?_ NB129_134.out _; refine zL ?_; refine blk_far ?_ NB129_134.out _; refine zL ?_; refine blk_far ?_ NB129_134.out _; refine zL ?_; refine blk_far ?_ NB129_134.out _; refine zL ?_; exact BK129.out⟩, ⟨by refine zL ?_; refine blk_far ?_ NB130_134.out _; refine zL ?_; refine blk_far ?_ NB130_134.out _; refine zL ?_; refine blk_far ?_ NB130_134.out _; refine zL ?_; refine blk_far ?_ NB130_134.out _; refine zL ?_; refine blk_far ?_ NB130_134.out _; refine zL ?_; refine blk_far ?_ NB130_134.out _; refine zL ?_; exact BK130.out⟩, ⟨by refine zL ?_; refine blk_far ?_ NB131_134.out _; refine zL ?_; refine blk_far ?_ NB131_134.out _; refine zL ?_; refine blk_far ?_ NB131_134.out _; refine zL ?_; refine blk_far ?_ NB131_134.out _; refine zL ?_; refine blk_far ?_ NB131_134.out _; refine zL ?_; refine blk_far ?_ NB131_134.out _; refine zL ?_; exact BK131.out⟩, ⟨by refine zL ?_; refine blk_far ?_ NB132_134.out _; refine zL ?_; refine blk_far ?_ NB132_134.out _; refine zL ?_; refine blk_far ?_ NB132_134.out _; refine zL ?_; refine blk_far ?_ NB132_134.out _; refine zL ?_; refine blk_far ?_ NB132_134.out _; refine zL ?_; refine blk_far ?_ NB132_134.out _; refine zL ?_; exact BK132.out⟩, ⟨by refine zL ?_; refine blk_put (cs := #[.int .i64 (wrap64 (a1_0 + a1_1)), .int .i64 0, .int .i64 0, .int .i64 (wrap64 (a0_3 + 1))]) ?_ 1 _ (by first | rfl | (simp only [hji30, hji31, hji32]; done) | (simp only [hji30, hji31, hji32]; rfl)); refine zL ?_; refine blk_put (cs := #[.int .i64 (wrap64 (a1_0 + a1_1)), .int .i64 0, .int .i64 0, .int .i64 1]) ?_ 3 _ (by first | rfl | (simp only [hji30, hji31, hji32]; done) | (simp only [hji30, hji31, hji32]; rfl)); refine zL ?_; refine blk_put (cs := #[.int .i64 (wrap64 (a1_0 + a1_1)), .int .i64 0, .int .i64 0, .int .i64 0]) ?_ 3 _ (by first | rfl | (simp only [hji30, hji31, hji32]; done) | (simp only [hji30, hji31, hji32]; rfl)); refine zL ?_; refine blk_put (cs := #[.int .i64 (wrap64 (a1_0 + a1_1)), .int .i64 0, .int .i64 0, .int .i64 0]) ?_ 2 _ (by first | rfl | (simp only [hji30, hji31, hji32]; done) | (simp only [hji30, hji31, hji32]; rfl)); refine zL ?_; refine blk_put (cs := #[.int .i64 (wrap64 (a1_0 + a1_1)), .int .i64 0, .int .i64 0, .int .i64 0]) ?_ 1 _ (by first | rfl | (simp only [hji30, hji31, hji32]; done) | (simp only [hji30, hji31, hji32]; rfl)); refine zL ?_; refine blk_put (cs := #[.int .i64 0, .int .i64 0, .int .i64 0, .int .i64 0]) ?_ 0 _ (by first | rfl | (simp only [hji30, hji31, hji32]; done) | (simp only [hji30, hji31, hji32]; rfl)); refine zL ?_; exact BK134.out⟩, ⟨zG5 HB GE129 GE130 GE131 GE132 GE134⟩⟩
   ·rw [if_neg c29] at H
    have c29b0 : (a1_0 == a0_0) = false := beq_eq_false_iff_ne.mpr c29
    have c29b1 : (a1_0 != a0_0) = true := bne_iff_ne.mpr c29
    (first | rw [c29b0] | (simp only [i64_w, i32_w]; rw [c29b0]) | skip)
    have H' := am H
    clear H
    go_wp2
    go_meet
    case rel => exact ⟨_, (wrap64 (a1_0 + a1_1)), (0), (1), zS, H', ⟨by first | omega | exact Nat.le_refl _⟩, ⟨by refine zL ?_; refine blk_far ?_ NB129_134.out _; refine zL ?_; refine blk_far ?_ NB129_134.out _; refine zL ?_; refine blk_far ?_ NB129_134.out _; refine zL ?_; refine blk_far ?_ NB129_134.out _; refine zL ?_; exact BK129.out⟩, ⟨by refine zL ?_; refine blk_far ?_ NB130_134.out _; refine zL ?_; refine blk_far ?_ NB130_134.out _; refine zL ?_; refine blk_far ?_ NB130_134.out _; refine zL ?_; refine blk_far ?_ NB130_134.out _; refine zL ?_; exact BK130.out⟩, ⟨by refine zL ?_; refine blk_far ?_ NB131_134.out _; refine zL ?_; refine blk_far ?_ NB131_134.out _; refine zL ?_; refine blk_far ?_ NB131_134.out _; refine zL ?_; refine blk_far ?_ NB131_134.out _; refine zL ?_; exact BK131.out⟩, ⟨by refine zL ?_; refine blk_far ?_ NB132_134.out _; refine zL ?_; refine blk_far ?_ NB132_134.out _; refine zL ?_; refine blk_far ?_ NB132_134.out _; refine zL ?_; refine blk_far ?_ NB132_134.out _; refine zL ?_; exact BK132.out⟩, ⟨by refine zL ?_; refine blk_put (cs := #[.int .i64 (wrap64 (a1_0 + a1_1)), .int .i64 0, .int .i64 0, .int .i64 0]) ?_ 3 _ (by first | rfl | (simp only [hji30, hji31, hji32]; done) | (simp only [hji30, hji31, hji32]; rfl)); refine zL ?_; refine blk_put (cs := #[.int .i64 (wrap64 (a1_0 + a1_1)), .int .i64 0, .int .i64 0, .int .i64 0]) ?_ 2 _ (by first | rfl | (simp only [hji30, hji31, hji32]; done) | (simp only [hji30, hji31, hji32]; rfl)); refine zL ?_; refine blk_put (cs := #[.int .i64 (wrap64 (a1_0 + a1_1)), .int .i64 0, .int .i64 0, .int .i64 0]) ?_ 1 _ (by first | rfl | (simp only [hji30, hji31, hji32]; done) | (simp only [hji30, hji31, hji32]; rfl)); refine zL ?_; refine blk_put (cs := #[.int .i64 0, .int .i64 0, .int .i64 0, .int .i64 0]) ?_ 0 _ (by first | rfl | (simp only [hji30, hji31, hji32]; done) | (simp only [hji30, hji31, hji32]; rfl)); refine zL ?_; exact BK134.out⟩, ⟨zG5 HB GE129 GE130 GE131 GE132 GE134⟩⟩
  case rest =>
   clear HC7
   try clear c1
   try clear c2
   try clear p2
   try clear c3
   try clear c4
   try clear c6
   try clear p6
   try clear c11
   try clear c12
   try clear c13
   try clear c14
   try clear c16
   try clear c17
   try clear c21
   try clear c22
   try clear c23
   try clear c24
   try clear c25
   try clear c29
   try clear c29b0
   try clear c29b1
   try clear c33
   try clear c34
   try clear c35
   try clear c36
   try clear c38
   try clear c39
   try clear c40
   try clear hcz15_0
   try clear hcz15_1
   try clear hcz15_2
   try clear hcz15_3
   try clear hcz18_0
   try clear hcz18_1
   try clear hcz20_0
   try clear hcz20_1
   try clear hcz26_0
   try clear hcz26_1
   try clear hcz26_2
   try clear hcz26_3
   try clear hcz27_0
   try clear hcz27_1
   try clear hcz28_0
   try clear hcz28_1
   try clear hcz28_2
   try clear hcz28_3
   try clear hcz37_0
   try clear hcz37_1
   try clear hcz37_2
   try clear hcz37_3
   try clear hcz41_0
   try clear hcz41_1
   try clear hcz41_2
   try clear hcz41_3
   try clear hfz15_0
   try clear hfz15_1
   try clear hfz15_2
   try clear hfz15_3
   try clear hfz18_0
   try clear hfz18_1
   try clear hfz20_0
   try clear hfz20_1
   try clear hfz26_0
   try clear hfz26_1
   try clear hfz26_2
   try clear hfz26_3
   try clear hfz27_0
   try clear hfz27_1
   try clear hfz28_0
   try clear hfz28_1
   try clear hfz28_2
   try clear hfz28_3
   try clear hfz37_0
   try clear hfz37_1
   try clear hfz37_2
   try clear hfz37_3
   try clear hfz41_0
   try clear hfz41_1
   try clear hfz41_2
   try clear hfz41_3
   obtain ⟨kq, x12_6, x135001_6, x135003_6, rfl, HA, HJ6, BK129, BK130, BK131, BK132, BK134, HB⟩ := hcut
   cases kq with
   | zero => exact absurd HA.out (by simp [r36_Read.j0])
   | succ kj6 =>
    have H := HA.out
    clear HA
    simp only [r36_Read.j0] at H
    obtain ⟨ji42, hji42⟩ : ∃ j_ : Int, (mn a2 (wrap64 ((wrap64 (a1_0 + a1_1)) + (wrap64 (64 * x135001_6))))) = j_ := ⟨_, rfl⟩
    replace H : (if (ji42) > x12_6 then (some ((wrap64 (a1_0 + a1_1)), x135001_6, ji42, x135003_6, x12_6, wrap64 ((ji42) - x12_6))) else (some ((wrap64 (a1_0 + a1_1)), x135001_6, x12_6, x135003_6, 0, 0))) = some (r1, r2, r3, r4, r5, r6) := by first | (rw [hji42] at H; exact H) | (simp only [hji42] at H ⊢; exact H)
    have hji42_ : (if (wrap64 ((wrap64 (a1_0 + a1_1)) + (wrap64 (64 * x135001_6)))) < a2 then (wrap64 ((wrap64 (a1_0 + a1_1)) + (wrap64 (64 * x135001_6)))) else a2) = ji42 := hji42
    by_cases c43 : (ji42) > x12_6
    ·rw [if_pos c43] at H
     have c43b0 : decide (x12_6 < (ji42)) = true := decide_eq_true c43
     clear c43
     simp only [Option.some.injEq, Prod.mk.injEq] at H
     obtain ⟨rfl, rfl, rfl, rfl, rfl, rfl⟩ := H
     have hnb44 := NB134_129.out
     have hnc44 := NB129_134.out
     have hnb45 := NB134_130.out
     have hnc45 := NB130_134.out
     have hnb46 := NB134_131.out
     have hnc46 := NB131_134.out
     have hnb47 := NB134_132.out
     have hnc47 := NB132_134.out
     have hcz48_0 : wc.cell? ⟨gb134, 0, none⟩ = some (.int .i64 (wrap64 (a1_0 + a1_1))) := (blk_cell BK134.out 0).trans rfl
     have hcz48_1 : wc.cell? ⟨gb134, 1, none⟩ = some (.int .i64 x135001_6) := (blk_cell BK134.out 1).trans rfl
     have hcz48_2 : wc.cell? ⟨gb134, 2, none⟩ = some (.int .i64 0) := (blk_cell BK134.out 2).trans rfl
     have hcz48_3 : wc.cell? ⟨gb134, 3, none⟩ = some (.int .i64 x135003_6) := (blk_cell BK134.out 3).trans rfl
     have hfz48_0 := blk_frozen BK134.out 0
     have hfz48_1 := blk_frozen BK134.out 1
     have hfz48_2 := blk_frozen BK134.out 2
     have hfz48_3 := blk_frozen BK134.out 3
     have hnb49 := NB131_129.out
     have hnc49 := NB129_131.out
     have hnb50 := NB131_130.out
     have hnc50 := NB130_131.out
     have hnb51 := NB131_132.out
     have hnc51 := NB132_131.out
     have hcz52_0 : wc.cell? ⟨gb131, 0, none⟩ = some (.int .i64 0) := (blk_cell BK131.out 0).trans rfl
     have hcz52_1 : wc.cell? ⟨gb131, 1, none⟩ = some (.int .i64 0) := (blk_cell BK131.out 1).trans rfl
     have hcz52_2 : wc.cell? ⟨gb131, 2, none⟩ = some (.int .i64 0) := (blk_cell BK131.out 2).trans rfl
     have hcz52_3 : wc.cell? ⟨gb131, 3, none⟩ = some (.int .i64 0) := (blk_cell BK131.out 3).trans rfl
     have hfz52_0 := blk_frozen BK131.out 0
     have hfz52_1 := blk_frozen BK131.out 1
     have hfz52_2 := blk_frozen BK131.out 2
     have hfz52_3 := blk_frozen BK131.out 3
     have hnb53 := NB132_129.out
     have hnc53 := NB129_132.out
     have hnb54 := NB132_130.out
     have hnc54 := NB130_132.out
     have hcz55_0 : wc.cell? ⟨gb132, 0, none⟩ = some (.int .i64 0) := (blk_cell BK132.out 0).trans rfl
     have hcz55_1 : wc.cell? ⟨gb132, 1, none⟩ = some (.int .i64 0) := (blk_cell BK132.out 1).trans rfl
     have hfz55_0 := blk_frozen BK132.out 0
     have hfz55_1 := blk_frozen BK132.out 1
     go_wp2
     refine bodyPost_ret (results_cc rfl _ _ gb131 gb132 23 25 #[.int .i64 (wrap64 (a1_0 + a1_1)), .int .i64 x135001_6, .int .i64 ji42, .int .i64 x135003_6] #[.int .i64 x12_6, .int .i64 (wrap64 ((ji42) - x12_6))] (0, 0) (0, 0) _ _ rfl (by refine zL ?_; refine blk_far ?_ NB131_132.out _; refine zL ?_; refine blk_far ?_ NB131_132.out _; refine zL ?_; refine blk_put (cs := #[.int .i64 (wrap64 (a1_0 + a1_1)), .int .i64 x135001_6, .int .i64 ji42, .int .i64 0]) ?_ 3 _ (by first | rfl | (simp only [hji30, hji31, hji32]; done) | (simp only [hji30, hji31, hji32]; rfl)); refine zL ?_; refine blk_put (cs := #[.int .i64 (wrap64 (a1_0 + a1_1)), .int .i64 x135001_6, .int .i64 0, .int .i64 0]) ?_ 2 _ (by first | rfl | (simp only [hji30, hji31, hji32]; done) | (simp only [hji30, hji31, hji32]; rfl)); refine zL ?_; refine blk_put (cs := #[.int .i64 (wrap64 (a1_0 + a1_1)), .int .i64 0, .int .i64 0, .int .i64 0]) ?_ 1 _ (by first | rfl | (simp only [hji30, hji31, hji32]; done) | (simp only [hji30, hji31, hji32]; rfl)); refine zL ?_; refine blk_put (cs := #[.int .i64 0, .int .i64 0, .int .i64 0, .int .i64 0]) ?_ 0 _ (by first | rfl | (simp only [hji30, hji31, hji32]; done) | (simp only [hji30, hji31, hji32]; rfl)); refine zL ?_; refine blk_far ?_ NB131_134.out _; refine zL ?_; exact BK131.out) Try.underlying23 rfl (by kernel_rfl) rfl (by refine zL ?_; refine blk_put (cs := #[.int .i64 x12_6, .int .i64 0]) ?_ 1 _ (by first | rfl | (simp only [hji30, hji31, hji32]; done) | (simp only [hji30, hji31, hji32]; rfl)); refine zL ?_; refine blk_put (cs := #[.int .i64 0, .int .i64 0]) ?_ 0 _ (by first | rfl | (simp only [hji30, hji31, hji32]; done) | (simp only [hji30, hji31, hji32]; rfl)); refine zL ?_; refine blk_far ?_ NB132_131.out _; refine zL ?_; refine blk_far ?_ NB132_131.out _; refine zL ?_; refine blk_far ?_ NB132_131.out _; refine zL ?_; refine blk_far ?_ NB132_131.out _; refine zL ?_; refine blk_far ?_ NB132_134.out _; refine zL ?_; exact BK132.out) Try.underlying25 rfl (by kernel_rfl)) rfl ?_
     exact ⟨by first | rfl | (simp [errW_none, errW_some] <;> rfl) | (simp only [← hji42]; first | rfl | (simp [errW_none, errW_some] <;> rfl)) | (simp [*, errW_none, errW_some] <;> rfl), zG5 HB GE129 GE130 GE131 GE132 GE134⟩
    ·rw [if_neg c43] at H
     have c43b0 : decide (x12_6 < (ji42)) = false := decide_eq_false c43
     clear c43
     simp only [Option.some.injEq, Prod.mk.injEq] at H
     obtain ⟨rfl, rfl, rfl, rfl, rfl, rfl⟩ := H
     have hnb56 := NB134_129.out
     have hnc56 := NB129_134.out
     have hnb57 := NB134_130.out
     have hnc57 := NB130_134.out
     have hnb58 := NB134_131.out
     have hnc58 := NB131_134.out
     have hnb59 := NB134_132.out
     have hnc59 := NB132_134.out
     have hcz60_0 : wc.cell? ⟨gb134, 0, none⟩ = some (.int .i64 (wrap64 (a1_0 + a1_1))) := (blk_cell BK134.out 0).trans rfl
     have hcz60_1 : wc.cell? ⟨gb134, 1, none⟩ = some (.int .i64 x135001_6) := (blk_cell BK134.out 1).trans rfl
     have hcz60_2 : wc.cell? ⟨gb134, 2, none⟩ = some (.int .i64 0) := (blk_cell BK134.out 2).trans rfl
     have hcz60_3 : wc.cell? ⟨gb134, 3, none⟩ = some (.int .i64 x135003_6) := (blk_cell BK134.out 3).trans rfl
     have hfz60_0 := blk_frozen BK134.out 0
     have hfz60_1 := blk_frozen BK134.out 1
     have hfz60_2 := blk_frozen BK134.out 2
     have hfz60_3 := blk_frozen BK134.out 3
     have hnb61 := NB131_129.out
     have hnc61 := NB129_131.out
     have hnb62 := NB131_130.out
     have hnc62 := NB130_131.out
     have hnb63 := NB131_132.out
     have hnc63 := NB132_131.out
     have hcz64_0 : wc.cell? ⟨gb131, 0, none⟩ = some (.int .i64 0) := (blk_cell BK131.out 0).trans rfl
     have hcz64_1 : wc.cell? ⟨gb131, 1, none⟩ = some (.int .i64 0) := (blk_cell BK131.out 1).trans rfl
     have hcz64_2 : wc.cell? ⟨gb131, 2, none⟩ = some (.int .i64 0) := (blk_cell BK131.out 2).trans rfl
     have hcz64_3 : wc.cell? ⟨gb131, 3, none⟩ = some (.int .i64 0) := (blk_cell BK131.out 3).trans rfl
     have hfz64_0 := blk_frozen BK131.out 0
     have hfz64_1 := blk_frozen BK131.out 1
     have hfz64_2 := blk_frozen BK131.out 2
     have hfz64_3 := blk_frozen BK131.out 3
     have hnb65 := NB132_129.out
     have hnc65 := NB129_132.out
     have hnb66 := NB132_130.out
     have hnc66 := NB130_132.out
     have hcz67_0 : wc.cell? ⟨gb132, 0, none⟩ = some (.int .i64 0) := (blk_cell BK132.out 0).trans rfl
     have hcz67_1 : wc.cell? ⟨gb132, 1, none⟩ = some (.int .i64 0) := (blk_cell BK132.out 1).trans rfl
     have hfz67_0 := blk_frozen BK132.out 0
     have hfz67_1 := blk_frozen BK132.out 1
     go_wp2
     refine bodyPost_ret (results_cc rfl _ _ gb131 gb132 23 25 #[.int .i64 (wrap64 (a1_0 + a1_1)), .int .i64 x135001_6, .int .i64 x12_6, .int .i64 x135003_6] #[.int .i64 0, .int .i64 0] (0, 0) (0, 0) _ _ rfl (by refine zL ?_; refine blk_far ?_ NB131_132.out _; refine zL ?_; refine blk_far ?_ NB131_132.out _; refine zL ?_; refine blk_put (cs := #[.int .i64 (wrap64 (a1_0 + a1_1)), .int .i64 x135001_6, .int .i64 x12_6, .int .i64 0]) ?_ 3 _ (by first | rfl | (simp only [hji30, hji31, hji32]; done) | (simp only [hji30, hji31, hji32]; rfl)); refine zL ?_; refine blk_put (cs := #[.int .i64 (wrap64 (a1_0 + a1_1)), .int .i64 x135001_6, .int .i64 0, .int .i64 0]) ?_ 2 _ (by first | rfl | (simp only [hji30, hji31, hji32]; done) | (simp only [hji30, hji31, hji32]; rfl)); refine zL ?_; refine blk_put (cs := #[.int .i64 (wrap64 (a1_0 + a1_1)), .int .i64 0, .int .i64 0, .int .i64 0]) ?_ 1 _ (by first | rfl | (simp only [hji30, hji31, hji32]; done) | (simp only [hji30, hji31, hji32]; rfl)); refine zL ?_; refine blk_put (cs := #[.int .i64 0, .int .i64 0, .int .i64 0, .int .i64 0]) ?_ 0 _ (by first | rfl | (simp only [hji30, hji31, hji32]; done) | (simp only [hji30, hji31, hji32]; rfl)); refine zL ?_; refine blk_far ?_ NB131_134.out _; refine zL ?_; exact BK131.out) Try.underlying23 rfl (by kernel_rfl) rfl (by refine zL ?_; refine blk_put (cs := #[.int .i64 0, .int .i64 0]) ?_ 1 _ (by first | rfl | (simp only [hji30, hji31, hji32]; done) | (simp only [hji30, hji31, hji32]; rfl)); refine zL ?_; refine blk_put (cs := #[.int .i64 0, .int .i64 0]) ?_ 0 _ (by first | rfl | (simp only [hji30, hji31, hji32]; done) | (simp only [hji30, hji31, hji32]; rfl)); refine zL ?_; refine blk_far ?_ NB132_131.out _; refine zL ?_; refine blk_far ?_ NB132_131.out _; refine zL ?_; refine blk_far ?_ NB132_131.out _; refine zL ?_; refine blk_far ?_ NB132_131.out _; refine zL ?_; refine blk_far ?_ NB132_134.out _; refine zL ?_; exact BK132.out) Try.underlying25 rfl (by kernel_rfl)) rfl ?_
     exact ⟨by first | rfl | (simp [errW_none, errW_some] <;> rfl) | (simp only [← hji42]; first | rfl | (simp [errW_none, errW_some] <;> rfl)) | (simp [*, errW_none, errW_some] <;> rfl), zG5 HB GE129 GE130 GE131 GE132 GE134⟩
 ·replace c6 := Bool.eq_false_iff.mpr c6
  subst c6
  have H1 : (some (0, 0, 0, 0, 0, 0)) = some (r1, r2, r3, r4, r5, r6) := by rw [if_neg (show ¬ (false = true) by decide)] at H; exact H
  clear H
  have H := H1
  clear H1
  simp only [Option.some.injEq, Prod.mk.injEq] at H
  obtain ⟨rfl, rfl, rfl, rfl, rfl, rfl⟩ := H
  go_enter Try.func11, Try.ntmps11
  go_wp2_with (first | ((with_reducible refine gate_dst (N := 4) rfl ?_); refine box_event ?hg (N := 4) ?hd (cs := #[.int .i64 a0_0, .int .i64 a0_1, .int .i64 a0_2, .int .i64 a0_3]) (t := 23) ?hr ?_; (case hd => rfl); (case hg => rfl); (case hr => first | (go_simp; done) | (go_simp; rfl)); intro gb129 hg w68 hbox hb; have n0_ := am (below_step (zB HB) hb); have n1_ := am (hbox); have n2_ := am ((by rw [hg]; exact (below_size (zB HB)) : w.heap.size ≤ gb129)); have n3_ := am ((by rw [hg]; exact (below_size (zB HB)) : w.heap.size ≤ gb129)); clear HB; have HB := n0_; have BK129 := n1_; have GW129 := n2_; have GE129 := n3_; clear n0_ n1_ n2_ n3_; clear hb hbox hg) | ((with_reducible refine gate_dst (N := 5) rfl ?_); refine box_event ?hg (N := 5) ?hd (cs := #[.int .i64 a1_0, .int .i64 a1_1]) (t := 25) ?hr ?_; (case hd => rfl); (case hg => rfl); (case hr => first | (go_simp; done) | (go_simp; rfl)); intro gb130 hg w69 hbox hb; have n0_ := am (blk_below (g := gb129) (o := .cells #[.int .i64 a0_0, .int .i64 a0_1, .int .i64 a0_2, .int .i64 a0_3] 23 (0, 0)) (zL BK129.out) hb); have n1_ := am (below_step (zG HB GE129) hb); have n2_ := am (hbox); have n3_ := am ((by rw [hg]; exact (below_size (zG HB GE129)) : w.heap.size ≤ gb130)); have n4_ := am ((by rw [hg]; exact (below_size (zG HB GE129)) : w.heap.size ≤ gb130)); have n5_ := am ((by rw [hg]; exact Nat.ne_of_lt (blk_lt (g := gb129) (o := .cells #[.int .i64 a0_0, .int .i64 a0_1, .int .i64 a0_2, .int .i64 a0_3] 23 (0, 0)) (zL BK129.out)) : gb129 ≠ gb130)); have n6_ := am ((by rw [hg]; exact Nat.ne_of_gt (blk_lt (g := gb129) (o := .cells #[.int .i64 a0_0, .int .i64 a0_1, .int .i64 a0_2, .int .i64 a0_3] 23 (0, 0)) (zL BK129.out)) : gb130 ≠ gb129)); clear BK129; clear HB; have BK129 := n0_; have HB := n1_; have BK130 := n2_; have GW130 := n3_; have GE130 := n4_; have NB129_130 := n5_; have NB130_129 := n6_; clear n0_ n1_ n2_ n3_ n4_ n5_ n6_; clear hb hbox hg) | ((with_reducible refine gate_dst (N := 8) rfl ?_); refine box_event ?hg (N := 8) ?hd (cs := #[.int .i64 0, .int .i64 0, .int .i64 0, .int .i64 0]) (t := 23) ?hr ?_; (case hd => rfl); (case hg => rfl); (case hr => first | (go_simp; done) | (go_simp; rfl)); intro gb131 hg w70 hbox hb; have n0_ := am (blk_below (g := gb129) (o := .cells #[.int .i64 a0_0, .int .i64 a0_1, .int .i64 a0_2, .int .i64 a0_3] 23 (0, 0)) (zL BK129.out) hb); have n1_ := am (blk_below (g := gb130) (o := .cells #[.int .i64 a1_0, .int .i64 a1_1] 25 (0, 0)) (zL BK130.out) hb); have n2_ := am (below_step (zG2 HB GE129 GE130) hb); have n3_ := am (hbox); have n4_ := am ((by rw [hg]; exact (below_size (zG2 HB GE129 GE130)) : w.heap.size ≤ gb131)); have n5_ := am ((by rw [hg]; exact (below_size (zG2 HB GE129 GE130)) : w.heap.size ≤ gb131)); have n6_ := am ((by rw [hg]; exact Nat.ne_of_lt (blk_lt (g := gb129) (o := .cells #[.int .i64 a0_0, .int .i64 a0_1, .int .i64 a0_2, .int .i64 a0_3] 23 (0, 0)) (zL BK129.out)) : gb129 ≠ gb131)); have n7_ := am ((by rw [hg]; exact Nat.ne_of_gt (blk_lt (g := gb129) (o := .cells #[.int .i64 a0_0, .int .i64 a0_1, .int .i64 a0_2, .int .i64 a0_3] 23 (0, 0)) (zL BK129.out)) : gb131 ≠ gb129)); have n8_ := am ((by rw [hg]; exact Nat.ne_of_lt (blk_lt (g := gb130) (o := .cells #[.int .i64 a1_0, .int .i64 a1_1] 25 (0, 0)) (zL BK130.out)) : gb130 ≠ gb131)); have n9_ := am ((by rw [hg]; exact Nat.ne_of_gt (blk_lt (g := gb130) (o := .cells #[.int .i64 a1_0, .int .i64 a1_1] 25 (0, 0)) (zL BK130.out)) : gb131 ≠ gb130)); clear BK129; clear BK130; clear HB; have BK129 := n0_; have BK130 := n1_; have HB := n2_; have BK131 := n3_; have GW131 := n4_; have GE131 := n5_; have NB129_131 := n6_; have NB131_129 := n7_; have NB130_131 := n8_; have NB131_130 := n9_; clear n0_ n1_ n2_ n3_ n4_ n5_ n6_ n7_ n8_ n9_; clear hb hbox hg) | ((with_reducible refine gate_dst (N := 9) rfl ?_); refine box_event ?hg (N := 9) ?hd (cs := #[.int .i64 0, .int .i64 0]) (t := 25) ?hr ?_; (case hd => rfl); (case hg => rfl); (case hr => first | (go_simp; done) | (go_simp; rfl)); intro gb132 hg w71 hbox hb; have n0_ := am (blk_below (g := gb129) (o := .cells #[.int .i64 a0_0, .int .i64 a0_1, .int .i64 a0_2, .int .i64 a0_3] 23 (0, 0)) (zL BK129.out) hb); have n1_ := am (blk_below (g := gb130) (o := .cells #[.int .i64 a1_0, .int .i64 a1_1] 25 (0, 0)) (zL BK130.out) hb); have n2_ := am (blk_below (g := gb131) (o := .cells #[.int .i64 0, .int .i64 0, .int .i64 0, .int .i64 0] 23 (0, 0)) (zL BK131.out) hb); have n3_ := am (below_step (zG3 HB GE129 GE130 GE131) hb); have n4_ := am (hbox); have n5_ := am ((by rw [hg]; exact (below_size (zG3 HB GE129 GE130 GE131)) : w.heap.size ≤ gb132)); have n6_ := am ((by rw [hg]; exact (below_size (zG3 HB GE129 GE130 GE131)) : w.heap.size ≤ gb132)); have n7_ := am ((by rw [hg]; exact Nat.ne_of_lt (blk_lt (g := gb129) (o := .cells #[.int .i64 a0_0, .int .i64 a0_1, .int .i64 a0_2, .int .i64 a0_3] 23 (0, 0)) (zL BK129.out)) : gb129 ≠ gb132)); have n8_ := am ((by rw [hg]; exact Nat.ne_of_gt (blk_lt (g := gb129) (o := .cells #[.int .i64 a0_0, .int .i64 a0_1, .int .i64 a0_2, .int .i64 a0_3] 23 (0, 0)) (zL BK129.out)) : gb132 ≠ gb129)); have n9_ := am ((by rw [hg]; exact Nat.ne_of_lt (blk_lt (g := gb130) (o := .cells #[.int .i64 a1_0, .int .i64 a1_1] 25 (0, 0)) (zL BK130.out)) : gb130 ≠ gb132)); have n10_ := am ((by rw [hg]; exact Nat.ne_of_gt (blk_lt (g := gb130) (o := .cells #[.int .i64 a1_0, .int .i64 a1_1] 25 (0, 0)) (zL BK130.out)) : gb132 ≠ gb130)); have n11_ := am ((by rw [hg]; exact Nat.ne_of_lt (blk_lt (g := gb131) (o := .cells #[.int .i64 0, .int .i64 0, .int .i64 0, .int .i64 0] 23 (0, 0)) (zL BK131.out)) : gb131 ≠ gb132)); have n12_ := am ((by rw [hg]; exact Nat.ne_of_gt (blk_lt (g := gb131) (o := .cells #[.int .i64 0, .int .i64 0, .int .i64 0, .int .i64 0] 23 (0, 0)) (zL BK131.out)) : gb132 ≠ gb131)); clear BK129; clear BK130; clear BK131; clear HB; have BK129 := n0_; have BK130 := n1_; have BK131 := n2_; have HB := n3_; have BK132 := n4_; have GW132 := n5_; have GE132 := n6_; have NB129_132 := n7_; have NB132_129 := n8_; have NB130_132 := n9_; have NB132_130 := n10_; have NB131_132 := n11_; have NB132_131 := n12_; clear n0_ n1_ n2_ n3_ n4_ n5_ n6_ n7_ n8_ n9_ n10_ n11_ n12_; clear hb hbox hg; have hnb72 := NB129_130.out; have hnc72 := NB130_129.out; have hnb73 := NB129_131.out; have hnc73 := NB131_129.out; have hnb74 := NB129_132.out; have hnc74 := NB132_129.out; have hcz75_0 : w71.cell? ⟨gb129, 0, none⟩ = some (.int .i64 a0_0) := (blk_cell BK129.out 0).trans rfl; have hcz75_1 : w71.cell? ⟨gb129, 1, none⟩ = some (.int .i64 a0_1) := (blk_cell BK129.out 1).trans rfl; have hcz75_2 : w71.cell? ⟨gb129, 2, none⟩ = some (.int .i64 a0_2) := (blk_cell BK129.out 2).trans rfl; have hcz75_3 : w71.cell? ⟨gb129, 3, none⟩ = some (.int .i64 a0_3) := (blk_cell BK129.out 3).trans rfl; have hfz75_0 := blk_frozen BK129.out 0; have hfz75_1 := blk_frozen BK129.out 1; have hfz75_2 := blk_frozen BK129.out 2; have hfz75_3 := blk_frozen BK129.out 3; have hnb76 := NB130_131.out; have hnc76 := NB131_130.out; have hnb77 := NB130_132.out; have hnc77 := NB132_130.out; have hcz78_0 : w71.cell? ⟨gb130, 0, none⟩ = some (.int .i64 a1_0) := (blk_cell BK130.out 0).trans rfl; have hcz78_1 : w71.cell? ⟨gb130, 1, none⟩ = some (.int .i64 a1_1) := (blk_cell BK130.out 1).trans rfl; have hfz78_0 := blk_frozen BK130.out 0; have hfz78_1 := blk_frozen BK130.out 1) | ((with_reducible refine gate_callee (f := 21) rfl ?_); refine goesL_ (some 18) rfl rfl Try.func21 (by kernel_rfl) rfl #[.agg #[.int .i64 a0_0, .int .i64 a0_1, .int .i64 a0_2, .int .i64 a0_3], .agg #[.int .i64 a1_0, .int .i64 a1_1], .int .i64 a2, .int .i64 a3] rfl zM ?_; (with_reducible refine (r36_Valid.calls k a0_0 a0_1 a0_2 a0_3 a1_0 a1_1 a2 a3 false _ A5.out).mono ?_); rintro e w79 ⟨rfl, hb⟩; refine ⟨_, rfl, ?_⟩; have n0_ := am (blk_below (g := gb129) (o := .cells #[.int .i64 a0_0, .int .i64 a0_1, .int .i64 a0_2, .int .i64 a0_3] 23 (0, 0)) (zL BK129.out) hb); have n1_ := am (blk_below (g := gb130) (o := .cells #[.int .i64 a1_0, .int .i64 a1_1] 25 (0, 0)) (zL BK130.out) hb); have n2_ := am (blk_below (g := gb131) (o := .cells #[.int .i64 0, .int .i64 0, .int .i64 0, .int .i64 0] 23 (0, 0)) (zL BK131.out) hb); have n3_ := am (blk_below (g := gb132) (o := .cells #[.int .i64 0, .int .i64 0] 25 (0, 0)) (zL BK132.out) hb); have n4_ := am (below_step (zG4 HB GE129 GE130 GE131 GE132) hb); clear BK129; clear BK130; clear BK131; clear BK132; clear HB; have BK129 := n0_; have BK130 := n1_; have BK131 := n2_; have BK132 := n3_; have HB := n4_; clear n0_ n1_ n2_ n3_ n4_; (try clear hb); (try clear hb2); (try clear hk); (try clear hi); have hnb80 := NB131_132.out; have hnc80 := NB132_131.out; have hcz81_0 : w79.cell? ⟨gb131, 0, none⟩ = some (.int .i64 0) := (blk_cell BK131.out 0).trans rfl; have hcz81_1 : w79.cell? ⟨gb131, 1, none⟩ = some (.int .i64 0) := (blk_cell BK131.out 1).trans rfl; have hcz81_2 : w79.cell? ⟨gb131, 2, none⟩ = some (.int .i64 0) := (blk_cell BK131.out 2).trans rfl; have hcz81_3 : w79.cell? ⟨gb131, 3, none⟩ = some (.int .i64 0) := (blk_cell BK131.out 3).trans rfl; have hfz81_0 := blk_frozen BK131.out 0; have hfz81_1 := blk_frozen BK131.out 1; have hfz81_2 := blk_frozen BK131.out 2; have hfz81_3 := blk_frozen BK131.out 3; have hcz82_0 : w79.cell? ⟨gb132, 0, none⟩ = some (.int .i64 0) := (blk_cell BK132.out 0).trans rfl; have hcz82_1 : w79.cell? ⟨gb132, 1, none⟩ = some (.int .i64 0) := (blk_cell BK132.out 1).trans rfl; have hfz82_0 := blk_frozen BK132.out 0; have hfz82_1 := blk_frozen BK132.out 1))
  refine bodyPost_ret (results_cc rfl _ _ gb131 gb132 23 25 #[.int .i64 0, .int .i64 0, .int .i64 0, .int .i64 0] #[.int .i64 0, .int .i64 0] (0, 0) (0, 0) _ _ rfl (by refine zL ?_; refine blk_far ?_ NB131_132.out _; refine zL ?_; refine blk_far ?_ NB131_132.out _; refine zL ?_; refine blk_put (cs := #[.int .i64 0, .int .i64 0, .int .i64 0, .int .i64 0]) ?_ 3 _ (by first | rfl | (simp only [hji30, hji31, hji32]; done) | (simp only [hji30, hji31, hji32]; rfl)); refine zL ?_; refine blk_put (cs := #[.int .i64 0, .int .i64 0, .int .i64 0, .int .i64 0]) ?_ 2 _ (by first | rfl | (simp only [hji30, hji31, hji32]; done) | (simp only [hji30, hji31, hji32]; rfl)); refine zL ?_; refine blk_put (cs := #[.int .i64 0, .int .i64 0, .int .i64 0, .int .i64 0]) ?_ 1 _ (by first | rfl | (simp only [hji30, hji31, hji32]; done) | (simp only [hji30, hji31, hji32]; rfl)); refine zL ?_; refine blk_put (cs := #[.int .i64 0, .int .i64 0, .int .i64 0, .int .i64 0]) ?_ 0 _ (by first | rfl | (simp only [hji30, hji31, hji32]; done) | (simp only [hji30, hji31, hji32]; rfl)); refine zL ?_; exact BK131.out) Try.underlying23 rfl (by kernel_rfl) rfl (by refine zL ?_; refine blk_put (cs := #[.int .i64 0, .int .i64 0]) ?_ 1 _ (by first | rfl | (simp only [hji30, hji31, hji32]; done) | (simp only [hji30, hji31, hji32]; rfl)); refine zL ?_; refine blk_put (cs := #[.int .i64 0, .int .i64 0]) ?_ 0 _ (by first | rfl | (simp only [hji30, hji31, hji32]; done) | (simp only [hji30, hji31, hji32]; rfl)); refine zL ?_; refine blk_far ?_ NB132_131.out _; refine zL ?_; refine blk_far ?_ NB132_131.out _; refine zL ?_; refine blk_far ?_ NB132_131.out _; refine zL ?_; refine blk_far ?_ NB132_131.out _; refine zL ?_; exact BK132.out) Try.underlying25 rfl (by kernel_rfl)) rfl ?_
  exact ⟨by first | rfl | (simp [errW_none, errW_some] <;> rfl) | (simp [*, errW_none, errW_some] <;> rfl), zG4 HB GE129 GE130 GE131 GE132⟩

/-! ### extent_sound: function 52 -/
def extent_sound.f (a0_0 : Int) (a0_1 : Int) : Option (Bool) := if a0_0 ≥ 0 then (if a0_1 ≥ 1 then (if a0_1 ≤ 1125899906842624 then (some (decide (a0_0 ≤ (wrap64 (1125899906842624 - a0_1))))) else (some false)) else (some false)) else (some false)
set_option maxHeartbeats 8000000 in
set_option maxRecDepth 100000 in
theorem extent_sound.calls (a0_0 : Int) (a0_1 : Int) (r : Bool) (w : World) (h : extent_sound.f a0_0 a0_1 = some r) :
  Calls Try.prog 52 #[.agg #[.int .i64 a0_0, .int .i64 a0_1]] w fun e w' => e = .returned (.bool r) ∧ Below w.heap.size w w' := by
 have hu25 := Try.underlying25
 have HB := am (Below.refl w.heap.size w)
 have H : (if a0_0 ≥ 0 then (if a0_1 ≥ 1 then (if a0_1 ≤ 1125899906842624 then (some (decide (a0_0 ≤ (wrap64 (1125899906842624 - a0_1))))) else (some false)) else (some false)) else (some false)) = some r := h
 clear h
 by_cases c2 : a0_0 ≥ 0
 ·rw [if_pos c2] at H
  have c2b0 : decide (0 ≤ a0_0) = true := decide_eq_true c2
  clear c2
  by_cases c3 : a0_1 ≥ 1
  ·rw [if_pos c3] at H
   have c3b0 : decide (1 ≤ a0_1) = true := decide_eq_true c3
   clear c3
   by_cases c4 : a0_1 ≤ 1125899906842624
   ·rw [if_pos c4] at H
    have c4b0 : decide (a0_1 ≤ 1125899906842624) = true := decide_eq_true c4
    clear c4
    obtain rfl := Option.some.inj H
    go_enter Try.func52, Try.ntmps52
    go_wp2_with (first | ((with_reducible refine gate_dst (N := 1) rfl ?_); refine box_event ?hg (N := 1) ?hd (cs := #[.int .i64 a0_0, .int .i64 a0_1]) (t := 25) ?hr ?_; (case hd => rfl); (case hg => rfl); (case hr => first | (go_simp; done) | (go_simp; rfl)); intro gb135 hg w5 hbox hb; have n0_ := am (below_step (zB HB) hb); have n1_ := am (hbox); have n2_ := am ((by rw [hg]; exact (below_size (zB HB)) : w.heap.size ≤ gb135)); have n3_ := am ((by rw [hg]; exact (below_size (zB HB)) : w.heap.size ≤ gb135)); clear HB; have HB := n0_; have BK135 := n1_; have GW135 := n2_; have GE135 := n3_; clear n0_ n1_ n2_ n3_; clear hb hbox hg; have hcz6_0 : w5.cell? ⟨gb135, 0, none⟩ = some (.int .i64 a0_0) := (blk_cell BK135.out 0).trans rfl; have hcz6_1 : w5.cell? ⟨gb135, 1, none⟩ = some (.int .i64 a0_1) := (blk_cell BK135.out 1).trans rfl; have hfz6_0 := blk_frozen BK135.out 0; have hfz6_1 := blk_frozen BK135.out 1))
    go_ret
    exact ⟨by first | rfl | (simp [errW_none, errW_some] <;> rfl) | (simp [*, errW_none, errW_some] <;> rfl), zG HB GE135⟩
   ·rw [if_neg c4] at H
    have c4b0 : decide (a0_1 ≤ 1125899906842624) = false := decide_eq_false c4
    clear c4
    obtain rfl := Option.some.inj H
    go_enter Try.func52, Try.ntmps52
    go_wp2_with (first | ((with_reducible refine gate_dst (N := 1) rfl ?_); refine box_event ?hg (N := 1) ?hd (cs := #[.int .i64 a0_0, .int .i64 a0_1]) (t := 25) ?hr ?_; (case hd => rfl); (case hg => rfl); (case hr => first | (go_simp; done) | (go_simp; rfl)); intro gb135 hg w7 hbox hb; have n0_ := am (below_step (zB HB) hb); have n1_ := am (hbox); have n2_ := am ((by rw [hg]; exact (below_size (zB HB)) : w.heap.size ≤ gb135)); have n3_ := am ((by rw [hg]; exact (below_size (zB HB)) : w.heap.size ≤ gb135)); clear HB; have HB := n0_; have BK135 := n1_; have GW135 := n2_; have GE135 := n3_; clear n0_ n1_ n2_ n3_; clear hb hbox hg; have hcz8_0 : w7.cell? ⟨gb135, 0, none⟩ = some (.int .i64 a0_0) := (blk_cell BK135.out 0).trans rfl; have hcz8_1 : w7.cell? ⟨gb135, 1, none⟩ = some (.int .i64 a0_1) := (blk_cell BK135.out 1).trans rfl; have hfz8_0 := blk_frozen BK135.out 0; have hfz8_1 := blk_frozen BK135.out 1))
    go_ret
    exact ⟨by first | rfl | (simp [errW_none, errW_some] <;> rfl) | (simp [*, errW_none, errW_some] <;> rfl), zG HB GE135⟩
  ·rw [if_neg c3] at H
   have c3b0 : decide (1 ≤ a0_1) = false := decide_eq_false c3
   clear c3
   obtain rfl := Option.some.inj H
   go_enter Try.func52, Try.ntmps52
   go_wp2_with (first | ((with_reducible refine gate_dst (N := 1) rfl ?_); refine box_event ?hg (N := 1) ?hd (cs := #[.int .i64 a0_0, .int .i64 a0_1]) (t := 25) ?hr ?_; (case hd => rfl); (case hg => rfl); (case hr => first | (go_simp; done) | (go_simp; rfl)); intro gb135 hg w9 hbox hb; have n0_ := am (below_step (zB HB) hb); have n1_ := am (hbox); have n2_ := am ((by rw [hg]; exact (below_size (zB HB)) : w.heap.size ≤ gb135)); have n3_ := am ((by rw [hg]; exact (below_size (zB HB)) : w.heap.size ≤ gb135)); clear HB; have HB := n0_; have BK135 := n1_; have GW135 := n2_; have GE135 := n3_; clear n0_ n1_ n2_ n3_; clear hb hbox hg; have hcz10_0 : w9.cell? ⟨gb135, 0, none⟩ = some (.int .i64 a0_0) := (blk_cell BK135.out 0).trans rfl; have hcz10_1 : w9.cell? ⟨gb135, 1, none⟩ = some (.int .i64 a0_1) := (blk_cell BK135.out 1).trans rfl; have hfz10_0 := blk_frozen BK135.out 0; have hfz10_1 := blk_frozen BK135.out 1))
   go_ret
   exact ⟨by first | rfl | (simp [errW_none, errW_some] <;> rfl) | (simp [*, errW_none, errW_some] <;> rfl), zG HB GE135⟩
 ·rw [if_neg c2] at H
  have c2b0 : decide (0 ≤ a0_0) = false := decide_eq_false c2
  clear c2
  obtain rfl := Option.some.inj H
  go_enter Try.func52, Try.ntmps52
  go_wp2_with (first | ((with_reducible refine gate_dst (N := 1) rfl ?_); refine box_event ?hg (N := 1) ?hd (cs := #[.int .i64 a0_0, .int .i64 a0_1]) (t := 25) ?hr ?_; (case hd => rfl); (case hg => rfl); (case hr => first | (go_simp; done) | (go_simp; rfl)); intro gb135 hg w11 hbox hb; have n0_ := am (below_step (zB HB) hb); have n1_ := am (hbox); have n2_ := am ((by rw [hg]; exact (below_size (zB HB)) : w.heap.size ≤ gb135)); have n3_ := am ((by rw [hg]; exact (below_size (zB HB)) : w.heap.size ≤ gb135)); clear HB; have HB := n0_; have BK135 := n1_; have GW135 := n2_; have GE135 := n3_; clear n0_ n1_ n2_ n3_; clear hb hbox hg; have hcz12_0 : w11.cell? ⟨gb135, 0, none⟩ = some (.int .i64 a0_0) := (blk_cell BK135.out 0).trans rfl; have hcz12_1 : w11.cell? ⟨gb135, 1, none⟩ = some (.int .i64 a0_1) := (blk_cell BK135.out 1).trans rfl; have hfz12_0 := blk_frozen BK135.out 0; have hfz12_1 := blk_frozen BK135.out 1))
  go_ret
  exact ⟨by first | rfl | (simp [errW_none, errW_some] <;> rfl) | (simp [*, errW_none, errW_some] <;> rfl), zG HB GE135⟩

/-! ### extent_edges_1: function 54 -/
def extent_edges_1.f (a0_0 : Int) (a0_1 : Int) (a0_2 : Int) (a1_0 : Int) (a1_1 : Int) (a1_2 : Int) : Option (Int) := some (wrap64 (a0_0 - a1_0))
set_option maxHeartbeats 8000000 in
set_option maxRecDepth 100000 in
theorem extent_edges_1.calls (a0_0 : Int) (a0_1 : Int) (a0_2 : Int) (a1_0 : Int) (a1_1 : Int) (a1_2 : Int) (r : Int) (w : World) (h : extent_edges_1.f a0_0 a0_1 a0_2 a1_0 a1_1 a1_2 = some r) :
  Calls Try.prog 54 #[.agg #[.int .i64 a0_0, .int .i64 a0_1, .int .i64 a0_2], .agg #[.int .i64 a1_0, .int .i64 a1_1, .int .i64 a1_2]] w fun e w' => e = .returned (.int .i64 r) ∧ Below w.heap.size w w' := by
 have hu71 := Try.underlying71
 have HB := am (Below.refl w.heap.size w)
 have H : (some (wrap64 (a0_0 - a1_0))) = some r := h
 clear h
 obtain rfl := Option.some.inj H
 go_enter Try.func54, Try.ntmps54
 go_wp2_with (first | ((with_reducible refine gate_dst (N := 2) rfl ?_); refine box_event ?hg (N := 2) ?hd (cs := #[.int .i64 a0_0, .int .i64 a0_1, .int .i64 a0_2]) (t := 71) ?hr ?_; (case hd => rfl); (case hg => rfl); (case hr => first | (go_simp; done) | (go_simp; rfl)); intro gb136 hg w3 hbox hb; have n0_ := am (below_step (zB HB) hb); have n1_ := am (hbox); have n2_ := am ((by rw [hg]; exact (below_size (zB HB)) : w.heap.size ≤ gb136)); have n3_ := am ((by rw [hg]; exact (below_size (zB HB)) : w.heap.size ≤ gb136)); clear HB; have HB := n0_; have BK136 := n1_; have GW136 := n2_; have GE136 := n3_; clear n0_ n1_ n2_ n3_; clear hb hbox hg) | ((with_reducible refine gate_dst (N := 3) rfl ?_); refine box_event ?hg (N := 3) ?hd (cs := #[.int .i64 a1_0, .int .i64 a1_1, .int .i64 a1_2]) (t := 71) ?hr ?_; (case hd => rfl); (case hg => rfl); (case hr => first | (go_simp; done) | (go_simp; rfl)); intro gb137 hg w4 hbox hb; have n0_ := am (blk_below (g := gb136) (o := .cells #[.int .i64 a0_0, .int .i64 a0_1, .int .i64 a0_2] 71 (0, 0)) (zL BK136.out) hb); have n1_ := am (below_step (zG HB GE136) hb); have n2_ := am (hbox); have n3_ := am ((by rw [hg]; exact (below_size (zG HB GE136)) : w.heap.size ≤ gb137)); have n4_ := am ((by rw [hg]; exact (below_size (zG HB GE136)) : w.heap.size ≤ gb137)); have n5_ := am ((by rw [hg]; exact Nat.ne_of_lt (blk_lt (g := gb136) (o := .cells #[.int .i64 a0_0, .int .i64 a0_1, .int .i64 a0_2] 71 (0, 0)) (zL BK136.out)) : gb136 ≠ gb137)); have n6_ := am ((by rw [hg]; exact Nat.ne_of_gt (blk_lt (g := gb136) (o := .cells #[.int .i64 a0_0, .int .i64 a0_1, .int .i64 a0_2] 71 (0, 0)) (zL BK136.out)) : gb137 ≠ gb136)); clear BK136; clear HB; have BK136 := n0_; have HB := n1_; have BK137 := n2_; have GW137 := n3_; have GE137 := n4_; have NB136_137 := n5_; have NB137_136 := n6_; clear n0_ n1_ n2_ n3_ n4_ n5_ n6_; clear hb hbox hg; have hnb5 := NB136_137.out; have hnc5 := NB137_136.out; have hcz6_0 : w4.cell? ⟨gb136, 0, none⟩ = some (.int .i64 a0_0) := (blk_cell BK136.out 0).trans rfl; have hcz6_1 : w4.cell? ⟨gb136, 1, none⟩ = some (.int .i64 a0_1) := (blk_cell BK136.out 1).trans rfl; have hcz6_2 : w4.cell? ⟨gb136, 2, none⟩ = some (.int .i64 a0_2) := (blk_cell BK136.out 2).trans rfl; have hfz6_0 := blk_frozen BK136.out 0; have hfz6_1 := blk_frozen BK136.out 1; have hfz6_2 := blk_frozen BK136.out 2; have hcz7_0 : w4.cell? ⟨gb137, 0, none⟩ = some (.int .i64 a1_0) := (blk_cell BK137.out 0).trans rfl; have hcz7_1 : w4.cell? ⟨gb137, 1, none⟩ = some (.int .i64 a1_1) := (blk_cell BK137.out 1).trans rfl; have hcz7_2 : w4.cell? ⟨gb137, 2, none⟩ = some (.int .i64 a1_2) := (blk_cell BK137.out 2).trans rfl; have hfz7_0 := blk_frozen BK137.out 0; have hfz7_1 := blk_frozen BK137.out 1; have hfz7_2 := blk_frozen BK137.out 2))
 go_ret
 exact ⟨by first | rfl | (simp [errW_none, errW_some] <;> rfl) | (simp [*, errW_none, errW_some] <;> rfl), zG2 HB GE136 GE137⟩

end
end Go.Proofs.Ytapbmkcncjkanaa.P
