-- Written by this session's wip/tools/px.py out of the translation. Lean checks it.
import Derived.Test.YtapbmkcncjkanaaP0
import Derived.Test.YtapbmkcncjkanaaP9
import Derived.Test.YtapbmkcncjkanaaP10
import Derived.Test.YtapbmkcncjkanaaP13
import Derived.Test.YtapbmkcncjkanaaP22
import Derived.Test.YtapbmkcncjkanaaAwake
namespace Go.Proofs.Ytapbmkcncjkanaa.P
noncomputable section
open Go.RowKit Go.Proofs.YtapbmkcncjkanaaW.PrintWords Go.Proofs.YtapbmkcncjkanaaW.PrintLast Go.Proofs.YtapbmkcncjkanaaW.PrintMore
attribute [local go_sem] max2_int min2_int max_two min_two max_three min_three max_four min_four   -- for this text's walks alone
set_option linter.unusedVariables false
set_option linter.unusedSimpArgs false

/-! ### tapearchivelaw36_PrefetchRequests: function 5 -/
def tapearchivelaw36_PrefetchRequests.j0 : Nat → List (S25) → Bool → Int → Int → Int → Int → Int → Int → Int → Int → Int → Int → Option (Bool)
 | 0, _, _, _, _, _, _, _, _, _, _, _, _ => none
 | k + 1, x0, x37, x487000, x487001, x488000, x488001, x488002, x488003, x488004, x488005, x488006, x488007 => if x37 = true then ((tapearchivelaw36_awake_s.f).bind fun t493 => (some t493)) else ((prefetch_Requests.f k x0 x487000 x487001 x488006 x488007).bind fun t494 => ((tapearchiveref36_Requests.f k x0 x487000 x487001 x488006 x488007).bind fun t497 => ((tapearchiveref34_Same.f k t494 t497).bind fun t500 => (if t500 = true then (if (t494.length : Int) = (t497.length : Int) then ((prefetch_Waste.f k t494 x0).bind fun t501 => ((tapearchiveref36_Waste.f k t497 x0).bind fun t502 => (if t501 = t502 then ((tapearchivelaw36_awake_s.f).bind fun t503 => (some t503)) else (some false)))) else (some false)) else (some false)))))
def tapearchivelaw36_PrefetchRequests.f (k : Nat) (l0 : List (S25)) (a1_0 : Int) (a1_1 : Int) (a2_0 : Int) (a2_1 : Int) (a2_2 : Int) (a2_3 : Int) (a2_4 : Int) (a2_5 : Int) (a2_6 : Int) (a2_7 : Int) : Option (Bool) := (tapearchivelaw36_few.f k l0).bind fun t488 => (if t488 = true then ((tapearchivelaw36_few.f k (([(⟨a1_0, a1_1⟩ : S25)] : List (S25)))).bind fun t492 => (if t492 = true then (if a2_6 < 0 then (tapearchivelaw36_PrefetchRequests.j0 k l0 true a1_0 a1_1 a2_0 a2_1 a2_2 a2_3 a2_4 a2_5 a2_6 a2_7) else (if a2_6 > 4096 then (tapearchivelaw36_PrefetchRequests.j0 k l0 true a1_0 a1_1 a2_0 a2_1 a2_2 a2_3 a2_4 a2_5 a2_6 a2_7) else (if a2_7 < 0 then (tapearchivelaw36_PrefetchRequests.j0 k l0 true a1_0 a1_1 a2_0 a2_1 a2_2 a2_3 a2_4 a2_5 a2_6 a2_7) else (tapearchivelaw36_PrefetchRequests.j0 k l0 (decide (a2_7 > 5000)) a1_0 a1_1 a2_0 a2_1 a2_2 a2_3 a2_4 a2_5 a2_6 a2_7)))) else (tapearchivelaw36_PrefetchRequests.j0 k l0 true a1_0 a1_1 a2_0 a2_1 a2_2 a2_3 a2_4 a2_5 a2_6 a2_7))) else (tapearchivelaw36_PrefetchRequests.j0 k l0 true a1_0 a1_1 a2_0 a2_1 a2_2 a2_3 a2_4 a2_5 a2_6 a2_7))
theorem tapearchivelaw36_PrefetchRequests.mono_l : ∀ k, (∀ y0 y1 y2 y3 y4 y5 y6 y7 y8 y9 y10 y11, LeO (tapearchivelaw36_PrefetchRequests.j0 k y0 y1 y2 y3 y4 y5 y6 y7 y8 y9 y10 y11) (tapearchivelaw36_PrefetchRequests.j0 (k + 1) y0 y1 y2 y3 y4 y5 y6 y7 y8 y9 y10 y11))
 | 0 => fun _ _ _ _ _ _ _ _ _ _ _ _ r h => by simp [tapearchivelaw36_PrefetchRequests.j0] at h
 | k + 1 => by
  have ih0 := tapearchivelaw36_PrefetchRequests.mono_l k
  ·intro y0 y1 y2 y3 y4 y5 y6 y7 y8 y9 y10 y11
   unfold tapearchivelaw36_PrefetchRequests.j0
   repeat' first
   | (with_reducible exact ih0 _ _ _ _ _ _ _ _ _ _ _ _)
   | (with_reducible exact prefetch_Requests.mono _ _ _ _ _ _)
   | (with_reducible exact prefetch_Waste.mono _ _ _)
   | (with_reducible exact tapearchivelaw36_few.mono _ _)
   | (with_reducible exact tapearchiveref34_Same.mono _ _ _)
   | (with_reducible exact tapearchiveref36_Requests.mono _ _ _ _ _ _)
   | (with_reducible exact tapearchiveref36_Waste.mono _ _ _)
   | (with_reducible exact LeO.refl _)
   | (with_reducible exact LeO.none _)
   | (with_reducible refine LeO.ite ?_ ?_)
   | (with_reducible refine LeO.bind ?_ (fun _ => ?_))
   | exact ih0 _ _ _ _ _ _ _ _ _ _ _ _
   | exact prefetch_Requests.mono _ _ _ _ _ _
   | exact prefetch_Waste.mono _ _ _
   | exact tapearchivelaw36_few.mono _ _
   | exact tapearchiveref34_Same.mono _ _ _
   | exact tapearchiveref36_Requests.mono _ _ _ _ _ _
   | exact tapearchiveref36_Waste.mono _ _ _
   | exact LeO.none _
   | refine LeO.ite ?_ ?_
   | refine LeO.bind ?_ (fun _ => ?_)
theorem tapearchivelaw36_PrefetchRequests.mono : ∀ a0 a1 a2 a3 a4 a5 a6 a7 a8 a9 a10 k, LeO (tapearchivelaw36_PrefetchRequests.f k a0 a1 a2 a3 a4 a5 a6 a7 a8 a9 a10) (tapearchivelaw36_PrefetchRequests.f (k + 1) a0 a1 a2 a3 a4 a5 a6 a7 a8 a9 a10) := by
 intro a0 a1 a2 a3 a4 a5 a6 a7 a8 a9 a10 k
 have ih0 := tapearchivelaw36_PrefetchRequests.mono_l k
 unfold tapearchivelaw36_PrefetchRequests.f
 repeat' first
   | (with_reducible exact ih0 _ _ _ _ _ _ _ _ _ _ _ _)
   | (with_reducible exact prefetch_Requests.mono _ _ _ _ _ _)
   | (with_reducible exact prefetch_Waste.mono _ _ _)
   | (with_reducible exact tapearchivelaw36_few.mono _ _)
   | (with_reducible exact tapearchiveref34_Same.mono _ _ _)
   | (with_reducible exact tapearchiveref36_Requests.mono _ _ _ _ _ _)
   | (with_reducible exact tapearchiveref36_Waste.mono _ _ _)
   | (with_reducible exact LeO.refl _)
   | (with_reducible exact LeO.none _)
   | (with_reducible refine LeO.ite ?_ ?_)
   | (with_reducible refine LeO.bind ?_ (fun _ => ?_))
   | exact ih0 _ _ _ _ _ _ _ _ _ _ _ _
   | exact prefetch_Requests.mono _ _ _ _ _ _
   | exact prefetch_Waste.mono _ _ _
   | exact tapearchivelaw36_few.mono _ _
   | exact tapearchiveref34_Same.mono _ _ _
   | exact tapearchiveref36_Requests.mono _ _ _ _ _ _
   | exact tapearchiveref36_Waste.mono _ _ _
   | exact LeO.none _
   | refine LeO.ite ?_ ?_
   | refine LeO.bind ?_ (fun _ => ?_)
set_option maxHeartbeats 8000000 in
set_option maxRecDepth 100000 in
theorem tapearchivelaw36_PrefetchRequests.calls (k : Nat) (A0 : Option Addr) (c0 : Nat) (l0 : List (S25)) (a1_0 : Int) (a1_1 : Int) (a2_0 : Int) (a2_1 : Int) (a2_2 : Int) (a2_3 : Int) (a2_4 : Int) (a2_5 : Int) (a2_6 : Int) (a2_7 : Int) (r : Bool) (w : World) (hr0 : Kd.C k25 w A0 l0.length l0) (hc0 : l0.length ≤ c0) (ht_ : Aside0 (r = true)) (h : tapearchivelaw36_PrefetchRequests.f k l0 a1_0 a1_1 a2_0 a2_1 a2_2 a2_3 a2_4 a2_5 a2_6 a2_7 = some r) :
  Calls Try.prog 5 #[.slice A0 l0.length c0, .agg #[.int .i64 a1_0, .int .i64 a1_1], .agg #[.int .i64 a2_0, .int .i64 a2_1, .int .i64 a2_2, .int .i64 a2_3, .int .i64 a2_4, .int .i64 a2_5, .int .i64 a2_6, .int .i64 a2_7]] w fun e w' => e = .returned (.bool r) ∧ Below w.heap.size w w' := by
 have hu25 := Try.underlying25
 have hu27 := Try.underlying27
 have HR0 := Aside0.mk hr0
 have HC0 := Aside0.mk hc0
 clear hr0 hc0
 have HB := Aside0.mk (Below.refl w.heap.size w)
 have H : ((tapearchivelaw36_few.f k l0).bind fun t488 => (if t488 = true then ((tapearchivelaw36_few.f k (([(⟨a1_0, a1_1⟩ : S25)] : List (S25)))).bind fun t492 => (if t492 = true then (if a2_6 < 0 then (tapearchivelaw36_PrefetchRequests.j0 k l0 true a1_0 a1_1 a2_0 a2_1 a2_2 a2_3 a2_4 a2_5 a2_6 a2_7) else (if a2_6 > 4096 then (tapearchivelaw36_PrefetchRequests.j0 k l0 true a1_0 a1_1 a2_0 a2_1 a2_2 a2_3 a2_4 a2_5 a2_6 a2_7) else (if a2_7 < 0 then (tapearchivelaw36_PrefetchRequests.j0 k l0 true a1_0 a1_1 a2_0 a2_1 a2_2 a2_3 a2_4 a2_5 a2_6 a2_7) else (tapearchivelaw36_PrefetchRequests.j0 k l0 (decide (a2_7 > 5000)) a1_0 a1_1 a2_0 a2_1 a2_2 a2_3 a2_4 a2_5 a2_6 a2_7)))) else (tapearchivelaw36_PrefetchRequests.j0 k l0 true a1_0 a1_1 a2_0 a2_1 a2_2 a2_3 a2_4 a2_5 a2_6 a2_7))) else (tapearchivelaw36_PrefetchRequests.j0 k l0 true a1_0 a1_1 a2_0 a2_1 a2_2 a2_3 a2_4 a2_5 a2_6 a2_7))) = some r := h
 clear h
 have HC4 := Aside0.mk H
 clear H
 go_enter Try.func5, Try.ntmps5
 go_upto_region 1 with (first | ((with_reducible refine gate_dst (N := 4) rfl ?_); (try (refine gate_guard (by rfl) ?_; dsimp only)); refine box_event ?hg (N := 4) ?hd (cs := #[.int .i64 a1_0, .int .i64 a1_1]) (t := 25) ?hr ?_; (case hd => rfl); (case hg => rfl); (case hr => first | (go_simp; done) | (go_simp; rfl)); intro gb486 hg w5 hbox hb; have n0_ := Aside0.mk (below_step (zB HB) hb); have n1_ := Aside0.mk (hbox); have n2_ := Aside0.mk ((by rw [hg]; exact (below_size (zB HB)) : w.heap.size ≤ gb486)); have n3_ := Aside0.mk ((by rw [hg]; exact (below_size (zB HB)) : w.heap.size ≤ gb486)); clear HB; have HB := n0_; have BK486 := n1_; have GW486 := n2_; have GE486 := n3_; clear n0_ n1_ n2_ n3_; clear hb hbox hg) | ((with_reducible refine gate_dst (N := 5) rfl ?_); (try (refine gate_guard (by rfl) ?_; dsimp only)); refine box_event ?hg (N := 5) ?hd (cs := #[.int .i64 a2_0, .int .i64 a2_1, .int .i64 a2_2, .int .i64 a2_3, .int .i64 a2_4, .int .i64 a2_5, .int .i64 a2_6, .int .i64 a2_7]) (t := 27) ?hr ?_; (case hd => rfl); (case hg => rfl); (case hr => first | (go_simp; done) | (go_simp; rfl)); intro gb487 hg w6 hbox hb; have n0_ := Aside0.mk (blk_below (g := gb486) (o := .cells #[.int .i64 a1_0, .int .i64 a1_1] 25 (0, 0)) (zL BK486.out) hb); have n1_ := Aside0.mk (below_step (zG HB GE486) hb); have n2_ := Aside0.mk (hbox); have n3_ := Aside0.mk ((by rw [hg]; exact (below_size (zG HB GE486)) : w.heap.size ≤ gb487)); have n4_ := Aside0.mk ((by rw [hg]; exact (below_size (zG HB GE486)) : w.heap.size ≤ gb487)); have n5_ := Aside0.mk ((by rw [hg]; exact Nat.ne_of_lt (blk_lt (g := gb486) (o := .cells #[.int .i64 a1_0, .int .i64 a1_1] 25 (0, 0)) (zL BK486.out)) : gb486 ≠ gb487)); have n6_ := Aside0.mk ((by rw [hg]; exact Nat.ne_of_gt (blk_lt (g := gb486) (o := .cells #[.int .i64 a1_0, .int .i64 a1_1] 25 (0, 0)) (zL BK486.out)) : gb487 ≠ gb486)); clear BK486; clear HB; have BK486 := n0_; have HB := n1_; have BK487 := n2_; have GW487 := n3_; have GE487 := n4_; have NB486_487 := n5_; have NB487_486 := n6_; clear n0_ n1_ n2_ n3_ n4_ n5_ n6_; clear hb hbox hg))
 (try simp only [Act.put, List.setIfInBounds_toArray, List.set_cons_zero, List.set_cons_succ])
 go_cut [37] (fun v37 wc => ∃ (kq : Nat) (x37_3 : Bool), v37 = .bool x37_3 ∧ Aside0 (tapearchivelaw36_PrefetchRequests.j0 kq l0 x37_3 a1_0 a1_1 a2_0 a2_1 a2_2 a2_3 a2_4 a2_5 a2_6 a2_7 = some r) ∧ Aside0 (kq ≤ k) ∧ Aside0 (wc.heap[gb486]? = some (.cells #[.int .i64 a1_0, .int .i64 a1_1] 25 (0, 0))) ∧ Aside0 (wc.heap[gb487]? = some (.cells #[.int .i64 a2_0, .int .i64 a2_1, .int .i64 a2_2, .int .i64 a2_3, .int .i64 a2_4, .int .i64 a2_5, .int .i64 a2_6, .int .i64 a2_7] 27 (0, 0))) ∧ Aside0 (Below w.heap.size w wc))
 case first =>
  have H := HC4.out
  clear HC4
  replace H := Option.bind_eq_some_iff.mp H
  obtain ⟨t488, A70, H⟩ := H
  replace H : (if t488 = true then ((tapearchivelaw36_few.f k (([(⟨a1_0, a1_1⟩ : S25)] : List (S25)))).bind fun t492 => (if t492 = true then (if a2_6 < 0 then (tapearchivelaw36_PrefetchRequests.j0 k l0 true a1_0 a1_1 a2_0 a2_1 a2_2 a2_3 a2_4 a2_5 a2_6 a2_7) else (if a2_6 > 4096 then (tapearchivelaw36_PrefetchRequests.j0 k l0 true a1_0 a1_1 a2_0 a2_1 a2_2 a2_3 a2_4 a2_5 a2_6 a2_7) else (if a2_7 < 0 then (tapearchivelaw36_PrefetchRequests.j0 k l0 true a1_0 a1_1 a2_0 a2_1 a2_2 a2_3 a2_4 a2_5 a2_6 a2_7) else (tapearchivelaw36_PrefetchRequests.j0 k l0 (decide (a2_7 > 5000)) a1_0 a1_1 a2_0 a2_1 a2_2 a2_3 a2_4 a2_5 a2_6 a2_7)))) else (tapearchivelaw36_PrefetchRequests.j0 k l0 true a1_0 a1_1 a2_0 a2_1 a2_2 a2_3 a2_4 a2_5 a2_6 a2_7))) else (tapearchivelaw36_PrefetchRequests.j0 k l0 true a1_0 a1_1 a2_0 a2_1 a2_2 a2_3 a2_4 a2_5 a2_6 a2_7)) = some r := H
  have A7 := Aside0.mk A70
  clear A70
  by_cases c8 : t488 = true
  ·subst c8
   have H1 : ((tapearchivelaw36_few.f k (([(⟨a1_0, a1_1⟩ : S25)] : List (S25)))).bind fun t492 => (if t492 = true then (if a2_6 < 0 then (tapearchivelaw36_PrefetchRequests.j0 k l0 true a1_0 a1_1 a2_0 a2_1 a2_2 a2_3 a2_4 a2_5 a2_6 a2_7) else (if a2_6 > 4096 then (tapearchivelaw36_PrefetchRequests.j0 k l0 true a1_0 a1_1 a2_0 a2_1 a2_2 a2_3 a2_4 a2_5 a2_6 a2_7) else (if a2_7 < 0 then (tapearchivelaw36_PrefetchRequests.j0 k l0 true a1_0 a1_1 a2_0 a2_1 a2_2 a2_3 a2_4 a2_5 a2_6 a2_7) else (tapearchivelaw36_PrefetchRequests.j0 k l0 (decide (a2_7 > 5000)) a1_0 a1_1 a2_0 a2_1 a2_2 a2_3 a2_4 a2_5 a2_6 a2_7)))) else (tapearchivelaw36_PrefetchRequests.j0 k l0 true a1_0 a1_1 a2_0 a2_1 a2_2 a2_3 a2_4 a2_5 a2_6 a2_7))) = some r := by rw [if_pos rfl] at H; exact H
   clear H
   have H := H1
   clear H1
   obtain ⟨y489, hy489⟩ : ∃ y_ : List (S25), y_ = (([(⟨a1_0, a1_1⟩ : S25)] : List (S25))) := ⟨_, rfl⟩
   replace H : ((tapearchivelaw36_few.f k y489).bind fun t492 => (if t492 = true then (if a2_6 < 0 then (tapearchivelaw36_PrefetchRequests.j0 k l0 true a1_0 a1_1 a2_0 a2_1 a2_2 a2_3 a2_4 a2_5 a2_6 a2_7) else (if a2_6 > 4096 then (tapearchivelaw36_PrefetchRequests.j0 k l0 true a1_0 a1_1 a2_0 a2_1 a2_2 a2_3 a2_4 a2_5 a2_6 a2_7) else (if a2_7 < 0 then (tapearchivelaw36_PrefetchRequests.j0 k l0 true a1_0 a1_1 a2_0 a2_1 a2_2 a2_3 a2_4 a2_5 a2_6 a2_7) else (tapearchivelaw36_PrefetchRequests.j0 k l0 (decide (a2_7 > 5000)) a1_0 a1_1 a2_0 a2_1 a2_2 a2_3 a2_4 a2_5 a2_6 a2_7)))) else (tapearchivelaw36_PrefetchRequests.j0 k l0 true a1_0 a1_1 a2_0 a2_1 a2_2 a2_3 a2_4 a2_5 a2_6 a2_7))) = some r := by first | (rw [hy489]; with_reducible exact H) | (have H2_ := (Option.bind_some _ _).symm.trans H; rw [hy489]; with_reducible exact H2_) | (have H2_ := (Option.bind_some _ _).symm.trans H; with_reducible exact H2_) | with_reducible exact H | (rw [hy489]; exact H) | exact H
   have Ny489 := Aside0.mk hy489
   clear hy489
   replace H := Option.bind_eq_some_iff.mp H
   obtain ⟨t492, A90, H⟩ := H
   replace H : (if t492 = true then (if a2_6 < 0 then (tapearchivelaw36_PrefetchRequests.j0 k l0 true a1_0 a1_1 a2_0 a2_1 a2_2 a2_3 a2_4 a2_5 a2_6 a2_7) else (if a2_6 > 4096 then (tapearchivelaw36_PrefetchRequests.j0 k l0 true a1_0 a1_1 a2_0 a2_1 a2_2 a2_3 a2_4 a2_5 a2_6 a2_7) else (if a2_7 < 0 then (tapearchivelaw36_PrefetchRequests.j0 k l0 true a1_0 a1_1 a2_0 a2_1 a2_2 a2_3 a2_4 a2_5 a2_6 a2_7) else (tapearchivelaw36_PrefetchRequests.j0 k l0 (decide (a2_7 > 5000)) a1_0 a1_1 a2_0 a2_1 a2_2 a2_3 a2_4 a2_5 a2_6 a2_7)))) else (tapearchivelaw36_PrefetchRequests.j0 k l0 true a1_0 a1_1 a2_0 a2_1 a2_2 a2_3 a2_4 a2_5 a2_6 a2_7)) = some r := H
   have A9 := Aside0.mk A90
   clear A90
   by_cases c10 : t492 = true
   ·subst c10
    have H1 : (if a2_6 < 0 then (tapearchivelaw36_PrefetchRequests.j0 k l0 true a1_0 a1_1 a2_0 a2_1 a2_2 a2_3 a2_4 a2_5 a2_6 a2_7) else (if a2_6 > 4096 then (tapearchivelaw36_PrefetchRequests.j0 k l0 true a1_0 a1_1 a2_0 a2_1 a2_2 a2_3 a2_4 a2_5 a2_6 a2_7) else (if a2_7 < 0 then (tapearchivelaw36_PrefetchRequests.j0 k l0 true a1_0 a1_1 a2_0 a2_1 a2_2 a2_3 a2_4 a2_5 a2_6 a2_7) else (tapearchivelaw36_PrefetchRequests.j0 k l0 (decide (a2_7 > 5000)) a1_0 a1_1 a2_0 a2_1 a2_2 a2_3 a2_4 a2_5 a2_6 a2_7)))) = some r := by rw [if_pos rfl] at H; exact H
    clear H
    have H := H1
    clear H1
    by_cases c11 : a2_6 < 0
    ·rw [if_pos c11] at H
     have c11b0 : decide (a2_6 < 0) = true := decide_eq_true c11
     clear c11
     (first | rw [c11b0] | (simp only [i64_w, i32_w]; rw [c11b0]) | skip)
     have H' := Aside0.mk H
     clear H
     go_wp2_with (first | ((with_reducible refine gate_callee (f := 13) rfl ?_); refine goesL_ (some 10) rfl rfl Try.func13 (by kernel_rfl) rfl #[.slice A0 l0.length c0] rfl zM ?_; (with_reducible refine (tapearchivelaw36_few.calls k _ _ l0 true _ ?side1 ?side2 A7.out).mono ?_); (case side1 => exact zC (Kd.C_below HR0.out HB.out)); (case side2 => exact HC0.out); rintro e w' ⟨rfl, ⟨nd, rfl⟩⟩; refine ⟨_, rfl, ?_⟩; have hnb12 := NB486_487.out; have hnc12 := NB487_486.out; have hcz13_0 : w6.cell? ⟨gb486, 0, none⟩ = some (.int .i64 a1_0) := (blk_cell BK486.out 0).trans rfl; have hcz13_1 : w6.cell? ⟨gb486, 1, none⟩ = some (.int .i64 a1_1) := (blk_cell BK486.out 1).trans rfl; have hfz13_0 := blk_frozen BK486.out 0; have hfz13_1 := blk_frozen BK486.out 1) | ((with_reducible refine gate_dst (N := 14) rfl ?_); (try (refine gate_guard (by rfl) ?_; dsimp only)); refine Kd.R_lit k25 _ 25 ?hg (N := 14) ?hd (xs := ([(⟨a1_0, a1_1⟩ : S25)] : List (S25))) (inner := [.int .i64 a1_0, .int .i64 a1_1]) (ok := fun _ => True) (okp := fun _ => True) ?hr ?hp (fun _ hk => hk) trivial (Below.refl _ _) (Nat.le_refl _) (by simp) ?_; (case hd => rfl); (case hg => rfl); (case hr => first | (go_simp; done) | (go_simp; rfl)); (case hp => exact (Reps.c2 (show Kd.M k25 _ _ _ (⟨a1_0, a1_1⟩ : S25) [.int .i64 a1_0, .int .i64 a1_1] from (k25_mkM _ _ _ (⟨a1_0, a1_1⟩ : S25) )) (Reps.none _ _))); intro v490 w14 ho15 hb hg_ hnew_; clear hg_ hnew_; (first | rw [← Ny489.out] at ho15 | (simp only [Int.reduceToNat] at ho15; rw [← Ny489.out] at ho15)); have n0_ := Aside0.mk (Kd.R_lower (Kd.R_newB ho15 (g := gb486) (o := .cells #[.int .i64 a1_0, .int .i64 a1_1] 25 (0, 0)) (zL BK486.out)) (below_size (by repeat (first | (with_reducible first | exact HB.out | apply below_alloc | apply pw_below_drewN | apply below_drew1 | refine below_set ?_ GE486.out | refine below_set ?_ GE487.out) | exact HB.out)))); have n1_ := Aside0.mk (blk_below (g := gb486) (o := .cells #[.int .i64 a1_0, .int .i64 a1_1] 25 (0, 0)) (zL BK486.out) hb); have n2_ := Aside0.mk (blk_below (g := gb487) (o := .cells #[.int .i64 a2_0, .int .i64 a2_1, .int .i64 a2_2, .int .i64 a2_3, .int .i64 a2_4, .int .i64 a2_5, .int .i64 a2_6, .int .i64 a2_7] 27 (0, 0)) (zL BK487.out) hb); have n3_ := Aside0.mk (below_step (by repeat (first | (with_reducible first | exact HB.out | apply below_alloc | apply pw_below_drewN | apply below_drew1 | refine below_set ?_ GE486.out | refine below_set ?_ GE487.out) | exact HB.out)) hb); clear BK486; clear BK487; clear HB; have HO491 := n0_; have BK486 := n1_; have BK487 := n2_; have HB := n3_; clear n0_ n1_ n2_ n3_; clear hb ho15; obtain ⟨Ao16, co16, eo16⟩ := Kd.R_slice HO491.out; subst eo16) | (go_at_call 13; (with_reducible refine (tapearchivelaw36_few.calls k _ _ y489 true _ ?side1 ?side2 A9.out).mono ?_); (case side1 => exact zC (Kd.R_reads' HO491.out).2.2); (case side2 => exact (Kd.R_reads' HO491.out).2.1); rintro e w' ⟨rfl, ⟨nd, rfl⟩⟩; have hcz17_0 : w14.cell? ⟨gb487, 0, none⟩ = some (.int .i64 a2_0) := (blk_cell BK487.out 0).trans rfl; have hcz17_1 : w14.cell? ⟨gb487, 1, none⟩ = some (.int .i64 a2_1) := (blk_cell BK487.out 1).trans rfl; have hcz17_2 : w14.cell? ⟨gb487, 2, none⟩ = some (.int .i64 a2_2) := (blk_cell BK487.out 2).trans rfl; have hcz17_3 : w14.cell? ⟨gb487, 3, none⟩ = some (.int .i64 a2_3) := (blk_cell BK487.out 3).trans rfl; have hcz17_4 : w14.cell? ⟨gb487, 4, none⟩ = some (.int .i64 a2_4) := (blk_cell BK487.out 4).trans rfl; have hcz17_5 : w14.cell? ⟨gb487, 5, none⟩ = some (.int .i64 a2_5) := (blk_cell BK487.out 5).trans rfl; have hcz17_6 : w14.cell? ⟨gb487, 6, none⟩ = some (.int .i64 a2_6) := (blk_cell BK487.out 6).trans rfl; have hcz17_7 : w14.cell? ⟨gb487, 7, none⟩ = some (.int .i64 a2_7) := (blk_cell BK487.out 7).trans rfl; have hfz17_0 := blk_frozen BK487.out 0; have hfz17_1 := blk_frozen BK487.out 1; have hfz17_2 := blk_frozen BK487.out 2; have hfz17_3 := blk_frozen BK487.out 3; have hfz17_4 := blk_frozen BK487.out 4; have hfz17_5 := blk_frozen BK487.out 5; have hfz17_6 := blk_frozen BK487.out 6; have hfz17_7 := blk_frozen BK487.out 7))
     go_meet
     case rel => exact ⟨_, (true), zS, H', ⟨by first | omega | exact Nat.le_refl _⟩, ⟨by (with_reducible repeat (first | refine blk_drewN ?_ _ | refine blk_drew ?_ | refine blk_alloc ?_ _)); exact BK486.out⟩, ⟨by (with_reducible repeat (first | refine blk_drewN ?_ _ | refine blk_drew ?_ | refine blk_alloc ?_ _)); exact BK487.out⟩, ⟨by repeat (first | (with_reducible first | exact HB.out | apply below_alloc | apply pw_below_drewN | apply below_drew1 | refine below_set ?_ GE486.out | refine below_set ?_ GE487.out) | exact HB.out)⟩⟩
    ·rw [if_neg c11] at H
     have c11b0 : decide (a2_6 < 0) = false := decide_eq_false c11
     clear c11
     (first | rw [c11b0] | (simp only [i64_w, i32_w]; rw [c11b0]) | skip)
     by_cases c18 : a2_6 > 4096
     ·rw [if_pos c18] at H
      have c18b0 : decide (4096 < a2_6) = true := decide_eq_true c18
      clear c18
      have H' := Aside0.mk H
      clear H
      go_wp2_with (first | ((with_reducible refine gate_callee (f := 13) rfl ?_); refine goesL_ (some 10) rfl rfl Try.func13 (by kernel_rfl) rfl #[.slice A0 l0.length c0] rfl zM ?_; (with_reducible refine (tapearchivelaw36_few.calls k _ _ l0 true _ ?side1 ?side2 A7.out).mono ?_); (case side1 => exact zC (Kd.C_below HR0.out HB.out)); (case side2 => exact HC0.out); rintro e w' ⟨rfl, ⟨nd, rfl⟩⟩; refine ⟨_, rfl, ?_⟩; have hnb19 := NB486_487.out; have hnc19 := NB487_486.out; have hcz20_0 : w6.cell? ⟨gb486, 0, none⟩ = some (.int .i64 a1_0) := (blk_cell BK486.out 0).trans rfl; have hcz20_1 : w6.cell? ⟨gb486, 1, none⟩ = some (.int .i64 a1_1) := (blk_cell BK486.out 1).trans rfl; have hfz20_0 := blk_frozen BK486.out 0; have hfz20_1 := blk_frozen BK486.out 1) | ((with_reducible refine gate_dst (N := 14) rfl ?_); (try (refine gate_guard (by rfl) ?_; dsimp only)); refine Kd.R_lit k25 _ 25 ?hg (N := 14) ?hd (xs := ([(⟨a1_0, a1_1⟩ : S25)] : List (S25))) (inner := [.int .i64 a1_0, .int .i64 a1_1]) (ok := fun _ => True) (okp := fun _ => True) ?hr ?hp (fun _ hk => hk) trivial (Below.refl _ _) (Nat.le_refl _) (by simp) ?_; (case hd => rfl); (case hg => rfl); (case hr => first | (go_simp; done) | (go_simp; rfl)); (case hp => exact (Reps.c2 (show Kd.M k25 _ _ _ (⟨a1_0, a1_1⟩ : S25) [.int .i64 a1_0, .int .i64 a1_1] from (k25_mkM _ _ _ (⟨a1_0, a1_1⟩ : S25) )) (Reps.none _ _))); intro v490 w21 ho22 hb hg_ hnew_; clear hg_ hnew_; (first | rw [← Ny489.out] at ho22 | (simp only [Int.reduceToNat] at ho22; rw [← Ny489.out] at ho22)); have n0_ := Aside0.mk (Kd.R_lower (Kd.R_newB ho22 (g := gb486) (o := .cells #[.int .i64 a1_0, .int .i64 a1_1] 25 (0, 0)) (zL BK486.out)) (below_size (by repeat (first | (with_reducible first | exact HB.out | apply below_alloc | apply pw_below_drewN | apply below_drew1 | refine below_set ?_ GE486.out | refine below_set ?_ GE487.out) | exact HB.out)))); have n1_ := Aside0.mk (blk_below (g := gb486) (o := .cells #[.int .i64 a1_0, .int .i64 a1_1] 25 (0, 0)) (zL BK486.out) hb); have n2_ := Aside0.mk (blk_below (g := gb487) (o := .cells #[.int .i64 a2_0, .int .i64 a2_1, .int .i64 a2_2, .int .i64 a2_3, .int .i64 a2_4, .int .i64 a2_5, .int .i64 a2_6, .int .i64 a2_7] 27 (0, 0)) (zL BK487.out) hb); have n3_ := Aside0.mk (below_step (by repeat (first | (with_reducible first | exact HB.out | apply below_alloc | apply pw_below_drewN | apply below_drew1 | refine below_set ?_ GE486.out | refine below_set ?_ GE487.out) | exact HB.out)) hb); clear BK486; clear BK487; clear HB; have HO491 := n0_; have BK486 := n1_; have BK487 := n2_; have HB := n3_; clear n0_ n1_ n2_ n3_; clear hb ho22; obtain ⟨Ao23, co23, eo23⟩ := Kd.R_slice HO491.out; subst eo23) | (go_at_call 13; (with_reducible refine (tapearchivelaw36_few.calls k _ _ y489 true _ ?side1 ?side2 A9.out).mono ?_); (case side1 => exact zC (Kd.R_reads' HO491.out).2.2); (case side2 => exact (Kd.R_reads' HO491.out).2.1); rintro e w' ⟨rfl, ⟨nd, rfl⟩⟩; have hcz24_0 : w21.cell? ⟨gb487, 0, none⟩ = some (.int .i64 a2_0) := (blk_cell BK487.out 0).trans rfl; have hcz24_1 : w21.cell? ⟨gb487, 1, none⟩ = some (.int .i64 a2_1) := (blk_cell BK487.out 1).trans rfl; have hcz24_2 : w21.cell? ⟨gb487, 2, none⟩ = some (.int .i64 a2_2) := (blk_cell BK487.out 2).trans rfl; have hcz24_3 : w21.cell? ⟨gb487, 3, none⟩ = some (.int .i64 a2_3) := (blk_cell BK487.out 3).trans rfl; have hcz24_4 : w21.cell? ⟨gb487, 4, none⟩ = some (.int .i64 a2_4) := (blk_cell BK487.out 4).trans rfl; have hcz24_5 : w21.cell? ⟨gb487, 5, none⟩ = some (.int .i64 a2_5) := (blk_cell BK487.out 5).trans rfl; have hcz24_6 : w21.cell? ⟨gb487, 6, none⟩ = some (.int .i64 a2_6) := (blk_cell BK487.out 6).trans rfl; have hcz24_7 : w21.cell? ⟨gb487, 7, none⟩ = some (.int .i64 a2_7) := (blk_cell BK487.out 7).trans rfl; have hfz24_0 := blk_frozen BK487.out 0; have hfz24_1 := blk_frozen BK487.out 1; have hfz24_2 := blk_frozen BK487.out 2; have hfz24_3 := blk_frozen BK487.out 3; have hfz24_4 := blk_frozen BK487.out 4; have hfz24_5 := blk_frozen BK487.out 5; have hfz24_6 := blk_frozen BK487.out 6; have hfz24_7 := blk_frozen BK487.out 7))
      go_meet
      case rel => exact ⟨_, (true), zS, H', ⟨by first | omega | exact Nat.le_refl _⟩, ⟨by (with_reducible repeat (first | refine blk_drewN ?_ _ | refine blk_drew ?_ | refine blk_alloc ?_ _)); exact BK486.out⟩, ⟨by (with_reducible repeat (first | refine blk_drewN ?_ _ | refine blk_drew ?_ | refine blk_alloc ?_ _)); exact BK487.out⟩, ⟨by repeat (first | (with_reducible first | exact HB.out | apply below_alloc | apply pw_below_drewN | apply below_drew1 | refine below_set ?_ GE486.out | refine below_set ?_ GE487.out) | exact HB.out)⟩⟩
     ·rw [if_neg c18] at H
      have c18b0 : decide (4096 < a2_6) = false := decide_eq_false c18
      clear c18
      by_cases c25 : a2_7 < 0
      ·rw [if_pos c25] at H
       have c25b0 : decide (a2_7 < 0) = true := decide_eq_true c25
       clear c25
       have H' := Aside0.mk H
       clear H
       go_wp2_with (first | ((with_reducible refine gate_callee (f := 13) rfl ?_); refine goesL_ (some 10) rfl rfl Try.func13 (by kernel_rfl) rfl #[.slice A0 l0.length c0] rfl zM ?_; (with_reducible refine (tapearchivelaw36_few.calls k _ _ l0 true _ ?side1 ?side2 A7.out).mono ?_); (case side1 => exact zC (Kd.C_below HR0.out HB.out)); (case side2 => exact HC0.out); rintro e w' ⟨rfl, ⟨nd, rfl⟩⟩; refine ⟨_, rfl, ?_⟩; have hnb26 := NB486_487.out; have hnc26 := NB487_486.out; have hcz27_0 : w6.cell? ⟨gb486, 0, none⟩ = some (.int .i64 a1_0) := (blk_cell BK486.out 0).trans rfl; have hcz27_1 : w6.cell? ⟨gb486, 1, none⟩ = some (.int .i64 a1_1) := (blk_cell BK486.out 1).trans rfl; have hfz27_0 := blk_frozen BK486.out 0; have hfz27_1 := blk_frozen BK486.out 1) | ((with_reducible refine gate_dst (N := 14) rfl ?_); (try (refine gate_guard (by rfl) ?_; dsimp only)); refine Kd.R_lit k25 _ 25 ?hg (N := 14) ?hd (xs := ([(⟨a1_0, a1_1⟩ : S25)] : List (S25))) (inner := [.int .i64 a1_0, .int .i64 a1_1]) (ok := fun _ => True) (okp := fun _ => True) ?hr ?hp (fun _ hk => hk) trivial (Below.refl _ _) (Nat.le_refl _) (by simp) ?_; (case hd => rfl); (case hg => rfl); (case hr => first | (go_simp; done) | (go_simp; rfl)); (case hp => exact (Reps.c2 (show Kd.M k25 _ _ _ (⟨a1_0, a1_1⟩ : S25) [.int .i64 a1_0, .int .i64 a1_1] from (k25_mkM _ _ _ (⟨a1_0, a1_1⟩ : S25) )) (Reps.none _ _))); intro v490 w28 ho29 hb hg_ hnew_; clear hg_ hnew_; (first | rw [← Ny489.out] at ho29 | (simp only [Int.reduceToNat] at ho29; rw [← Ny489.out] at ho29)); have n0_ := Aside0.mk (Kd.R_lower (Kd.R_newB ho29 (g := gb486) (o := .cells #[.int .i64 a1_0, .int .i64 a1_1] 25 (0, 0)) (zL BK486.out)) (below_size (by repeat (first | (with_reducible first | exact HB.out | apply below_alloc | apply pw_below_drewN | apply below_drew1 | refine below_set ?_ GE486.out | refine below_set ?_ GE487.out) | exact HB.out)))); have n1_ := Aside0.mk (blk_below (g := gb486) (o := .cells #[.int .i64 a1_0, .int .i64 a1_1] 25 (0, 0)) (zL BK486.out) hb); have n2_ := Aside0.mk (blk_below (g := gb487) (o := .cells #[.int .i64 a2_0, .int .i64 a2_1, .int .i64 a2_2, .int .i64 a2_3, .int .i64 a2_4, .int .i64 a2_5, .int .i64 a2_6, .int .i64 a2_7] 27 (0, 0)) (zL BK487.out) hb); have n3_ := Aside0.mk (below_step (by repeat (first | (with_reducible first | exact HB.out | apply below_alloc | apply pw_below_drewN | apply below_drew1 | refine below_set ?_ GE486.out | refine below_set ?_ GE487.out) | exact HB.out)) hb); clear BK486; clear BK487; clear HB; have HO491 := n0_; have BK486 := n1_; have BK487 := n2_; have HB := n3_; clear n0_ n1_ n2_ n3_; clear hb ho29; obtain ⟨Ao30, co30, eo30⟩ := Kd.R_slice HO491.out; subst eo30) | (go_at_call 13; (with_reducible refine (tapearchivelaw36_few.calls k _ _ y489 true _ ?side1 ?side2 A9.out).mono ?_); (case side1 => exact zC (Kd.R_reads' HO491.out).2.2); (case side2 => exact (Kd.R_reads' HO491.out).2.1); rintro e w' ⟨rfl, ⟨nd, rfl⟩⟩; have hcz31_0 : w28.cell? ⟨gb487, 0, none⟩ = some (.int .i64 a2_0) := (blk_cell BK487.out 0).trans rfl; have hcz31_1 : w28.cell? ⟨gb487, 1, none⟩ = some (.int .i64 a2_1) := (blk_cell BK487.out 1).trans rfl; have hcz31_2 : w28.cell? ⟨gb487, 2, none⟩ = some (.int .i64 a2_2) := (blk_cell BK487.out 2).trans rfl; have hcz31_3 : w28.cell? ⟨gb487, 3, none⟩ = some (.int .i64 a2_3) := (blk_cell BK487.out 3).trans rfl; have hcz31_4 : w28.cell? ⟨gb487, 4, none⟩ = some (.int .i64 a2_4) := (blk_cell BK487.out 4).trans rfl; have hcz31_5 : w28.cell? ⟨gb487, 5, none⟩ = some (.int .i64 a2_5) := (blk_cell BK487.out 5).trans rfl; have hcz31_6 : w28.cell? ⟨gb487, 6, none⟩ = some (.int .i64 a2_6) := (blk_cell BK487.out 6).trans rfl; have hcz31_7 : w28.cell? ⟨gb487, 7, none⟩ = some (.int .i64 a2_7) := (blk_cell BK487.out 7).trans rfl; have hfz31_0 := blk_frozen BK487.out 0; have hfz31_1 := blk_frozen BK487.out 1; have hfz31_2 := blk_frozen BK487.out 2; have hfz31_3 := blk_frozen BK487.out 3; have hfz31_4 := blk_frozen BK487.out 4; have hfz31_5 := blk_frozen BK487.out 5; have hfz31_6 := blk_frozen BK487.out 6; have hfz31_7 := blk_frozen BK487.out 7))
       go_meet
       case rel => exact ⟨_, (true), zS, H', ⟨by first | omega | exact Nat.le_refl _⟩, ⟨by (with_reducible repeat (first | refine blk_drewN ?_ _ | refine blk_drew ?_ | refine blk_alloc ?_ _)); exact BK486.out⟩, ⟨by (with_reducible repeat (first | refine blk_drewN ?_ _ | refine blk_drew ?_ | refine blk_alloc ?_ _)); exact BK487.out⟩, ⟨by repeat (first | (with_reducible first | exact HB.out | apply below_alloc | apply pw_below_drewN | apply below_drew1 | refine below_set ?_ GE486.out | refine below_set ?_ GE487.out) | exact HB.out)⟩⟩
      ·rw [if_neg c25] at H
       have c25b0 : decide (a2_7 < 0) = false := decide_eq_false c25
       clear c25
       have H' := Aside0.mk H
       clear H
       go_wp2_with (first | ((with_reducible refine gate_callee (f := 13) rfl ?_); refine goesL_ (some 10) rfl rfl Try.func13 (by kernel_rfl) rfl #[.slice A0 l0.length c0] rfl zM ?_; (with_reducible refine (tapearchivelaw36_few.calls k _ _ l0 true _ ?side1 ?side2 A7.out).mono ?_); (case side1 => exact zC (Kd.C_below HR0.out HB.out)); (case side2 => exact HC0.out); rintro e w' ⟨rfl, ⟨nd, rfl⟩⟩; refine ⟨_, rfl, ?_⟩; have hnb32 := NB486_487.out; have hnc32 := NB487_486.out; have hcz33_0 : w6.cell? ⟨gb486, 0, none⟩ = some (.int .i64 a1_0) := (blk_cell BK486.out 0).trans rfl; have hcz33_1 : w6.cell? ⟨gb486, 1, none⟩ = some (.int .i64 a1_1) := (blk_cell BK486.out 1).trans rfl; have hfz33_0 := blk_frozen BK486.out 0; have hfz33_1 := blk_frozen BK486.out 1) | ((with_reducible refine gate_dst (N := 14) rfl ?_); (try (refine gate_guard (by rfl) ?_; dsimp only)); refine Kd.R_lit k25 _ 25 ?hg (N := 14) ?hd (xs := ([(⟨a1_0, a1_1⟩ : S25)] : List (S25))) (inner := [.int .i64 a1_0, .int .i64 a1_1]) (ok := fun _ => True) (okp := fun _ => True) ?hr ?hp (fun _ hk => hk) trivial (Below.refl _ _) (Nat.le_refl _) (by simp) ?_; (case hd => rfl); (case hg => rfl); (case hr => first | (go_simp; done) | (go_simp; rfl)); (case hp => exact (Reps.c2 (show Kd.M k25 _ _ _ (⟨a1_0, a1_1⟩ : S25) [.int .i64 a1_0, .int .i64 a1_1] from (k25_mkM _ _ _ (⟨a1_0, a1_1⟩ : S25) )) (Reps.none _ _))); intro v490 w34 ho35 hb hg_ hnew_; clear hg_ hnew_; (first | rw [← Ny489.out] at ho35 | (simp only [Int.reduceToNat] at ho35; rw [← Ny489.out] at ho35)); have n0_ := Aside0.mk (Kd.R_lower (Kd.R_newB ho35 (g := gb486) (o := .cells #[.int .i64 a1_0, .int .i64 a1_1] 25 (0, 0)) (zL BK486.out)) (below_size (by repeat (first | (with_reducible first | exact HB.out | apply below_alloc | apply pw_below_drewN | apply below_drew1 | refine below_set ?_ GE486.out | refine below_set ?_ GE487.out) | exact HB.out)))); have n1_ := Aside0.mk (blk_below (g := gb486) (o := .cells #[.int .i64 a1_0, .int .i64 a1_1] 25 (0, 0)) (zL BK486.out) hb); have n2_ := Aside0.mk (blk_below (g := gb487) (o := .cells #[.int .i64 a2_0, .int .i64 a2_1, .int .i64 a2_2, .int .i64 a2_3, .int .i64 a2_4, .int .i64 a2_5, .int .i64 a2_6, .int .i64 a2_7] 27 (0, 0)) (zL BK487.out) hb); have n3_ := Aside0.mk (below_step (by repeat (first | (with_reducible first | exact HB.out | apply below_alloc | apply pw_below_drewN | apply below_drew1 | refine below_set ?_ GE486.out | refine below_set ?_ GE487.out) | exact HB.out)) hb); clear BK486; clear BK487; clear HB; have HO491 := n0_; have BK486 := n1_; have BK487 := n2_; have HB := n3_; clear n0_ n1_ n2_ n3_; clear hb ho35; obtain ⟨Ao36, co36, eo36⟩ := Kd.R_slice HO491.out; subst eo36) | (go_at_call 13; (with_reducible refine (tapearchivelaw36_few.calls k _ _ y489 true _ ?side1 ?side2 A9.out).mono ?_); (case side1 => exact zC (Kd.R_reads' HO491.out).2.2); (case side2 => exact (Kd.R_reads' HO491.out).2.1); rintro e w' ⟨rfl, ⟨nd, rfl⟩⟩; have hcz37_0 : w34.cell? ⟨gb487, 0, none⟩ = some (.int .i64 a2_0) := (blk_cell BK487.out 0).trans rfl; have hcz37_1 : w34.cell? ⟨gb487, 1, none⟩ = some (.int .i64 a2_1) := (blk_cell BK487.out 1).trans rfl; have hcz37_2 : w34.cell? ⟨gb487, 2, none⟩ = some (.int .i64 a2_2) := (blk_cell BK487.out 2).trans rfl; have hcz37_3 : w34.cell? ⟨gb487, 3, none⟩ = some (.int .i64 a2_3) := (blk_cell BK487.out 3).trans rfl; have hcz37_4 : w34.cell? ⟨gb487, 4, none⟩ = some (.int .i64 a2_4) := (blk_cell BK487.out 4).trans rfl; have hcz37_5 : w34.cell? ⟨gb487, 5, none⟩ = some (.int .i64 a2_5) := (blk_cell BK487.out 5).trans rfl; have hcz37_6 : w34.cell? ⟨gb487, 6, none⟩ = some (.int .i64 a2_6) := (blk_cell BK487.out 6).trans rfl; have hcz37_7 : w34.cell? ⟨gb487, 7, none⟩ = some (.int .i64 a2_7) := (blk_cell BK487.out 7).trans rfl; have hfz37_0 := blk_frozen BK487.out 0; have hfz37_1 := blk_frozen BK487.out 1; have hfz37_2 := blk_frozen BK487.out 2; have hfz37_3 := blk_frozen BK487.out 3; have hfz37_4 := blk_frozen BK487.out 4; have hfz37_5 := blk_frozen BK487.out 5; have hfz37_6 := blk_frozen BK487.out 6; have hfz37_7 := blk_frozen BK487.out 7))
       go_meet
       case rel => exact ⟨_, (decide (a2_7 > 5000)), zS, H', ⟨by first | omega | exact Nat.le_refl _⟩, ⟨by (with_reducible repeat (first | refine blk_drewN ?_ _ | refine blk_drew ?_ | refine blk_alloc ?_ _)); exact BK486.out⟩, ⟨by (with_reducible repeat (first | refine blk_drewN ?_ _ | refine blk_drew ?_ | refine blk_alloc ?_ _)); exact BK487.out⟩, ⟨by repeat (first | (with_reducible first | exact HB.out | apply below_alloc | apply pw_below_drewN | apply below_drew1 | refine below_set ?_ GE486.out | refine below_set ?_ GE487.out) | exact HB.out)⟩⟩
   ·replace c10 := Bool.eq_false_iff.mpr c10
    subst c10
    have H1 : (tapearchivelaw36_PrefetchRequests.j0 k l0 true a1_0 a1_1 a2_0 a2_1 a2_2 a2_3 a2_4 a2_5 a2_6 a2_7) = some r := by rw [if_neg (show ¬ (false = true) by decide)] at H; exact H
    clear H
    have H := H1
    clear H1
    have H' := Aside0.mk H
    clear H
    go_wp2_with (first | ((with_reducible refine gate_callee (f := 13) rfl ?_); refine goesL_ (some 10) rfl rfl Try.func13 (by kernel_rfl) rfl #[.slice A0 l0.length c0] rfl zM ?_; (with_reducible refine (tapearchivelaw36_few.calls k _ _ l0 true _ ?side1 ?side2 A7.out).mono ?_); (case side1 => exact zC (Kd.C_below HR0.out HB.out)); (case side2 => exact HC0.out); rintro e w' ⟨rfl, ⟨nd, rfl⟩⟩; refine ⟨_, rfl, ?_⟩; have hnb38 := NB486_487.out; have hnc38 := NB487_486.out; have hcz39_0 : w6.cell? ⟨gb486, 0, none⟩ = some (.int .i64 a1_0) := (blk_cell BK486.out 0).trans rfl; have hcz39_1 : w6.cell? ⟨gb486, 1, none⟩ = some (.int .i64 a1_1) := (blk_cell BK486.out 1).trans rfl; have hfz39_0 := blk_frozen BK486.out 0; have hfz39_1 := blk_frozen BK486.out 1) | ((with_reducible refine gate_dst (N := 14) rfl ?_); (try (refine gate_guard (by rfl) ?_; dsimp only)); refine Kd.R_lit k25 _ 25 ?hg (N := 14) ?hd (xs := ([(⟨a1_0, a1_1⟩ : S25)] : List (S25))) (inner := [.int .i64 a1_0, .int .i64 a1_1]) (ok := fun _ => True) (okp := fun _ => True) ?hr ?hp (fun _ hk => hk) trivial (Below.refl _ _) (Nat.le_refl _) (by simp) ?_; (case hd => rfl); (case hg => rfl); (case hr => first | (go_simp; done) | (go_simp; rfl)); (case hp => exact (Reps.c2 (show Kd.M k25 _ _ _ (⟨a1_0, a1_1⟩ : S25) [.int .i64 a1_0, .int .i64 a1_1] from (k25_mkM _ _ _ (⟨a1_0, a1_1⟩ : S25) )) (Reps.none _ _))); intro v490 w40 ho41 hb hg_ hnew_; clear hg_ hnew_; (first | rw [← Ny489.out] at ho41 | (simp only [Int.reduceToNat] at ho41; rw [← Ny489.out] at ho41)); have n0_ := Aside0.mk (Kd.R_lower (Kd.R_newB ho41 (g := gb486) (o := .cells #[.int .i64 a1_0, .int .i64 a1_1] 25 (0, 0)) (zL BK486.out)) (below_size (by repeat (first | (with_reducible first | exact HB.out | apply below_alloc | apply pw_below_drewN | apply below_drew1 | refine below_set ?_ GE486.out | refine below_set ?_ GE487.out) | exact HB.out)))); have n1_ := Aside0.mk (blk_below (g := gb486) (o := .cells #[.int .i64 a1_0, .int .i64 a1_1] 25 (0, 0)) (zL BK486.out) hb); have n2_ := Aside0.mk (blk_below (g := gb487) (o := .cells #[.int .i64 a2_0, .int .i64 a2_1, .int .i64 a2_2, .int .i64 a2_3, .int .i64 a2_4, .int .i64 a2_5, .int .i64 a2_6, .int .i64 a2_7] 27 (0, 0)) (zL BK487.out) hb); have n3_ := Aside0.mk (below_step (by repeat (first | (with_reducible first | exact HB.out | apply below_alloc | apply pw_below_drewN | apply below_drew1 | refine below_set ?_ GE486.out | refine below_set ?_ GE487.out) | exact HB.out)) hb); clear BK486; clear BK487; clear HB; have HO491 := n0_; have BK486 := n1_; have BK487 := n2_; have HB := n3_; clear n0_ n1_ n2_ n3_; clear hb ho41; obtain ⟨Ao42, co42, eo42⟩ := Kd.R_slice HO491.out; subst eo42) | (go_at_call 13; (with_reducible refine (tapearchivelaw36_few.calls k _ _ y489 false _ ?side1 ?side2 A9.out).mono ?_); (case side1 => exact zC (Kd.R_reads' HO491.out).2.2); (case side2 => exact (Kd.R_reads' HO491.out).2.1); rintro e w' ⟨rfl, ⟨nd, rfl⟩⟩))
    go_meet
    case rel => exact ⟨_, (true), zS, H', ⟨by first | omega | exact Nat.le_refl _⟩, ⟨by (with_reducible repeat (first | refine blk_drewN ?_ _ | refine blk_drew ?_ | refine blk_alloc ?_ _)); exact BK486.out⟩, ⟨by (with_reducible repeat (first | refine blk_drewN ?_ _ | refine blk_drew ?_ | refine blk_alloc ?_ _)); exact BK487.out⟩, ⟨by repeat (first | (with_reducible first | exact HB.out | apply below_alloc | apply pw_below_drewN | apply below_drew1 | refine below_set ?_ GE486.out | refine below_set ?_ GE487.out) | exact HB.out)⟩⟩
  ·replace c8 := Bool.eq_false_iff.mpr c8
   subst c8
   have H1 : (tapearchivelaw36_PrefetchRequests.j0 k l0 true a1_0 a1_1 a2_0 a2_1 a2_2 a2_3 a2_4 a2_5 a2_6 a2_7) = some r := by rw [if_neg (show ¬ (false = true) by decide)] at H; exact H
   clear H
   have H := H1
   clear H1
   have H' := Aside0.mk H
   clear H
   go_wp2_with (first | ((with_reducible refine gate_callee (f := 13) rfl ?_); refine goesL_ (some 10) rfl rfl Try.func13 (by kernel_rfl) rfl #[.slice A0 l0.length c0] rfl zM ?_; (with_reducible refine (tapearchivelaw36_few.calls k _ _ l0 false _ ?side1 ?side2 A7.out).mono ?_); (case side1 => exact zC (Kd.C_below HR0.out HB.out)); (case side2 => exact HC0.out); rintro e w' ⟨rfl, ⟨nd, rfl⟩⟩; refine ⟨_, rfl, ?_⟩))
   go_meet
   case rel => exact ⟨_, (true), zS, H', ⟨by first | omega | exact Nat.le_refl _⟩, ⟨by (with_reducible repeat (first | refine blk_drewN ?_ _ | refine blk_drew ?_ | refine blk_alloc ?_ _)); exact BK486.out⟩, ⟨by (with_reducible repeat (first | refine blk_drewN ?_ _ | refine blk_drew ?_ | refine blk_alloc ?_ _)); exact BK487.out⟩, ⟨by repeat (first | (with_reducible first | exact HB.out | apply below_alloc | apply pw_below_drewN | apply below_drew1 | refine below_set ?_ GE486.out | refine below_set ?_ GE487.out) | exact HB.out)⟩⟩
 case rest =>
  clear HC4
  try clear c1
  try clear c2
  try clear p2
  try clear c3
  try clear c5
  try clear c8
  try clear c10
  try clear c11
  try clear c11b0
  try clear c12
  try clear c13
  try clear c18
  try clear c18b0
  try clear c19
  try clear c25
  try clear c25b0
  try clear c26
  try clear c32
  try clear c38
  try clear hcz13_0
  try clear hcz13_1
  try clear hcz17_0
  try clear hcz17_1
  try clear hcz17_2
  try clear hcz17_3
  try clear hcz17_4
  try clear hcz17_5
  try clear hcz17_6
  try clear hcz17_7
  try clear hcz20_0
  try clear hcz20_1
  try clear hcz24_0
  try clear hcz24_1
  try clear hcz24_2
  try clear hcz24_3
  try clear hcz24_4
  try clear hcz24_5
  try clear hcz24_6
  try clear hcz24_7
  try clear hcz27_0
  try clear hcz27_1
  try clear hcz31_0
  try clear hcz31_1
  try clear hcz31_2
  try clear hcz31_3
  try clear hcz31_4
  try clear hcz31_5
  try clear hcz31_6
  try clear hcz31_7
  try clear hcz33_0
  try clear hcz33_1
  try clear hcz37_0
  try clear hcz37_1
  try clear hcz37_2
  try clear hcz37_3
  try clear hcz37_4
  try clear hcz37_5
  try clear hcz37_6
  try clear hcz37_7
  try clear hcz39_0
  try clear hcz39_1
  try clear hfz13_0
  try clear hfz13_1
  try clear hfz17_0
  try clear hfz17_1
  try clear hfz17_2
  try clear hfz17_3
  try clear hfz17_4
  try clear hfz17_5
  try clear hfz17_6
  try clear hfz17_7
  try clear hfz20_0
  try clear hfz20_1
  try clear hfz24_0
  try clear hfz24_1
  try clear hfz24_2
  try clear hfz24_3
  try clear hfz24_4
  try clear hfz24_5
  try clear hfz24_6
  try clear hfz24_7
  try clear hfz27_0
  try clear hfz27_1
  try clear hfz31_0
  try clear hfz31_1
  try clear hfz31_2
  try clear hfz31_3
  try clear hfz31_4
  try clear hfz31_5
  try clear hfz31_6
  try clear hfz31_7
  try clear hfz33_0
  try clear hfz33_1
  try clear hfz37_0
  try clear hfz37_1
  try clear hfz37_2
  try clear hfz37_3
  try clear hfz37_4
  try clear hfz37_5
  try clear hfz37_6
  try clear hfz37_7
  try clear hfz39_0
  try clear hfz39_1
  obtain ⟨kq, x37_3, rfl, HA, HJ3, BK486, BK487, HB⟩ := hcut
  cases kq with
  | zero => exact absurd HA.out (by simp [tapearchivelaw36_PrefetchRequests.j0])
  | succ kj3 =>
   have H := HA.out
   clear HA
   simp only [tapearchivelaw36_PrefetchRequests.j0] at H
   by_cases c43 : x37_3 = true
   ·subst c43
    have H1 : ((tapearchivelaw36_awake_s.f).bind fun t493 => (some t493)) = some r := by rw [if_pos rfl] at H; exact H
    clear H
    have H := H1
    clear H1
    replace H := Option.bind_eq_some_iff.mp H
    obtain ⟨t493, A440, H⟩ := H
    replace H : (some t493) = some r := H
    have A44 := Aside0.mk A440
    clear A440
    obtain rfl := Option.some.inj H
    go_wp2_with (first | ((with_reducible refine gate_callee (f := 12) rfl ?_); refine goesL_ (some 38) rfl rfl Try.func12 (by kernel_rfl) rfl #[] rfl zM ?_; (with_reducible refine (tapearchivelaw36_awake_s.calls  t493 _ A44.out).mono ?_); rintro e w45 ⟨rfl, hb⟩; refine ⟨_, rfl, ?_⟩; have n0_ := Aside0.mk (blk_below (g := gb486) (o := .cells #[.int .i64 a1_0, .int .i64 a1_1] 25 (0, 0)) (zL BK486.out) hb); have n1_ := Aside0.mk (blk_below (g := gb487) (o := .cells #[.int .i64 a2_0, .int .i64 a2_1, .int .i64 a2_2, .int .i64 a2_3, .int .i64 a2_4, .int .i64 a2_5, .int .i64 a2_6, .int .i64 a2_7] 27 (0, 0)) (zL BK487.out) hb); have n2_ := Aside0.mk (below_step (by repeat (first | (with_reducible first | exact HB.out | apply below_alloc | apply pw_below_drewN | apply below_drew1 | refine below_set ?_ GE486.out | refine below_set ?_ GE487.out) | exact HB.out)) hb); clear BK486; clear BK487; clear HB; have BK486 := n0_; have BK487 := n1_; have HB := n2_; clear n0_ n1_ n2_; (try clear hb); (try clear hb2); (try clear hk); (try clear hi)))
    go_ret
    exact ⟨by first | rfl | (simp [errW_none, errW_some] <;> rfl) | (simp [*, errW_none, errW_some] <;> rfl), by repeat (first | (with_reducible first | exact HB.out | apply below_alloc | apply pw_below_drewN | apply below_drew1 | refine below_set ?_ GE486.out | refine below_set ?_ GE487.out) | exact HB.out)⟩
   ·replace c43 := Bool.eq_false_iff.mpr c43
    subst c43
    have H1 : ((prefetch_Requests.f kj3 l0 a1_0 a1_1 a2_6 a2_7).bind fun t494 => ((tapearchiveref36_Requests.f kj3 l0 a1_0 a1_1 a2_6 a2_7).bind fun t497 => ((tapearchiveref34_Same.f kj3 t494 t497).bind fun t500 => (if t500 = true then (if (t494.length : Int) = (t497.length : Int) then ((prefetch_Waste.f kj3 t494 l0).bind fun t501 => ((tapearchiveref36_Waste.f kj3 t497 l0).bind fun t502 => (if t501 = t502 then ((tapearchivelaw36_awake_s.f).bind fun t503 => (some t503)) else (some false)))) else (some false)) else (some false))))) = some r := by rw [if_neg (show ¬ (false = true) by decide)] at H; exact H
    clear H
    have H := H1
    clear H1
    replace H := Option.bind_eq_some_iff.mp H
    obtain ⟨t494, A460, H⟩ := H
    replace H : ((tapearchiveref36_Requests.f kj3 l0 a1_0 a1_1 a2_6 a2_7).bind fun t497 => ((tapearchiveref34_Same.f kj3 t494 t497).bind fun t500 => (if t500 = true then (if (t494.length : Int) = (t497.length : Int) then ((prefetch_Waste.f kj3 t494 l0).bind fun t501 => ((tapearchiveref36_Waste.f kj3 t497 l0).bind fun t502 => (if t501 = t502 then ((tapearchivelaw36_awake_s.f).bind fun t503 => (some t503)) else (some false)))) else (some false)) else (some false)))) = some r := H
    have A46 := Aside0.mk A460
    clear A460
    replace H := Option.bind_eq_some_iff.mp H
    obtain ⟨t497, A470, H⟩ := H
    replace H : ((tapearchiveref34_Same.f kj3 t494 t497).bind fun t500 => (if t500 = true then (if (t494.length : Int) = (t497.length : Int) then ((prefetch_Waste.f kj3 t494 l0).bind fun t501 => ((tapearchiveref36_Waste.f kj3 t497 l0).bind fun t502 => (if t501 = t502 then ((tapearchivelaw36_awake_s.f).bind fun t503 => (some t503)) else (some false)))) else (some false)) else (some false))) = some r := H
    have A47 := Aside0.mk A470
    clear A470
    replace H := Option.bind_eq_some_iff.mp H
    obtain ⟨t500, A480, H⟩ := H
    replace H : (if t500 = true then (if (t494.length : Int) = (t497.length : Int) then ((prefetch_Waste.f kj3 t494 l0).bind fun t501 => ((tapearchiveref36_Waste.f kj3 t497 l0).bind fun t502 => (if t501 = t502 then ((tapearchivelaw36_awake_s.f).bind fun t503 => (some t503)) else (some false)))) else (some false)) else (some false)) = some r := H
    have A48 := Aside0.mk A480
    clear A480
    by_cases c49 : t500 = true
    ·subst c49
     have H1 : (if (t494.length : Int) = (t497.length : Int) then ((prefetch_Waste.f kj3 t494 l0).bind fun t501 => ((tapearchiveref36_Waste.f kj3 t497 l0).bind fun t502 => (if t501 = t502 then ((tapearchivelaw36_awake_s.f).bind fun t503 => (some t503)) else (some false)))) else (some false)) = some r := by rw [if_pos rfl] at H; exact H
     clear H
     have H := H1
     clear H1
     by_cases c50 : (t494.length : Int) = (t497.length : Int)
     ·rw [if_pos c50] at H
      have c50b0 : ((t494.length : Int) == (t497.length : Int)) = true := beq_iff_eq.mpr c50
      have c50b1 : ((t494.length : Int) != (t497.length : Int)) = false := bne_eq_false_iff_eq.mpr c50
      have c50b2 : (t494.length == t497.length) = true := by first | simpa using c50 | (simp at c50 ⊢; omega)
      clear c50
      replace H := Option.bind_eq_some_iff.mp H
      obtain ⟨t501, A510, H⟩ := H
      replace H : ((tapearchiveref36_Waste.f kj3 t497 l0).bind fun t502 => (if t501 = t502 then ((tapearchivelaw36_awake_s.f).bind fun t503 => (some t503)) else (some false))) = some r := H
      have A51 := Aside0.mk A510
      clear A510
      replace H := Option.bind_eq_some_iff.mp H
      obtain ⟨t502, A520, H⟩ := H
      replace H : (if t501 = t502 then ((tapearchivelaw36_awake_s.f).bind fun t503 => (some t503)) else (some false)) = some r := H
      have A52 := Aside0.mk A520
      clear A520
      by_cases c53 : t501 = t502
      ·rw [if_pos c53] at H
       have c53b0 : (t501 == t502) = true := beq_iff_eq.mpr c53
       have c53b1 : (t501 != t502) = false := bne_eq_false_iff_eq.mpr c53
       clear c53
       replace H := Option.bind_eq_some_iff.mp H
       obtain ⟨t503, A540, H⟩ := H
       replace H : (some t503) = some r := H
       have A54 := Aside0.mk A540
       clear A540
       obtain rfl := Option.some.inj H
       have hnb55 := NB486_487.out
       have hnc55 := NB487_486.out
       have hcz56_0 : wc.cell? ⟨gb486, 0, none⟩ = some (.int .i64 a1_0) := (blk_cell BK486.out 0).trans rfl
       have hcz56_1 : wc.cell? ⟨gb486, 1, none⟩ = some (.int .i64 a1_1) := (blk_cell BK486.out 1).trans rfl
       have hfz56_0 := blk_frozen BK486.out 0
       have hfz56_1 := blk_frozen BK486.out 1
       have hcz57_0 : wc.cell? ⟨gb487, 0, none⟩ = some (.int .i64 a2_0) := (blk_cell BK487.out 0).trans rfl
       have hcz57_1 : wc.cell? ⟨gb487, 1, none⟩ = some (.int .i64 a2_1) := (blk_cell BK487.out 1).trans rfl
       have hcz57_2 : wc.cell? ⟨gb487, 2, none⟩ = some (.int .i64 a2_2) := (blk_cell BK487.out 2).trans rfl
       have hcz57_3 : wc.cell? ⟨gb487, 3, none⟩ = some (.int .i64 a2_3) := (blk_cell BK487.out 3).trans rfl
       have hcz57_4 : wc.cell? ⟨gb487, 4, none⟩ = some (.int .i64 a2_4) := (blk_cell BK487.out 4).trans rfl
       have hcz57_5 : wc.cell? ⟨gb487, 5, none⟩ = some (.int .i64 a2_5) := (blk_cell BK487.out 5).trans rfl
       have hcz57_6 : wc.cell? ⟨gb487, 6, none⟩ = some (.int .i64 a2_6) := (blk_cell BK487.out 6).trans rfl
       have hcz57_7 : wc.cell? ⟨gb487, 7, none⟩ = some (.int .i64 a2_7) := (blk_cell BK487.out 7).trans rfl
       have hfz57_0 := blk_frozen BK487.out 0
       have hfz57_1 := blk_frozen BK487.out 1
       have hfz57_2 := blk_frozen BK487.out 2
       have hfz57_3 := blk_frozen BK487.out 3
       have hfz57_4 := blk_frozen BK487.out 4
       have hfz57_5 := blk_frozen BK487.out 5
       have hfz57_6 := blk_frozen BK487.out 6
       have hfz57_7 := blk_frozen BK487.out 7
       go_wp2_with (first | ((with_reducible refine gate_callee (f := 14) rfl ?_); refine goesL_ (some 45) rfl rfl Try.func14 (by kernel_rfl) rfl #[.slice A0 l0.length c0, .agg #[.int .i64 a1_0, .int .i64 a1_1], .int .i64 a2_6, .int .i64 a2_7] rfl zM ?_; (with_reducible refine (prefetch_Requests.calls kj3 _ _ l0 a1_0 a1_1 a2_6 a2_7 t494 _ ?side1 ?side2 A46.out).mono ?_); (case side1 => exact zC (Kd.C_below HR0.out HB.out)); (case side2 => exact HC0.out); rintro e w58 ⟨v495, rfl, ho0, hb⟩; refine ⟨_, rfl, ?_⟩; have n0_ := Aside0.mk (Kd.R_lower (Kd.R_newB ho0 (g := gb486) (o := .cells #[.int .i64 a1_0, .int .i64 a1_1] 25 (0, 0)) (zL BK486.out)) (below_size (by repeat (first | (with_reducible first | exact HB.out | apply below_alloc | apply pw_below_drewN | apply below_drew1 | refine below_set ?_ GE486.out | refine below_set ?_ GE487.out) | exact HB.out)))); have n1_ := Aside0.mk (blk_below (g := gb486) (o := .cells #[.int .i64 a1_0, .int .i64 a1_1] 25 (0, 0)) (zL BK486.out) hb); have n2_ := Aside0.mk (blk_below (g := gb487) (o := .cells #[.int .i64 a2_0, .int .i64 a2_1, .int .i64 a2_2, .int .i64 a2_3, .int .i64 a2_4, .int .i64 a2_5, .int .i64 a2_6, .int .i64 a2_7] 27 (0, 0)) (zL BK487.out) hb); have n3_ := Aside0.mk (below_step (by repeat (first | (with_reducible first | exact HB.out | apply below_alloc | apply pw_below_drewN | apply below_drew1 | refine below_set ?_ GE486.out | refine below_set ?_ GE487.out) | exact HB.out)) hb); clear BK486; clear BK487; clear HB; have HO496 := n0_; have BK486 := n1_; have BK487 := n2_; have HB := n3_; clear n0_ n1_ n2_ n3_; (try clear hb); (try clear hb2); (try clear hk); (try clear hi); (try clear ho0); have hcz59_0 : w58.cell? ⟨gb486, 0, none⟩ = some (.int .i64 a1_0) := (blk_cell BK486.out 0).trans rfl; have hcz59_1 : w58.cell? ⟨gb486, 1, none⟩ = some (.int .i64 a1_1) := (blk_cell BK486.out 1).trans rfl; have hfz59_0 := blk_frozen BK486.out 0; have hfz59_1 := blk_frozen BK486.out 1; have hcz60_0 : w58.cell? ⟨gb487, 0, none⟩ = some (.int .i64 a2_0) := (blk_cell BK487.out 0).trans rfl; have hcz60_1 : w58.cell? ⟨gb487, 1, none⟩ = some (.int .i64 a2_1) := (blk_cell BK487.out 1).trans rfl; have hcz60_2 : w58.cell? ⟨gb487, 2, none⟩ = some (.int .i64 a2_2) := (blk_cell BK487.out 2).trans rfl; have hcz60_3 : w58.cell? ⟨gb487, 3, none⟩ = some (.int .i64 a2_3) := (blk_cell BK487.out 3).trans rfl; have hcz60_4 : w58.cell? ⟨gb487, 4, none⟩ = some (.int .i64 a2_4) := (blk_cell BK487.out 4).trans rfl; have hcz60_5 : w58.cell? ⟨gb487, 5, none⟩ = some (.int .i64 a2_5) := (blk_cell BK487.out 5).trans rfl; have hcz60_6 : w58.cell? ⟨gb487, 6, none⟩ = some (.int .i64 a2_6) := (blk_cell BK487.out 6).trans rfl; have hcz60_7 : w58.cell? ⟨gb487, 7, none⟩ = some (.int .i64 a2_7) := (blk_cell BK487.out 7).trans rfl; have hfz60_0 := blk_frozen BK487.out 0; have hfz60_1 := blk_frozen BK487.out 1; have hfz60_2 := blk_frozen BK487.out 2; have hfz60_3 := blk_frozen BK487.out 3; have hfz60_4 := blk_frozen BK487.out 4; have hfz60_5 := blk_frozen BK487.out 5; have hfz60_6 := blk_frozen BK487.out 6; have hfz60_7 := blk_frozen BK487.out 7) | ((with_reducible refine gate_callee (f := 15) rfl ?_); refine goesL_ (some 52) rfl rfl Try.func15 (by kernel_rfl) rfl #[.slice A0 l0.length c0, .agg #[.int .i64 a1_0, .int .i64 a1_1], .int .i64 a2_6, .int .i64 a2_7] rfl zM ?_; (with_reducible refine (tapearchiveref36_Requests.calls kj3 _ _ l0 a1_0 a1_1 a2_6 a2_7 t497 _ ?side1 ?side2 A47.out).mono ?_); (case side1 => exact zC (Kd.C_below HR0.out HB.out)); (case side2 => exact HC0.out); rintro e w61 ⟨v498, rfl, ho0, hb⟩; refine ⟨_, rfl, ?_⟩; have n0_ := Aside0.mk (Kd.R_elder' (zR HO496.out) (Kd.R_base ho0) hb); have n1_ := Aside0.mk (Kd.R_lower (Kd.R_newB (Kd.R_new' ho0 (Kd.R_lt (zR HO496.out))) (g := gb486) (o := .cells #[.int .i64 a1_0, .int .i64 a1_1] 25 (0, 0)) (zL BK486.out)) (below_size (by repeat (first | (with_reducible first | exact HB.out | apply below_alloc | apply pw_below_drewN | apply below_drew1 | refine below_set ?_ GE486.out | refine below_set ?_ GE487.out) | exact HB.out)))); have n2_ := Aside0.mk (blk_below (g := gb486) (o := .cells #[.int .i64 a1_0, .int .i64 a1_1] 25 (0, 0)) (zL BK486.out) hb); have n3_ := Aside0.mk (blk_below (g := gb487) (o := .cells #[.int .i64 a2_0, .int .i64 a2_1, .int .i64 a2_2, .int .i64 a2_3, .int .i64 a2_4, .int .i64 a2_5, .int .i64 a2_6, .int .i64 a2_7] 27 (0, 0)) (zL BK487.out) hb); have n4_ := Aside0.mk (below_step (by repeat (first | (with_reducible first | exact HB.out | apply below_alloc | apply pw_below_drewN | apply below_drew1 | refine below_set ?_ GE486.out | refine below_set ?_ GE487.out) | exact HB.out)) hb); clear HO496; clear BK486; clear BK487; clear HB; have HO496 := n0_; have HO499 := n1_; have BK486 := n2_; have BK487 := n3_; have HB := n4_; clear n0_ n1_ n2_ n3_ n4_; (try clear hb); (try clear hb2); (try clear hk); (try clear hi); (try clear ho0); obtain ⟨Ao62, co62, eo62⟩ := Kd.R_slice HO496.out; subst eo62; obtain ⟨Ao63, co63, eo63⟩ := Kd.R_slice HO499.out; subst eo63) | ((with_reducible refine gate_callee (f := 16) rfl ?_); refine goesL_ (some 55) rfl rfl Try.func16 (by kernel_rfl) rfl #[.slice Ao62 t494.length co62, .slice Ao63 t497.length co63] rfl zM ?_; (with_reducible refine (tapearchiveref34_Same.calls kj3 _ _ t494 _ _ t497 true _ ?side1 ?side2 ?side3 ?side4 A48.out).mono ?_); (case side1 => exact zC (Kd.R_reads' HO496.out).2.2); (case side2 => exact (Kd.R_reads' HO496.out).2.1); (case side3 => exact zC (Kd.R_reads' HO499.out).2.2); (case side4 => exact (Kd.R_reads' HO499.out).2.1); rintro e w' ⟨rfl, ⟨nd, rfl⟩⟩; refine ⟨_, rfl, ?_⟩) | (go_at_call 17; (with_reducible refine (prefetch_Waste.calls kj3 _ _ t494 _ _ l0 t501 _ ?side1 ?side2 ?side3 ?side4 A51.out).mono ?_); (case side1 => exact zC (Kd.R_reads' HO496.out).2.2); (case side2 => exact (Kd.R_reads' HO496.out).2.1); (case side3 => repeat (first | exact (Kd.C_below HR0.out (by repeat (first | (with_reducible first | exact HB.out | apply below_alloc | apply pw_below_drewN | apply below_drew1 | refine below_set ?_ GE486.out | refine below_set ?_ GE487.out) | exact HB.out))) | (with_reducible refine Kd.C_alloc ?_ _) | (with_reducible refine Kd.C_drewN ?_ _) | (with_reducible refine Kd.C_drew ?_))); (case side4 => exact HC0.out); rintro e w64 ⟨rfl, hb⟩; have n0_ := Aside0.mk (Kd.R_below (zR HO496.out) hb); have n1_ := Aside0.mk (Kd.R_below (zR HO499.out) hb); have n2_ := Aside0.mk (blk_below (g := gb486) (o := .cells #[.int .i64 a1_0, .int .i64 a1_1] 25 (0, 0)) (zL BK486.out) hb); have n3_ := Aside0.mk (blk_below (g := gb487) (o := .cells #[.int .i64 a2_0, .int .i64 a2_1, .int .i64 a2_2, .int .i64 a2_3, .int .i64 a2_4, .int .i64 a2_5, .int .i64 a2_6, .int .i64 a2_7] 27 (0, 0)) (zL BK487.out) hb); have n4_ := Aside0.mk (below_step (by repeat (first | (with_reducible first | exact HB.out | apply below_alloc | apply pw_below_drewN | apply below_drew1 | refine below_set ?_ GE486.out | refine below_set ?_ GE487.out) | exact HB.out)) hb); clear HO496; clear HO499; clear BK486; clear BK487; clear HB; have HO496 := n0_; have HO499 := n1_; have BK486 := n2_; have BK487 := n3_; have HB := n4_; clear n0_ n1_ n2_ n3_ n4_; (try clear hb); (try clear hb2); (try clear hk); (try clear hi)) | (go_at_call 18; (with_reducible refine (tapearchiveref36_Waste.calls kj3 _ _ t497 _ _ l0 t502 _ ?side1 ?side2 ?side3 ?side4 A52.out).mono ?_); (case side1 => exact zC (Kd.R_reads' HO499.out).2.2); (case side2 => exact (Kd.R_reads' HO499.out).2.1); (case side3 => exact zC (Kd.C_below HR0.out HB.out)); (case side4 => exact HC0.out); rintro e w65 ⟨rfl, hb⟩; have n0_ := Aside0.mk (Kd.R_below (zR HO496.out) hb); have n1_ := Aside0.mk (Kd.R_below (zR HO499.out) hb); have n2_ := Aside0.mk (blk_below (g := gb486) (o := .cells #[.int .i64 a1_0, .int .i64 a1_1] 25 (0, 0)) (zL BK486.out) hb); have n3_ := Aside0.mk (blk_below (g := gb487) (o := .cells #[.int .i64 a2_0, .int .i64 a2_1, .int .i64 a2_2, .int .i64 a2_3, .int .i64 a2_4, .int .i64 a2_5, .int .i64 a2_6, .int .i64 a2_7] 27 (0, 0)) (zL BK487.out) hb); have n4_ := Aside0.mk (below_step (by repeat (first | (with_reducible first | exact HB.out | apply below_alloc | apply pw_below_drewN | apply below_drew1 | refine below_set ?_ GE486.out | refine below_set ?_ GE487.out) | exact HB.out)) hb); clear HO496; clear HO499; clear BK486; clear BK487; clear HB; have HO496 := n0_; have HO499 := n1_; have BK486 := n2_; have BK487 := n3_; have HB := n4_; clear n0_ n1_ n2_ n3_ n4_; (try clear hb); (try clear hb2); (try clear hk); (try clear hi)) | (go_at_call 12; (with_reducible refine (tapearchivelaw36_awake_s.calls  t503 _ A54.out).mono ?_); rintro e w66 ⟨rfl, hb⟩; have n0_ := Aside0.mk (Kd.R_below (zR HO496.out) hb); have n1_ := Aside0.mk (Kd.R_below (zR HO499.out) hb); have n2_ := Aside0.mk (blk_below (g := gb486) (o := .cells #[.int .i64 a1_0, .int .i64 a1_1] 25 (0, 0)) (zL BK486.out) hb); have n3_ := Aside0.mk (blk_below (g := gb487) (o := .cells #[.int .i64 a2_0, .int .i64 a2_1, .int .i64 a2_2, .int .i64 a2_3, .int .i64 a2_4, .int .i64 a2_5, .int .i64 a2_6, .int .i64 a2_7] 27 (0, 0)) (zL BK487.out) hb); have n4_ := Aside0.mk (below_step (by repeat (first | (with_reducible first | exact HB.out | apply below_alloc | apply pw_below_drewN | apply below_drew1 | refine below_set ?_ GE486.out | refine below_set ?_ GE487.out) | exact HB.out)) hb); clear HO496; clear HO499; clear BK486; clear BK487; clear HB; have HO496 := n0_; have HO499 := n1_; have BK486 := n2_; have BK487 := n3_; have HB := n4_; clear n0_ n1_ n2_ n3_ n4_; (try clear hb); (try clear hb2); (try clear hk); (try clear hi)))
       go_ret
       exact ⟨by first | rfl | (simp [errW_none, errW_some] <;> rfl) | (simp [*, errW_none, errW_some] <;> rfl), by repeat (first | (with_reducible first | exact HB.out | apply below_alloc | apply pw_below_drewN | apply below_drew1 | refine below_set ?_ GE486.out | refine below_set ?_ GE487.out) | exact HB.out)⟩
      ·rw [if_neg c53] at H
       have c53b0 : (t501 == t502) = false := beq_eq_false_iff_ne.mpr c53
       have c53b1 : (t501 != t502) = true := bne_iff_ne.mpr c53
       exact absurd (Option.some.inj H) (by rw [ht_.out]; simp)
     ·rw [if_neg c50] at H
      have c50b0 : ((t494.length : Int) == (t497.length : Int)) = false := beq_eq_false_iff_ne.mpr c50
      have c50b1 : ((t494.length : Int) != (t497.length : Int)) = true := bne_iff_ne.mpr c50
      have c50b2 : (t494.length == t497.length) = false := by first | simpa using c50 | (simp at c50 ⊢; omega)
      exact absurd (Option.some.inj H) (by rw [ht_.out]; simp)
    ·replace c49 := Bool.eq_false_iff.mpr c49
     subst c49
     have H1 : (some false) = some r := by rw [if_neg (show ¬ (false = true) by decide)] at H; exact H
     clear H
     have H := H1
     clear H1
     exact absurd (Option.some.inj H) (by rw [ht_.out]; simp)

end
end Go.Proofs.Ytapbmkcncjkanaa.P
