-- Written by this session's wip/tools/px.py out of the translation. Lean checks it.
import Derived.Test.YtapbmkcncjkanaaP0
import Derived.Test.YtapbmkcncjkanaaP1
import Derived.Test.YtapbmkcncjkanaaP2
import Derived.Test.YtapbmkcncjkanaaP3
import Derived.Test.YtapbmkcncjkanaaP4
import Derived.Test.YtapbmkcncjkanaaAwake
namespace Go.Proofs.Ytapbmkcncjkanaa.P
noncomputable section
open Go.RowKit Go.Proofs.YtapbmkcncjkanaaW.PrintWords Go.Proofs.YtapbmkcncjkanaaW.PrintLast Go.Proofs.YtapbmkcncjkanaaW.PrintMore
attribute [local go_sem] max2_int min2_int max_two min_two max_three min_three max_four min_four   -- for this text's walks alone
set_option linter.unusedVariables false
set_option linter.unusedSimpArgs false

attribute [local go_sem high] eqA25 eqA28
/-! ### tapearchivelaw36_PrefetchReads: function 3 -/
def tapearchivelaw36_PrefetchReads.f (k : Nat) (a0_0 : Int) (a0_1 : Int) (a0_2 : Int) (a0_3 : Int) (a0_4 : Int) (a0_5 : Int) (a0_6 : Int) (a0_7 : Int) : Option (Bool) := (tapearchivelaw36_stream.f a0_0 a0_1 a0_2 a0_3).bind fun bt285 => ((prefetch_Read.f k bt285.1 bt285.2.1 bt285.2.2.1 bt285.2.2.2 a0_4 a0_5 a0_6 a0_7).bind fun bt289 => ((tapearchiveref36_Read.f k a0_0 a0_1 a0_2 a0_3 a0_4 a0_5 a0_6 a0_7).bind fun bt297 => ((tapearchivelaw36_stream.f bt297.1 bt297.2.1 bt297.2.2.1 bt297.2.2.2.1).bind fun bt305 => (if (bt289.1 == bt305.1 && (bt289.2.1 == bt305.2.1 && (bt289.2.2.1 == bt305.2.2.1 && (bt289.2.2.2.1 == bt305.2.2.2)))) = true then (if (bt289.2.2.2.2.1 == bt297.2.2.2.2.1 && (bt289.2.2.2.2.2 == bt297.2.2.2.2.2)) = true then ((tapearchivelaw36_awake_s.f).bind fun t309 => (some t309)) else (some false)) else (some false)))))
theorem tapearchivelaw36_PrefetchReads.mono : ∀ a0 a1 a2 a3 a4 a5 a6 a7 k, LeO (tapearchivelaw36_PrefetchReads.f k a0 a1 a2 a3 a4 a5 a6 a7) (tapearchivelaw36_PrefetchReads.f (k + 1) a0 a1 a2 a3 a4 a5 a6 a7) := by
 intro a0 a1 a2 a3 a4 a5 a6 a7 k
 unfold tapearchivelaw36_PrefetchReads.f
 repeat' first
   | (with_reducible exact prefetch_Read.mono _ _ _ _ _ _ _ _ _)
   | (with_reducible exact tapearchiveref36_Read.mono _ _ _ _ _ _ _ _ _)
   | (with_reducible exact LeO.refl _)
   | (with_reducible exact LeO.none _)
   | (with_reducible refine LeO.ite ?_ ?_)
   | (with_reducible refine LeO.bind ?_ (fun _ => ?_))
   | exact prefetch_Read.mono _ _ _ _ _ _ _ _ _
   | exact tapearchiveref36_Read.mono _ _ _ _ _ _ _ _ _
   | exact LeO.none _
   | refine LeO.ite ?_ ?_
   | refine LeO.bind ?_ (fun _ => ?_)
def tapearchivelaw36_PrefetchReads.T1 : Bool × List (List Nat × List Nat) := (true, [([], []), ([0], [0]), ([1], [1]), ([], []), ([3], [3]), ([], []), ([5], [5]), ([], []), ([7], [7]), ([2, 4, 6, 8, 2], [2, 4, 6, 8]), ([9], [9]), ([10], [10]), ([10], [10]), ([], []), ([], []), ([13, 11, 9, 0, 1, 2, 3, 4, 5, 6, 7, 8, 9, 10, 11, 13, 14], [11, 13]), ([14, 12, 15, 0, 1, 2, 3, 4, 5, 6, 7, 8, 9, 10, 11, 12, 13, 14, 15], [12, 14])])
def tapearchivelaw36_PrefetchReads.B1 : List Nat := [0, 1, 3, 0, 8, 0, 32, 0, 128, 511, 1023, 2047, 2047, 0, 0, 28671, 65535]
theorem tapearchivelaw36_PrefetchReads.tab1 : rtab .any (opsOf Try.f3 1) = tapearchivelaw36_PrefetchReads.T1 := by kernel_rfl
theorem tapearchivelaw36_PrefetchReads.bits1 : waitsOk tapearchivelaw36_PrefetchReads.T1.2 tapearchivelaw36_PrefetchReads.B1 = true := by kernel_rfl
def tapearchivelaw36_PrefetchReads.T3 : Bool × List (List Nat × List Nat) := (true, [([], []), ([], []), ([1], [1]), ([0, 2], [0, 2]), ([3, 2], [3]), ([4], [4]), ([4], [4]), ([5, 6, 4], [4, 5, 6]), ([4, 7], [4, 7]), ([8, 4], [8]), ([9, 9], [9]), ([9, 10], [9, 10]), ([11, 10, 0, 1, 2, 3, 4, 5, 6, 7, 8, 9, 10, 11], [11])])
def tapearchivelaw36_PrefetchReads.B3 : List Nat := [0, 0, 2, 7, 15, 31, 31, 127, 255, 511, 1023, 2047, 4095]
theorem tapearchivelaw36_PrefetchReads.tab3 : rtab .any (opsOf Try.f3 3) = tapearchivelaw36_PrefetchReads.T3 := by kernel_rfl
theorem tapearchivelaw36_PrefetchReads.bits3 : waitsOk tapearchivelaw36_PrefetchReads.T3.2 tapearchivelaw36_PrefetchReads.B3 = true := by kernel_rfl
set_option maxHeartbeats 8000000 in
set_option maxRecDepth 100000 in
theorem tapearchivelaw36_PrefetchReads.calls (k : Nat) (a0_0 : Int) (a0_1 : Int) (a0_2 : Int) (a0_3 : Int) (a0_4 : Int) (a0_5 : Int) (a0_6 : Int) (a0_7 : Int) (r : Bool) (w : World) (ht_ : Aside0 (r = true)) (h : tapearchivelaw36_PrefetchReads.f k a0_0 a0_1 a0_2 a0_3 a0_4 a0_5 a0_6 a0_7 = some r) :
  Calls Try.prog 3 #[.agg #[.int .i64 a0_0, .int .i64 a0_1, .int .i64 a0_2, .int .i64 a0_3, .int .i64 a0_4, .int .i64 a0_5, .int .i64 a0_6, .int .i64 a0_7]] w fun e w' => e = .returned (.bool r) ∧ Below w.heap.size w w' := by
 have hu27 := Try.underlying27
 have hu23 := Try.underlying23
 have hu25 := Try.underlying25
 have hu28 := Try.underlying28
 have HB := Aside0.mk (Below.refl w.heap.size w)
 have H : ((tapearchivelaw36_stream.f a0_0 a0_1 a0_2 a0_3).bind fun bt285 => ((prefetch_Read.f k bt285.1 bt285.2.1 bt285.2.2.1 bt285.2.2.2 a0_4 a0_5 a0_6 a0_7).bind fun bt289 => ((tapearchiveref36_Read.f k a0_0 a0_1 a0_2 a0_3 a0_4 a0_5 a0_6 a0_7).bind fun bt297 => ((tapearchivelaw36_stream.f bt297.1 bt297.2.1 bt297.2.2.1 bt297.2.2.2.1).bind fun bt305 => (if (bt289.1 == bt305.1 && (bt289.2.1 == bt305.2.1 && (bt289.2.2.1 == bt305.2.2.1 && (bt289.2.2.2.1 == bt305.2.2.2)))) = true then (if (bt289.2.2.2.2.1 == bt297.2.2.2.2.1 && (bt289.2.2.2.2.2 == bt297.2.2.2.2.2)) = true then ((tapearchivelaw36_awake_s.f).bind fun t309 => (some t309)) else (some false)) else (some false)))))) = some r := h
 clear h
 replace H := Option.bind_eq_some_iff.mp H
 obtain ⟨⟨t285, t286, t287, t288⟩, A20, H⟩ := H
 replace H : ((prefetch_Read.f k t285 t286 t287 t288 a0_4 a0_5 a0_6 a0_7).bind fun bt289 => ((tapearchiveref36_Read.f k a0_0 a0_1 a0_2 a0_3 a0_4 a0_5 a0_6 a0_7).bind fun bt297 => ((tapearchivelaw36_stream.f bt297.1 bt297.2.1 bt297.2.2.1 bt297.2.2.2.1).bind fun bt305 => (if (bt289.1 == bt305.1 && (bt289.2.1 == bt305.2.1 && (bt289.2.2.1 == bt305.2.2.1 && (bt289.2.2.2.1 == bt305.2.2.2)))) = true then (if (bt289.2.2.2.2.1 == bt297.2.2.2.2.1 && (bt289.2.2.2.2.2 == bt297.2.2.2.2.2)) = true then ((tapearchivelaw36_awake_s.f).bind fun t309 => (some t309)) else (some false)) else (some false))))) = some r := H
 have A2 := Aside0.mk A20
 clear A20
 replace H := Option.bind_eq_some_iff.mp H
 obtain ⟨⟨t289, t290, t291, t292, t293, t294⟩, A30, H⟩ := H
 replace H : ((tapearchiveref36_Read.f k a0_0 a0_1 a0_2 a0_3 a0_4 a0_5 a0_6 a0_7).bind fun bt297 => ((tapearchivelaw36_stream.f bt297.1 bt297.2.1 bt297.2.2.1 bt297.2.2.2.1).bind fun bt305 => (if (t289 == bt305.1 && (t290 == bt305.2.1 && (t291 == bt305.2.2.1 && (t292 == bt305.2.2.2)))) = true then (if (t293 == bt297.2.2.2.2.1 && (t294 == bt297.2.2.2.2.2)) = true then ((tapearchivelaw36_awake_s.f).bind fun t309 => (some t309)) else (some false)) else (some false)))) = some r := H
 have A3 := Aside0.mk A30
 clear A30
 replace H := Option.bind_eq_some_iff.mp H
 obtain ⟨⟨t297, t298, t299, t300, t301, t302⟩, A40, H⟩ := H
 replace H : ((tapearchivelaw36_stream.f t297 t298 t299 t300).bind fun bt305 => (if (t289 == bt305.1 && (t290 == bt305.2.1 && (t291 == bt305.2.2.1 && (t292 == bt305.2.2.2)))) = true then (if (t293 == t301 && (t294 == t302)) = true then ((tapearchivelaw36_awake_s.f).bind fun t309 => (some t309)) else (some false)) else (some false))) = some r := H
 have A4 := Aside0.mk A40
 clear A40
 replace H := Option.bind_eq_some_iff.mp H
 obtain ⟨⟨t305, t306, t307, t308⟩, A50, H⟩ := H
 replace H : (if (t289 == t305 && (t290 == t306 && (t291 == t307 && (t292 == t308)))) = true then (if (t293 == t301 && (t294 == t302)) = true then ((tapearchivelaw36_awake_s.f).bind fun t309 => (some t309)) else (some false)) else (some false)) = some r := H
 have A5 := Aside0.mk A50
 clear A50
 by_cases c6 : (t289 == t305 && (t290 == t306 && (t291 == t307 && (t292 == t308)))) = true
 ·rw [if_pos c6] at H
  have c6b0 : (t289 == t305 && (t290 == t306 && (t291 == t307 && (t292 == t308)))) = true := c6
  (try (have c6b1 : decide (t289 = t305 && (t290 == t306 && (t291 == t307 && (t292 == t308)))) = true := by simpa using c6))
  (try (have c6b2 : (t289 == t305 && (t290 == t306 && (t291 == t307 && (t292 == t308)))) = true := by simpa using c6))
  clear c6
  by_cases c7 : (t293 == t301 && (t294 == t302)) = true
  ·rw [if_pos c7] at H
   have c7b0 : (t293 == t301 && (t294 == t302)) = true := c7
   (try (have c7b1 : decide (t293 = t301 && (t294 == t302)) = true := by simpa using c7))
   (try (have c7b2 : (t293 == t301 && (t294 == t302)) = true := by simpa using c7))
   clear c7
   replace H := Option.bind_eq_some_iff.mp H
   obtain ⟨t309, A80, H⟩ := H
   replace H : (some t309) = some r := H
   have A8 := Aside0.mk A80
   clear A80
   obtain rfl := Option.some.inj H
   go_enter Try.func3, Try.ntmps3
   try go_wp2_with (first | ((with_reducible refine gate_dst (N := 1) rfl ?_); refine box_event ?hg (N := 1) ?hd (cs := #[.int .i64 a0_0, .int .i64 a0_1, .int .i64 a0_2, .int .i64 a0_3, .int .i64 a0_4, .int .i64 a0_5, .int .i64 a0_6, .int .i64 a0_7]) (t := 27) ?hr ?_; (case hd => rfl); (case hg => rfl); (case hr => first | (go_simp; done) | (go_simp; rfl)); intro gb284 hg w9 hbox hb; have n0_ := Aside0.mk (below_step (zB HB) hb); have n1_ := Aside0.mk (hbox); have n2_ := Aside0.mk ((by rw [hg]; exact (below_size (zB HB)) : w.heap.size ≤ gb284)); have n3_ := Aside0.mk ((by rw [hg]; exact (below_size (zB HB)) : w.heap.size ≤ gb284)); clear HB; have HB := n0_; have BK284 := n1_; have GW284 := n2_; have GE284 := n3_; clear n0_ n1_ n2_ n3_; clear hb hbox hg))
   have n0_ := Aside0.mk (blk_drew BK284.out)
   have n1_ := Aside0.mk (below_drew1 HB.out)
   clear BK284
   clear HB
   have BK284 := n0_
   have HB := n1_
   clear n0_ n1_
   refine start_ (n := 17) (S := fun w' => w'.cell? ⟨gb284, 0, none⟩ = some (.int .i64 a0_0) ∧ w'.cell? ⟨gb284, 1, none⟩ = some (.int .i64 a0_1) ∧ w'.cell? ⟨gb284, 2, none⟩ = some (.int .i64 a0_2) ∧ w'.cell? ⟨gb284, 3, none⟩ = some (.int .i64 a0_3) ∧ w'.cell? ⟨gb284, 4, none⟩ = some (.int .i64 a0_4) ∧ w'.cell? ⟨gb284, 5, none⟩ = some (.int .i64 a0_5) ∧ w'.cell? ⟨gb284, 6, none⟩ = some (.int .i64 a0_6) ∧ w'.cell? ⟨gb284, 7, none⟩ = some (.int .i64 a0_7)) (ds := []) #[false, false, false, false, false, false, false, false, false, false, false, false, false, false, false, false, false] (by kernel_rfl) rfl rfl ⟨(blk_cell BK284.out 0).trans rfl, (blk_cell BK284.out 1).trans rfl, (blk_cell BK284.out 2).trans rfl, (blk_cell BK284.out 3).trans rfl, (blk_cell BK284.out 4).trans rfl, (blk_cell BK284.out 5).trans rfl, (blk_cell BK284.out 6).trans rfl, (blk_cell BK284.out 7).trans rfl⟩ (fun hHeld => ?_); refine with_tabW tapearchivelaw36_PrefetchReads.tab1 tapearchivelaw36_PrefetchReads.bits1 (fun HT_ HW_ => ?_)
   generalize w9.drew = w10 at BK284 HB hHeld ⊢
   refine pure_ (i := 0) (N := some 8) (v := ?_) (a' := ?_) #[true, false, false, false, false, false, false, false, false, false, false, false, false, false, false, false, false] rfl rfl (any_of HT_.out (by kernel_rfl)) (fun _ _ _ h => h) (Or.inl ⟨by rfl, ?_⟩) ?_ ?_
   rotate_left
   ·intro w'
    go_simp
    with_reducible rfl
   rotate_left
   ·exact zP i64_w i32_w
   refine pure_ (i := 3) (N := some 11) (v := ?_) (a' := ?_) #[true, false, false, true, false, false, false, false, false, false, false, false, false, false, false, false, false] rfl rfl (any_of HT_.out (by kernel_rfl)) (fun _ _ _ h => h) (Or.inl ⟨by rfl, ?_⟩) ?_ ?_
   rotate_left
   ·intro w'
    go_simp
    with_reducible rfl
   rotate_left
   ·exact zP i64_w i32_w
   refine pure_ (i := 5) (N := some 13) (v := ?_) (a' := ?_) #[true, false, false, true, false, true, false, false, false, false, false, false, false, false, false, false, false] rfl rfl (any_of HT_.out (by kernel_rfl)) (fun _ _ _ h => h) (Or.inl ⟨by rfl, ?_⟩) ?_ ?_
   rotate_left
   ·intro w'
    go_simp
    with_reducible rfl
   rotate_left
   ·exact zP i64_w i32_w
   refine pure_ (i := 7) (N := some 15) (v := ?_) (a' := ?_) #[true, false, false, true, false, true, false, true, false, false, false, false, false, false, false, false, false] rfl rfl (any_of HT_.out (by kernel_rfl)) (fun _ _ _ h => h) (Or.inl ⟨by rfl, ?_⟩) ?_ ?_
   rotate_left
   ·intro w'
    go_simp
    with_reducible rfl
   rotate_left
   ·exact zP i64_w i32_w
   refine take_ (i := 1) (N := some 9) (v := ?_) (a' := ?_) #[true, true, false, true, false, true, false, true, false, false, false, false, false, false, false, false, false] rfl rfl (take_ofW HT_.out HW_.out (by kernel_rfl)) (fun _ _ _ h => h) (Or.inl ⟨by rfl, ?_⟩) hHeld ?_ ?_
   rotate_left
   ·rintro w' ⟨s0, s1, s2, s3, s4, s5, s6, s7⟩
    go_simp
    with_reducible rfl
   rotate_left
   ·exact zP i64_w i32_w
   refine take_ (i := 4) (N := some 12) (v := ?_) (a' := ?_) #[true, true, false, true, true, true, false, true, false, false, false, false, false, false, false, false, false] rfl rfl (take_ofW HT_.out HW_.out (by kernel_rfl)) (fun _ _ _ h => h) (Or.inl ⟨by rfl, ?_⟩) hHeld ?_ ?_
   rotate_left
   ·rintro w' ⟨s0, s1, s2, s3, s4, s5, s6, s7⟩
    go_simp
    with_reducible rfl
   rotate_left
   ·exact zP i64_w i32_w
   refine take_ (i := 6) (N := some 14) (v := ?_) (a' := ?_) #[true, true, false, true, true, true, true, true, false, false, false, false, false, false, false, false, false] rfl rfl (take_ofW HT_.out HW_.out (by kernel_rfl)) (fun _ _ _ h => h) (Or.inl ⟨by rfl, ?_⟩) hHeld ?_ ?_
   rotate_left
   ·rintro w' ⟨s0, s1, s2, s3, s4, s5, s6, s7⟩
    go_simp
    with_reducible rfl
   rotate_left
   ·exact zP i64_w i32_w
   refine take_ (i := 8) (N := some 16) (v := ?_) (a' := ?_) #[true, true, false, true, true, true, true, true, true, false, false, false, false, false, false, false, false] rfl rfl (take_ofW HT_.out HW_.out (by kernel_rfl)) (fun _ _ _ h => h) (Or.inl ⟨by rfl, ?_⟩) hHeld ?_ ?_
   rotate_left
   ·rintro w' ⟨s0, s1, s2, s3, s4, s5, s6, s7⟩
    go_simp
    with_reducible rfl
   rotate_left
   ·exact zP i64_w i32_w
   refine join_ (σ := Nat × Nat) 2 #[true, true, true, true, true, true, true, true, true, true, true, true, true, true, true, false, false] (fun s_ => [(10, .agg #[.int .i64 t285, .int .i64 t286, .int .i64 t287, .int .i64 t288]), (17, .tuple #[.agg #[.int .i64 t289, .int .i64 t290, .int .i64 t291, .int .i64 t292], .agg #[.int .i64 t293, .int .i64 t294]]), (3, .pointer (some ⟨s_.1, 0, none⟩)), (4, .pointer (some ⟨s_.2, 0, none⟩)), (7, .tuple #[.agg #[.int .i64 t289, .int .i64 t290, .int .i64 t291, .int .i64 t292], .agg #[.int .i64 t293, .int .i64 t294]]), (18, .agg #[.int .i64 t289, .int .i64 t290, .int .i64 t291, .int .i64 t292]), (19, .agg #[.int .i64 t293, .int .i64 t294])]) (fun s_ w' => (w'.cell? ⟨gb284, 0, none⟩ = some (.int .i64 a0_0) ∧ w'.cell? ⟨gb284, 1, none⟩ = some (.int .i64 a0_1) ∧ w'.cell? ⟨gb284, 2, none⟩ = some (.int .i64 a0_2) ∧ w'.cell? ⟨gb284, 3, none⟩ = some (.int .i64 a0_3) ∧ w'.cell? ⟨gb284, 4, none⟩ = some (.int .i64 a0_4) ∧ w'.cell? ⟨gb284, 5, none⟩ = some (.int .i64 a0_5) ∧ w'.cell? ⟨gb284, 6, none⟩ = some (.int .i64 a0_6) ∧ w'.cell? ⟨gb284, 7, none⟩ = some (.int .i64 a0_7)) ∧ (w'.heap[gb284]? = some (.cells #[.int .i64 a0_0, .int .i64 a0_1, .int .i64 a0_2, .int .i64 a0_3, .int .i64 a0_4, .int .i64 a0_5, .int .i64 a0_6, .int .i64 a0_7] 27 (0, 0))) ∧ (w'.heap[s_.1]? = some (.cells #[.int .i64 0, .int .i64 0, .int .i64 0, .int .i64 0] 28 (0, 0))) ∧ (w'.heap[s_.2]? = some (.cells #[.int .i64 0, .int .i64 0] 25 (0, 0))) ∧ (w.heap.size ≤ s_.1) ∧ (w.heap.size ≤ s_.1) ∧ (gb284 ≠ s_.1) ∧ (s_.1 ≠ gb284) ∧ (s_.2 ≠ s_.1) ∧ (s_.1 ≠ s_.2) ∧ (w.heap.size ≤ s_.2) ∧ (w.heap.size ≤ s_.2) ∧ (gb284 ≠ s_.2) ∧ (s_.2 ≠ gb284) ∧ (Below w.heap.size w w')) ?_ ?_
   rotate_left
   ·intro hJ2_9_13_14
    refine join_ (σ := Nat) 3 #[true, true, true, true, true, true, true, true, true, true, true, true, true, true, false, false, false] (fun s_ => [(10, .agg #[.int .i64 t285, .int .i64 t286, .int .i64 t287, .int .i64 t288]), (17, .tuple #[.agg #[.int .i64 t289, .int .i64 t290, .int .i64 t291, .int .i64 t292], .agg #[.int .i64 t293, .int .i64 t294]]), (3, .pointer (some ⟨s_, 0, none⟩)), (7, .tuple #[.agg #[.int .i64 t289, .int .i64 t290, .int .i64 t291, .int .i64 t292], .agg #[.int .i64 t293, .int .i64 t294]]), (18, .agg #[.int .i64 t289, .int .i64 t290, .int .i64 t291, .int .i64 t292]), (19, .agg #[.int .i64 t293, .int .i64 t294])]) (fun s_ w' => (w'.cell? ⟨gb284, 0, none⟩ = some (.int .i64 a0_0) ∧ w'.cell? ⟨gb284, 1, none⟩ = some (.int .i64 a0_1) ∧ w'.cell? ⟨gb284, 2, none⟩ = some (.int .i64 a0_2) ∧ w'.cell? ⟨gb284, 3, none⟩ = some (.int .i64 a0_3) ∧ w'.cell? ⟨gb284, 4, none⟩ = some (.int .i64 a0_4) ∧ w'.cell? ⟨gb284, 5, none⟩ = some (.int .i64 a0_5) ∧ w'.cell? ⟨gb284, 6, none⟩ = some (.int .i64 a0_6) ∧ w'.cell? ⟨gb284, 7, none⟩ = some (.int .i64 a0_7)) ∧ (w'.heap[gb284]? = some (.cells #[.int .i64 a0_0, .int .i64 a0_1, .int .i64 a0_2, .int .i64 a0_3, .int .i64 a0_4, .int .i64 a0_5, .int .i64 a0_6, .int .i64 a0_7] 27 (0, 0))) ∧ (w'.heap[s_]? = some (.cells #[.int .i64 0, .int .i64 0, .int .i64 0, .int .i64 0] 28 (0, 0))) ∧ (w.heap.size ≤ s_) ∧ (w.heap.size ≤ s_) ∧ (gb284 ≠ s_) ∧ (s_ ≠ gb284) ∧ (Below w.heap.size w w')) ?_ ?_
    rotate_left
    ·intro hJ2_9_13
     refine join_ (σ := Nat) 3 #[true, true, true, true, true, true, true, true, true, true, true, true, true, false, true, false, false] (fun s_ => [(10, .agg #[.int .i64 t285, .int .i64 t286, .int .i64 t287, .int .i64 t288]), (17, .tuple #[.agg #[.int .i64 t289, .int .i64 t290, .int .i64 t291, .int .i64 t292], .agg #[.int .i64 t293, .int .i64 t294]]), (4, .pointer (some ⟨s_, 0, none⟩)), (7, .tuple #[.agg #[.int .i64 t289, .int .i64 t290, .int .i64 t291, .int .i64 t292], .agg #[.int .i64 t293, .int .i64 t294]]), (18, .agg #[.int .i64 t289, .int .i64 t290, .int .i64 t291, .int .i64 t292]), (19, .agg #[.int .i64 t293, .int .i64 t294])]) (fun s_ w' => (w'.cell? ⟨gb284, 0, none⟩ = some (.int .i64 a0_0) ∧ w'.cell? ⟨gb284, 1, none⟩ = some (.int .i64 a0_1) ∧ w'.cell? ⟨gb284, 2, none⟩ = some (.int .i64 a0_2) ∧ w'.cell? ⟨gb284, 3, none⟩ = some (.int .i64 a0_3) ∧ w'.cell? ⟨gb284, 4, none⟩ = some (.int .i64 a0_4) ∧ w'.cell? ⟨gb284, 5, none⟩ = some (.int .i64 a0_5) ∧ w'.cell? ⟨gb284, 6, none⟩ = some (.int .i64 a0_6) ∧ w'.cell? ⟨gb284, 7, none⟩ = some (.int .i64 a0_7)) ∧ (w'.heap[gb284]? = some (.cells #[.int .i64 a0_0, .int .i64 a0_1, .int .i64 a0_2, .int .i64 a0_3, .int .i64 a0_4, .int .i64 a0_5, .int .i64 a0_6, .int .i64 a0_7] 27 (0, 0))) ∧ (w'.heap[s_]? = some (.cells #[.int .i64 0, .int .i64 0] 25 (0, 0))) ∧ (w.heap.size ≤ s_) ∧ (w.heap.size ≤ s_) ∧ (gb284 ≠ s_) ∧ (s_ ≠ gb284) ∧ (Below w.heap.size w w')) ?_ ?_
     rotate_left
     ·intro hJ2_9_14
      refine join_ (σ := Nat × Nat) 6 #[true, true, true, true, true, true, true, true, true, false, false, false, false, true, true, false, false] (fun s_ => [(10, .agg #[.int .i64 t285, .int .i64 t286, .int .i64 t287, .int .i64 t288]), (3, .pointer (some ⟨s_.1, 0, none⟩)), (4, .pointer (some ⟨s_.2, 0, none⟩))]) (fun s_ w' => (w'.cell? ⟨gb284, 0, none⟩ = some (.int .i64 a0_0) ∧ w'.cell? ⟨gb284, 1, none⟩ = some (.int .i64 a0_1) ∧ w'.cell? ⟨gb284, 2, none⟩ = some (.int .i64 a0_2) ∧ w'.cell? ⟨gb284, 3, none⟩ = some (.int .i64 a0_3) ∧ w'.cell? ⟨gb284, 4, none⟩ = some (.int .i64 a0_4) ∧ w'.cell? ⟨gb284, 5, none⟩ = some (.int .i64 a0_5) ∧ w'.cell? ⟨gb284, 6, none⟩ = some (.int .i64 a0_6) ∧ w'.cell? ⟨gb284, 7, none⟩ = some (.int .i64 a0_7)) ∧ (w'.heap[gb284]? = some (.cells #[.int .i64 a0_0, .int .i64 a0_1, .int .i64 a0_2, .int .i64 a0_3, .int .i64 a0_4, .int .i64 a0_5, .int .i64 a0_6, .int .i64 a0_7] 27 (0, 0))) ∧ (w'.heap[s_.1]? = some (.cells #[.int .i64 0, .int .i64 0, .int .i64 0, .int .i64 0] 28 (0, 0))) ∧ (w'.heap[s_.2]? = some (.cells #[.int .i64 0, .int .i64 0] 25 (0, 0))) ∧ (w.heap.size ≤ s_.1) ∧ (w.heap.size ≤ s_.1) ∧ (gb284 ≠ s_.1) ∧ (s_.1 ≠ gb284) ∧ (s_.2 ≠ s_.1) ∧ (s_.1 ≠ s_.2) ∧ (w.heap.size ≤ s_.2) ∧ (w.heap.size ≤ s_.2) ∧ (gb284 ≠ s_.2) ∧ (s_.2 ≠ gb284) ∧ (Below w.heap.size w w')) ?_ ?_
      rotate_left
      ·intro hJ2_13_14
       refine join_ (σ := Unit) 4 #[true, true, true, true, true, true, true, true, true, true, true, true, true, false, false, false, false] (fun s_ => [(10, .agg #[.int .i64 t285, .int .i64 t286, .int .i64 t287, .int .i64 t288]), (17, .tuple #[.agg #[.int .i64 t289, .int .i64 t290, .int .i64 t291, .int .i64 t292], .agg #[.int .i64 t293, .int .i64 t294]]), (7, .tuple #[.agg #[.int .i64 t289, .int .i64 t290, .int .i64 t291, .int .i64 t292], .agg #[.int .i64 t293, .int .i64 t294]]), (18, .agg #[.int .i64 t289, .int .i64 t290, .int .i64 t291, .int .i64 t292]), (19, .agg #[.int .i64 t293, .int .i64 t294])]) (fun s_ w' => (w'.cell? ⟨gb284, 0, none⟩ = some (.int .i64 a0_0) ∧ w'.cell? ⟨gb284, 1, none⟩ = some (.int .i64 a0_1) ∧ w'.cell? ⟨gb284, 2, none⟩ = some (.int .i64 a0_2) ∧ w'.cell? ⟨gb284, 3, none⟩ = some (.int .i64 a0_3) ∧ w'.cell? ⟨gb284, 4, none⟩ = some (.int .i64 a0_4) ∧ w'.cell? ⟨gb284, 5, none⟩ = some (.int .i64 a0_5) ∧ w'.cell? ⟨gb284, 6, none⟩ = some (.int .i64 a0_6) ∧ w'.cell? ⟨gb284, 7, none⟩ = some (.int .i64 a0_7)) ∧ (w'.heap[gb284]? = some (.cells #[.int .i64 a0_0, .int .i64 a0_1, .int .i64 a0_2, .int .i64 a0_3, .int .i64 a0_4, .int .i64 a0_5, .int .i64 a0_6, .int .i64 a0_7] 27 (0, 0))) ∧ (Below w.heap.size w w')) ?_ ?_
       rotate_left
       ·intro hJ2_9
        refine join_ (σ := Nat) 7 #[true, true, true, true, true, true, true, true, true, false, false, false, false, true, false, false, false] (fun s_ => [(10, .agg #[.int .i64 t285, .int .i64 t286, .int .i64 t287, .int .i64 t288]), (3, .pointer (some ⟨s_, 0, none⟩))]) (fun s_ w' => (w'.cell? ⟨gb284, 0, none⟩ = some (.int .i64 a0_0) ∧ w'.cell? ⟨gb284, 1, none⟩ = some (.int .i64 a0_1) ∧ w'.cell? ⟨gb284, 2, none⟩ = some (.int .i64 a0_2) ∧ w'.cell? ⟨gb284, 3, none⟩ = some (.int .i64 a0_3) ∧ w'.cell? ⟨gb284, 4, none⟩ = some (.int .i64 a0_4) ∧ w'.cell? ⟨gb284, 5, none⟩ = some (.int .i64 a0_5) ∧ w'.cell? ⟨gb284, 6, none⟩ = some (.int .i64 a0_6) ∧ w'.cell? ⟨gb284, 7, none⟩ = some (.int .i64 a0_7)) ∧ (w'.heap[gb284]? = some (.cells #[.int .i64 a0_0, .int .i64 a0_1, .int .i64 a0_2, .int .i64 a0_3, .int .i64 a0_4, .int .i64 a0_5, .int .i64 a0_6, .int .i64 a0_7] 27 (0, 0))) ∧ (w'.heap[s_]? = some (.cells #[.int .i64 0, .int .i64 0, .int .i64 0, .int .i64 0] 28 (0, 0))) ∧ (w.heap.size ≤ s_) ∧ (w.heap.size ≤ s_) ∧ (gb284 ≠ s_) ∧ (s_ ≠ gb284) ∧ (Below w.heap.size w w')) ?_ ?_
        rotate_left
        ·intro hJ2_13
         refine join_ (σ := Nat) 7 #[true, true, true, true, true, true, true, true, true, false, false, false, false, false, true, false, false] (fun s_ => [(10, .agg #[.int .i64 t285, .int .i64 t286, .int .i64 t287, .int .i64 t288]), (4, .pointer (some ⟨s_, 0, none⟩))]) (fun s_ w' => (w'.cell? ⟨gb284, 0, none⟩ = some (.int .i64 a0_0) ∧ w'.cell? ⟨gb284, 1, none⟩ = some (.int .i64 a0_1) ∧ w'.cell? ⟨gb284, 2, none⟩ = some (.int .i64 a0_2) ∧ w'.cell? ⟨gb284, 3, none⟩ = some (.int .i64 a0_3) ∧ w'.cell? ⟨gb284, 4, none⟩ = some (.int .i64 a0_4) ∧ w'.cell? ⟨gb284, 5, none⟩ = some (.int .i64 a0_5) ∧ w'.cell? ⟨gb284, 6, none⟩ = some (.int .i64 a0_6) ∧ w'.cell? ⟨gb284, 7, none⟩ = some (.int .i64 a0_7)) ∧ (w'.heap[gb284]? = some (.cells #[.int .i64 a0_0, .int .i64 a0_1, .int .i64 a0_2, .int .i64 a0_3, .int .i64 a0_4, .int .i64 a0_5, .int .i64 a0_6, .int .i64 a0_7] 27 (0, 0))) ∧ (w'.heap[s_]? = some (.cells #[.int .i64 0, .int .i64 0] 25 (0, 0))) ∧ (w.heap.size ≤ s_) ∧ (w.heap.size ≤ s_) ∧ (gb284 ≠ s_) ∧ (s_ ≠ gb284) ∧ (Below w.heap.size w w')) ?_ ?_
         rotate_left
         ·intro hJ2_14
          refine join_ (σ := Nat × Nat) 7 #[true, true, false, true, true, true, true, true, true, false, false, false, false, true, true, false, false] (fun s_ => [(3, .pointer (some ⟨s_.1, 0, none⟩)), (4, .pointer (some ⟨s_.2, 0, none⟩))]) (fun s_ w' => (w'.cell? ⟨gb284, 0, none⟩ = some (.int .i64 a0_0) ∧ w'.cell? ⟨gb284, 1, none⟩ = some (.int .i64 a0_1) ∧ w'.cell? ⟨gb284, 2, none⟩ = some (.int .i64 a0_2) ∧ w'.cell? ⟨gb284, 3, none⟩ = some (.int .i64 a0_3) ∧ w'.cell? ⟨gb284, 4, none⟩ = some (.int .i64 a0_4) ∧ w'.cell? ⟨gb284, 5, none⟩ = some (.int .i64 a0_5) ∧ w'.cell? ⟨gb284, 6, none⟩ = some (.int .i64 a0_6) ∧ w'.cell? ⟨gb284, 7, none⟩ = some (.int .i64 a0_7)) ∧ (w'.heap[gb284]? = some (.cells #[.int .i64 a0_0, .int .i64 a0_1, .int .i64 a0_2, .int .i64 a0_3, .int .i64 a0_4, .int .i64 a0_5, .int .i64 a0_6, .int .i64 a0_7] 27 (0, 0))) ∧ (w'.heap[s_.1]? = some (.cells #[.int .i64 0, .int .i64 0, .int .i64 0, .int .i64 0] 28 (0, 0))) ∧ (w'.heap[s_.2]? = some (.cells #[.int .i64 0, .int .i64 0] 25 (0, 0))) ∧ (w.heap.size ≤ s_.1) ∧ (w.heap.size ≤ s_.1) ∧ (gb284 ≠ s_.1) ∧ (s_.1 ≠ gb284) ∧ (s_.2 ≠ s_.1) ∧ (s_.1 ≠ s_.2) ∧ (w.heap.size ≤ s_.2) ∧ (w.heap.size ≤ s_.2) ∧ (gb284 ≠ s_.2) ∧ (s_.2 ≠ gb284) ∧ (Below w.heap.size w w')) ?_ ?_
          rotate_left
          ·intro hJ13_14
           refine join_ (σ := Unit) 8 #[true, true, true, true, true, true, true, true, true, false, false, false, false, false, false, false, false] (fun s_ => [(10, .agg #[.int .i64 t285, .int .i64 t286, .int .i64 t287, .int .i64 t288])]) (fun s_ w' => (w'.cell? ⟨gb284, 0, none⟩ = some (.int .i64 a0_0) ∧ w'.cell? ⟨gb284, 1, none⟩ = some (.int .i64 a0_1) ∧ w'.cell? ⟨gb284, 2, none⟩ = some (.int .i64 a0_2) ∧ w'.cell? ⟨gb284, 3, none⟩ = some (.int .i64 a0_3) ∧ w'.cell? ⟨gb284, 4, none⟩ = some (.int .i64 a0_4) ∧ w'.cell? ⟨gb284, 5, none⟩ = some (.int .i64 a0_5) ∧ w'.cell? ⟨gb284, 6, none⟩ = some (.int .i64 a0_6) ∧ w'.cell? ⟨gb284, 7, none⟩ = some (.int .i64 a0_7)) ∧ (w'.heap[gb284]? = some (.cells #[.int .i64 a0_0, .int .i64 a0_1, .int .i64 a0_2, .int .i64 a0_3, .int .i64 a0_4, .int .i64 a0_5, .int .i64 a0_6, .int .i64 a0_7] 27 (0, 0))) ∧ (Below w.heap.size w w')) ?_ ?_
           rotate_left
           ·intro hJ2
            refine join_ (σ := Nat) 8 #[true, true, false, true, true, true, true, true, true, false, false, false, false, true, false, false, false] (fun s_ => [(3, .pointer (some ⟨s_, 0, none⟩))]) (fun s_ w' => (w'.cell? ⟨gb284, 0, none⟩ = some (.int .i64 a0_0) ∧ w'.cell? ⟨gb284, 1, none⟩ = some (.int .i64 a0_1) ∧ w'.cell? ⟨gb284, 2, none⟩ = some (.int .i64 a0_2) ∧ w'.cell? ⟨gb284, 3, none⟩ = some (.int .i64 a0_3) ∧ w'.cell? ⟨gb284, 4, none⟩ = some (.int .i64 a0_4) ∧ w'.cell? ⟨gb284, 5, none⟩ = some (.int .i64 a0_5) ∧ w'.cell? ⟨gb284, 6, none⟩ = some (.int .i64 a0_6) ∧ w'.cell? ⟨gb284, 7, none⟩ = some (.int .i64 a0_7)) ∧ (w'.heap[gb284]? = some (.cells #[.int .i64 a0_0, .int .i64 a0_1, .int .i64 a0_2, .int .i64 a0_3, .int .i64 a0_4, .int .i64 a0_5, .int .i64 a0_6, .int .i64 a0_7] 27 (0, 0))) ∧ (w'.heap[s_]? = some (.cells #[.int .i64 0, .int .i64 0, .int .i64 0, .int .i64 0] 28 (0, 0))) ∧ (w.heap.size ≤ s_) ∧ (w.heap.size ≤ s_) ∧ (gb284 ≠ s_) ∧ (s_ ≠ gb284) ∧ (Below w.heap.size w w')) ?_ ?_
            rotate_left
            ·intro hJ13
             refine join_ (σ := Nat) 8 #[true, true, false, true, true, true, true, true, true, false, false, false, false, false, true, false, false] (fun s_ => [(4, .pointer (some ⟨s_, 0, none⟩))]) (fun s_ w' => (w'.cell? ⟨gb284, 0, none⟩ = some (.int .i64 a0_0) ∧ w'.cell? ⟨gb284, 1, none⟩ = some (.int .i64 a0_1) ∧ w'.cell? ⟨gb284, 2, none⟩ = some (.int .i64 a0_2) ∧ w'.cell? ⟨gb284, 3, none⟩ = some (.int .i64 a0_3) ∧ w'.cell? ⟨gb284, 4, none⟩ = some (.int .i64 a0_4) ∧ w'.cell? ⟨gb284, 5, none⟩ = some (.int .i64 a0_5) ∧ w'.cell? ⟨gb284, 6, none⟩ = some (.int .i64 a0_6) ∧ w'.cell? ⟨gb284, 7, none⟩ = some (.int .i64 a0_7)) ∧ (w'.heap[gb284]? = some (.cells #[.int .i64 a0_0, .int .i64 a0_1, .int .i64 a0_2, .int .i64 a0_3, .int .i64 a0_4, .int .i64 a0_5, .int .i64 a0_6, .int .i64 a0_7] 27 (0, 0))) ∧ (w'.heap[s_]? = some (.cells #[.int .i64 0, .int .i64 0] 25 (0, 0))) ∧ (w.heap.size ≤ s_) ∧ (w.heap.size ≤ s_) ∧ (gb284 ≠ s_) ∧ (s_ ≠ gb284) ∧ (Below w.heap.size w w')) ?_ ?_
             rotate_left
             ·intro hJ14
              refine three_ (i := 2) (j := 13) (k := 14) (Ni := some 10) (Nj := some 3) (Nk := some 4) #[true, true, true, true, true, true, true, true, true, false, false, false, false, false, false, false, false] #[true, true, false, true, true, true, true, true, true, false, false, false, false, true, false, false, false] #[true, true, false, true, true, true, true, true, true, false, false, false, false, false, true, false, false] rfl rfl rfl rfl rfl rfl (three_of HT_.out (by kernel_rfl)) (by decide) (by decide) (by decide) (fun K hK => ?_) (fun K hK => ?_) (fun K hK => ?_)
              ·skip
               refine goes_ Try.func10 (by kernel_rfl) rfl #[.agg #[.int .i64 a0_0, .int .i64 a0_1, .int .i64 a0_2, .int .i64 a0_3]] (by rfl) rfl rfl zM ?_
               with_reducible refine (tapearchivelaw36_stream.calls a0_0 a0_1 a0_2 a0_3 t285 t286 t287 t288 _ A2.out).mono ?_
               rintro e w11 ⟨rfl, hb⟩
               refine ⟨_, rfl, ?_⟩
               have n0_ := Aside0.mk (blk_below (g := gb284) (o := .cells #[.int .i64 a0_0, .int .i64 a0_1, .int .i64 a0_2, .int .i64 a0_3, .int .i64 a0_4, .int .i64 a0_5, .int .i64 a0_6, .int .i64 a0_7] 27 (0, 0)) (zL BK284.out) hb)
               have n1_ := Aside0.mk (below_step (zG HB GE284) hb)
               clear BK284
               clear HB
               have BK284 := n0_
               have HB := n1_
               clear n0_ n1_
               (try clear hb)
               (try clear hb2)
               (try clear hk)
               (try clear hi)
               refine hK.out _ _ ⟨(blk_cell BK284.out 0).trans rfl, (blk_cell BK284.out 1).trans rfl, (blk_cell BK284.out 2).trans rfl, (blk_cell BK284.out 3).trans rfl, (blk_cell BK284.out 4).trans rfl, (blk_cell BK284.out 5).trans rfl, (blk_cell BK284.out 6).trans rfl, (blk_cell BK284.out 7).trans rfl⟩ (fun hHeld => ?_)
               clear hK K
               refine norm_ (a' := ?_) ?_ ?_
               rotate_left
               ·show Act.put _ (some 10) _ = _
                simp only [Act.put, List.setIfInBounds_toArray, List.set_cons_zero, List.set_cons_succ, i64_w, i32_w]
                rfl
               exact norm_ (by first | (simp only [putAll, Act.put, List.setIfInBounds_toArray, List.set_cons_zero, List.set_cons_succ]; done) | (simp only [putAll, Act.put, List.setIfInBounds_toArray, List.set_cons_zero, List.set_cons_succ]; rfl)) (hJ2 () _ ⟨hHeld, (zL BK284.out), (zG HB GE284)⟩)
              ·skip
               refine box_step ?hg (N := 3) ?hd (cs := #[.int .i64 0, .int .i64 0, .int .i64 0, .int .i64 0]) (t := 28) ?hr ?_; (case hd => rfl); (case hg => rfl); (case hr => first | (go_simp; done) | (go_simp; rfl))
               intro gb295 hg w11 hbox hb
               have n0_ := Aside0.mk (blk_below (g := gb284) (o := .cells #[.int .i64 a0_0, .int .i64 a0_1, .int .i64 a0_2, .int .i64 a0_3, .int .i64 a0_4, .int .i64 a0_5, .int .i64 a0_6, .int .i64 a0_7] 27 (0, 0)) (zL BK284.out) hb)
               have n1_ := Aside0.mk (below_step (zG HB GE284) hb)
               have n2_ := Aside0.mk (hbox)
               have n3_ := Aside0.mk ((by rw [hg]; exact (below_size (zG HB GE284)) : w.heap.size ≤ gb295))
               have n4_ := Aside0.mk ((by rw [hg]; exact (below_size (zG HB GE284)) : w.heap.size ≤ gb295))
               have n5_ := Aside0.mk ((by rw [hg]; exact Nat.ne_of_lt (blk_lt (g := gb284) (o := .cells #[.int .i64 a0_0, .int .i64 a0_1, .int .i64 a0_2, .int .i64 a0_3, .int .i64 a0_4, .int .i64 a0_5, .int .i64 a0_6, .int .i64 a0_7] 27 (0, 0)) (zL BK284.out)) : gb284 ≠ gb295))
               have n6_ := Aside0.mk ((by rw [hg]; exact Nat.ne_of_gt (blk_lt (g := gb284) (o := .cells #[.int .i64 a0_0, .int .i64 a0_1, .int .i64 a0_2, .int .i64 a0_3, .int .i64 a0_4, .int .i64 a0_5, .int .i64 a0_6, .int .i64 a0_7] 27 (0, 0)) (zL BK284.out)) : gb295 ≠ gb284))
               clear BK284
               clear HB
               have BK284 := n0_
               have HB := n1_
               have BK295 := n2_
               have GW295 := n3_
               have GE295 := n4_
               have NB284_295 := n5_
               have NB295_284 := n6_
               clear n0_ n1_ n2_ n3_ n4_ n5_ n6_
               clear hb hbox hg
               refine hK.out _ _ ⟨(blk_cell BK284.out 0).trans rfl, (blk_cell BK284.out 1).trans rfl, (blk_cell BK284.out 2).trans rfl, (blk_cell BK284.out 3).trans rfl, (blk_cell BK284.out 4).trans rfl, (blk_cell BK284.out 5).trans rfl, (blk_cell BK284.out 6).trans rfl, (blk_cell BK284.out 7).trans rfl⟩ (fun hHeld => ?_)
               clear hK K
               refine norm_ (a' := ?_) ?_ ?_
               rotate_left
               ·show Act.put _ (some 3) _ = _
                simp only [Act.put, List.setIfInBounds_toArray, List.set_cons_zero, List.set_cons_succ, i64_w, i32_w]
                rfl
               exact norm_ (by first | (simp only [putAll, Act.put, List.setIfInBounds_toArray, List.set_cons_zero, List.set_cons_succ]; done) | (simp only [putAll, Act.put, List.setIfInBounds_toArray, List.set_cons_zero, List.set_cons_succ]; rfl)) (hJ13 (gb295) _ ⟨hHeld, (zL BK284.out), (zL BK295.out), GW295.out, GE295.out, NB284_295.out, NB295_284.out, (by repeat (first | (with_reducible first | exact HB.out | apply below_alloc | apply pw_below_drewN | apply below_drew1 | refine below_set ?_ GE284.out | refine below_set ?_ GE295.out) | exact HB.out))⟩)
              ·skip
               refine box_step ?hg (N := 4) ?hd (cs := #[.int .i64 0, .int .i64 0]) (t := 25) ?hr ?_; (case hd => rfl); (case hg => rfl); (case hr => first | (go_simp; done) | (go_simp; rfl))
               intro gb296 hg w11 hbox hb
               have n0_ := Aside0.mk (blk_below (g := gb284) (o := .cells #[.int .i64 a0_0, .int .i64 a0_1, .int .i64 a0_2, .int .i64 a0_3, .int .i64 a0_4, .int .i64 a0_5, .int .i64 a0_6, .int .i64 a0_7] 27 (0, 0)) (zL BK284.out) hb)
               have n1_ := Aside0.mk (below_step (zG HB GE284) hb)
               have n2_ := Aside0.mk (hbox)
               have n3_ := Aside0.mk ((by rw [hg]; exact (below_size (zG HB GE284)) : w.heap.size ≤ gb296))
               have n4_ := Aside0.mk ((by rw [hg]; exact (below_size (zG HB GE284)) : w.heap.size ≤ gb296))
               have n5_ := Aside0.mk ((by rw [hg]; exact Nat.ne_of_lt (blk_lt (g := gb284) (o := .cells #[.int .i64 a0_0, .int .i64 a0_1, .int .i64 a0_2, .int .i64 a0_3, .int .i64 a0_4, .int .i64 a0_5, .int .i64 a0_6, .int .i64 a0_7] 27 (0, 0)) (zL BK284.out)) : gb284 ≠ gb296))
               have n6_ := Aside0.mk ((by rw [hg]; exact Nat.ne_of_gt (blk_lt (g := gb284) (o := .cells #[.int .i64 a0_0, .int .i64 a0_1, .int .i64 a0_2, .int .i64 a0_3, .int .i64 a0_4, .int .i64 a0_5, .int .i64 a0_6, .int .i64 a0_7] 27 (0, 0)) (zL BK284.out)) : gb296 ≠ gb284))
               clear BK284
               clear HB
               have BK284 := n0_
               have HB := n1_
               have BK296 := n2_
               have GW296 := n3_
               have GE296 := n4_
               have NB284_296 := n5_
               have NB296_284 := n6_
               clear n0_ n1_ n2_ n3_ n4_ n5_ n6_
               clear hb hbox hg
               refine hK.out _ _ ⟨(blk_cell BK284.out 0).trans rfl, (blk_cell BK284.out 1).trans rfl, (blk_cell BK284.out 2).trans rfl, (blk_cell BK284.out 3).trans rfl, (blk_cell BK284.out 4).trans rfl, (blk_cell BK284.out 5).trans rfl, (blk_cell BK284.out 6).trans rfl, (blk_cell BK284.out 7).trans rfl⟩ (fun hHeld => ?_)
               clear hK K
               refine norm_ (a' := ?_) ?_ ?_
               rotate_left
               ·show Act.put _ (some 4) _ = _
                simp only [Act.put, List.setIfInBounds_toArray, List.set_cons_zero, List.set_cons_succ, i64_w, i32_w]
                rfl
               exact norm_ (by first | (simp only [putAll, Act.put, List.setIfInBounds_toArray, List.set_cons_zero, List.set_cons_succ]; done) | (simp only [putAll, Act.put, List.setIfInBounds_toArray, List.set_cons_zero, List.set_cons_succ]; rfl)) (hJ14 (gb296) _ ⟨hHeld, (zL BK284.out), (zL BK296.out), GW296.out, GE296.out, NB284_296.out, NB296_284.out, (by repeat (first | (with_reducible first | exact HB.out | apply below_alloc | apply pw_below_drewN | apply below_drew1 | refine below_set ?_ GE284.out | refine below_set ?_ GE296.out) | exact HB.out))⟩)
             ·skip
              rintro gb296 w12 ⟨hS_, h0_, h1_, h2_, h3_, h4_, h5_, h6_⟩
              have n0_ : Aside0 (w12.heap[gb284]? = some (.cells #[.int .i64 a0_0, .int .i64 a0_1, .int .i64 a0_2, .int .i64 a0_3, .int .i64 a0_4, .int .i64 a0_5, .int .i64 a0_6, .int .i64 a0_7] 27 (0, 0))) := ⟨h0_⟩
              have n1_ : Aside0 (w12.heap[gb296]? = some (.cells #[.int .i64 0, .int .i64 0] 25 (0, 0))) := ⟨h1_⟩
              have n2_ : Aside0 (w.heap.size ≤ gb296) := ⟨h2_⟩
              have n3_ : Aside0 (w.heap.size ≤ gb296) := ⟨h3_⟩
              have n4_ : Aside0 (gb284 ≠ gb296) := ⟨h4_⟩
              have n5_ : Aside0 (gb296 ≠ gb284) := ⟨h5_⟩
              have n6_ : Aside0 (Below w.heap.size w w12) := ⟨h6_⟩
              clear BK284
              clear HB
              clear h0_ h1_ h2_ h3_ h4_ h5_ h6_
              have BK284 := n0_
              have BK296 := n1_
              have GW296 := n2_
              have GE296 := n3_
              have NB284_296 := n4_
              have NB296_284 := n5_
              have HB := n6_
              clear n0_ n1_ n2_ n3_ n4_ n5_ n6_
              have hHeld : w12.cell? ⟨gb284, 0, none⟩ = some (.int .i64 a0_0) ∧ w12.cell? ⟨gb284, 1, none⟩ = some (.int .i64 a0_1) ∧ w12.cell? ⟨gb284, 2, none⟩ = some (.int .i64 a0_2) ∧ w12.cell? ⟨gb284, 3, none⟩ = some (.int .i64 a0_3) ∧ w12.cell? ⟨gb284, 4, none⟩ = some (.int .i64 a0_4) ∧ w12.cell? ⟨gb284, 5, none⟩ = some (.int .i64 a0_5) ∧ w12.cell? ⟨gb284, 6, none⟩ = some (.int .i64 a0_6) ∧ w12.cell? ⟨gb284, 7, none⟩ = some (.int .i64 a0_7) := hS_
              refine norm_ (a' := ?_) ?_ ?_
              rotate_left
              ·simp only [putAll, Act.put, List.setIfInBounds_toArray, List.set_cons_zero, List.set_cons_succ]
               rfl
              refine two_ (i := 2) (j := 13) (Ni := some 10) (Nj := some 3) #[true, true, true, true, true, true, true, true, true, false, false, false, false, false, true, false, false] #[true, true, false, true, true, true, true, true, true, false, false, false, false, true, true, false, false] rfl rfl rfl rfl (two_of HT_.out (by kernel_rfl)) (by decide) (by decide) (fun K hK => ?_) (fun K hK => ?_)
              ·skip
               refine goes_ Try.func10 (by kernel_rfl) rfl #[.agg #[.int .i64 a0_0, .int .i64 a0_1, .int .i64 a0_2, .int .i64 a0_3]] (by rfl) rfl rfl zM ?_
               with_reducible refine (tapearchivelaw36_stream.calls a0_0 a0_1 a0_2 a0_3 t285 t286 t287 t288 _ A2.out).mono ?_
               rintro e w13 ⟨rfl, hb⟩
               refine ⟨_, rfl, ?_⟩
               have n0_ := Aside0.mk (blk_below (g := gb284) (o := .cells #[.int .i64 a0_0, .int .i64 a0_1, .int .i64 a0_2, .int .i64 a0_3, .int .i64 a0_4, .int .i64 a0_5, .int .i64 a0_6, .int .i64 a0_7] 27 (0, 0)) (zL BK284.out) hb)
               have n1_ := Aside0.mk (blk_below (g := gb296) (o := .cells #[.int .i64 0, .int .i64 0] 25 (0, 0)) (zL BK296.out) hb)
               have n2_ := Aside0.mk (below_step (by repeat (first | (with_reducible first | exact HB.out | apply below_alloc | apply pw_below_drewN | apply below_drew1 | refine below_set ?_ GE284.out | refine below_set ?_ GE296.out) | exact HB.out)) hb)
               clear BK284
               clear BK296
               clear HB
               have BK284 := n0_
               have BK296 := n1_
               have HB := n2_
               clear n0_ n1_ n2_
               (try clear hb)
               (try clear hb2)
               (try clear hk)
               (try clear hi)
               refine hK.out _ _ ⟨(blk_cell BK284.out 0).trans rfl, (blk_cell BK284.out 1).trans rfl, (blk_cell BK284.out 2).trans rfl, (blk_cell BK284.out 3).trans rfl, (blk_cell BK284.out 4).trans rfl, (blk_cell BK284.out 5).trans rfl, (blk_cell BK284.out 6).trans rfl, (blk_cell BK284.out 7).trans rfl⟩ (fun hHeld => ?_)
               clear hK K
               refine norm_ (a' := ?_) ?_ ?_
               rotate_left
               ·show Act.put _ (some 10) _ = _
                simp only [Act.put, List.setIfInBounds_toArray, List.set_cons_zero, List.set_cons_succ, i64_w, i32_w]
                rfl
               exact norm_ (by first | (simp only [putAll, Act.put, List.setIfInBounds_toArray, List.set_cons_zero, List.set_cons_succ]; done) | (simp only [putAll, Act.put, List.setIfInBounds_toArray, List.set_cons_zero, List.set_cons_succ]; rfl)) (hJ2_14 (gb296) _ ⟨hHeld, (zL BK284.out), (zL BK296.out), GW296.out, GE296.out, NB284_296.out, NB296_284.out, (by repeat (first | (with_reducible first | exact HB.out | apply below_alloc | apply pw_below_drewN | apply below_drew1 | refine below_set ?_ GE284.out | refine below_set ?_ GE296.out) | exact HB.out))⟩)
              ·skip
               refine box_step ?hg (N := 3) ?hd (cs := #[.int .i64 0, .int .i64 0, .int .i64 0, .int .i64 0]) (t := 28) ?hr ?_; (case hd => rfl); (case hg => rfl); (case hr => first | (go_simp; done) | (go_simp; rfl))
               intro gb295 hg w13 hbox hb
               have n0_ := Aside0.mk (blk_below (g := gb284) (o := .cells #[.int .i64 a0_0, .int .i64 a0_1, .int .i64 a0_2, .int .i64 a0_3, .int .i64 a0_4, .int .i64 a0_5, .int .i64 a0_6, .int .i64 a0_7] 27 (0, 0)) (zL BK284.out) hb)
               have n1_ := Aside0.mk (blk_below (g := gb296) (o := .cells #[.int .i64 0, .int .i64 0] 25 (0, 0)) (zL BK296.out) hb)
               have n2_ := Aside0.mk (below_step (by repeat (first | (with_reducible first | exact HB.out | apply below_alloc | apply pw_below_drewN | apply below_drew1 | refine below_set ?_ GE284.out | refine below_set ?_ GE296.out) | exact HB.out)) hb)
               have n3_ := Aside0.mk (hbox)
               have n4_ := Aside0.mk ((by rw [hg]; exact (below_size (by repeat (first | (with_reducible first | exact HB.out | apply below_alloc | apply pw_below_drewN | apply below_drew1 | refine below_set ?_ GE284.out | refine below_set ?_ GE296.out) | exact HB.out))) : w.heap.size ≤ gb295))
               have n5_ := Aside0.mk ((by rw [hg]; exact (below_size (by repeat (first | (with_reducible first | exact HB.out | apply below_alloc | apply pw_below_drewN | apply below_drew1 | refine below_set ?_ GE284.out | refine below_set ?_ GE296.out) | exact HB.out))) : w.heap.size ≤ gb295))
               have n6_ := Aside0.mk ((by rw [hg]; exact Nat.ne_of_lt (blk_lt (g := gb284) (o := .cells #[.int .i64 a0_0, .int .i64 a0_1, .int .i64 a0_2, .int .i64 a0_3, .int .i64 a0_4, .int .i64 a0_5, .int .i64 a0_6, .int .i64 a0_7] 27 (0, 0)) (zL BK284.out)) : gb284 ≠ gb295))
               have n7_ := Aside0.mk ((by rw [hg]; exact Nat.ne_of_gt (blk_lt (g := gb284) (o := .cells #[.int .i64 a0_0, .int .i64 a0_1, .int .i64 a0_2, .int .i64 a0_3, .int .i64 a0_4, .int .i64 a0_5, .int .i64 a0_6, .int .i64 a0_7] 27 (0, 0)) (zL BK284.out)) : gb295 ≠ gb284))
               have n8_ := Aside0.mk ((by rw [hg]; exact Nat.ne_of_lt (blk_lt (g := gb296) (o := .cells #[.int .i64 0, .int .i64 0] 25 (0, 0)) (zL BK296.out)) : gb296 ≠ gb295))
               have n9_ := Aside0.mk ((by rw [hg]; exact Nat.ne_of_gt (blk_lt (g := gb296) (o := .cells #[.int .i64 0, .int .i64 0] 25 (0, 0)) (zL BK296.out)) : gb295 ≠ gb296))
               clear BK284
               clear BK296
               clear HB
               have BK284 := n0_
               have BK296 := n1_
               have HB := n2_
               have BK295 := n3_
               have GW295 := n4_
               have GE295 := n5_
               have NB284_295 := n6_
               have NB295_284 := n7_
               have NB296_295 := n8_
               have NB295_296 := n9_
               clear n0_ n1_ n2_ n3_ n4_ n5_ n6_ n7_ n8_ n9_
               clear hb hbox hg
               refine hK.out _ _ ⟨(blk_cell BK284.out 0).trans rfl, (blk_cell BK284.out 1).trans rfl, (blk_cell BK284.out 2).trans rfl, (blk_cell BK284.out 3).trans rfl, (blk_cell BK284.out 4).trans rfl, (blk_cell BK284.out 5).trans rfl, (blk_cell BK284.out 6).trans rfl, (blk_cell BK284.out 7).trans rfl⟩ (fun hHeld => ?_)
               clear hK K
               refine norm_ (a' := ?_) ?_ ?_
               rotate_left
               ·show Act.put _ (some 3) _ = _
                simp only [Act.put, List.setIfInBounds_toArray, List.set_cons_zero, List.set_cons_succ, i64_w, i32_w]
                rfl
               exact norm_ (by first | (simp only [putAll, Act.put, List.setIfInBounds_toArray, List.set_cons_zero, List.set_cons_succ]; done) | (simp only [putAll, Act.put, List.setIfInBounds_toArray, List.set_cons_zero, List.set_cons_succ]; rfl)) (hJ13_14 (gb295, gb296) _ ⟨hHeld, (zL BK284.out), (zL BK295.out), (zL BK296.out), GW295.out, GE295.out, NB284_295.out, NB295_284.out, NB296_295.out, NB295_296.out, GW296.out, GE296.out, NB284_296.out, NB296_284.out, (by repeat (first | (with_reducible first | exact HB.out | apply below_alloc | apply pw_below_drewN | apply below_drew1 | refine below_set ?_ GE284.out | refine below_set ?_ GE296.out | refine below_set ?_ GE295.out) | exact HB.out))⟩)
            ·skip
             rintro gb295 w12 ⟨hS_, h0_, h1_, h2_, h3_, h4_, h5_, h6_⟩
             have n0_ : Aside0 (w12.heap[gb284]? = some (.cells #[.int .i64 a0_0, .int .i64 a0_1, .int .i64 a0_2, .int .i64 a0_3, .int .i64 a0_4, .int .i64 a0_5, .int .i64 a0_6, .int .i64 a0_7] 27 (0, 0))) := ⟨h0_⟩
             have n1_ : Aside0 (w12.heap[gb295]? = some (.cells #[.int .i64 0, .int .i64 0, .int .i64 0, .int .i64 0] 28 (0, 0))) := ⟨h1_⟩
             have n2_ : Aside0 (w.heap.size ≤ gb295) := ⟨h2_⟩
             have n3_ : Aside0 (w.heap.size ≤ gb295) := ⟨h3_⟩
             have n4_ : Aside0 (gb284 ≠ gb295) := ⟨h4_⟩
             have n5_ : Aside0 (gb295 ≠ gb284) := ⟨h5_⟩
             have n6_ : Aside0 (Below w.heap.size w w12) := ⟨h6_⟩
             clear BK284
             clear HB
             clear h0_ h1_ h2_ h3_ h4_ h5_ h6_
             have BK284 := n0_
             have BK295 := n1_
             have GW295 := n2_
             have GE295 := n3_
             have NB284_295 := n4_
             have NB295_284 := n5_
             have HB := n6_
             clear n0_ n1_ n2_ n3_ n4_ n5_ n6_
             have hHeld : w12.cell? ⟨gb284, 0, none⟩ = some (.int .i64 a0_0) ∧ w12.cell? ⟨gb284, 1, none⟩ = some (.int .i64 a0_1) ∧ w12.cell? ⟨gb284, 2, none⟩ = some (.int .i64 a0_2) ∧ w12.cell? ⟨gb284, 3, none⟩ = some (.int .i64 a0_3) ∧ w12.cell? ⟨gb284, 4, none⟩ = some (.int .i64 a0_4) ∧ w12.cell? ⟨gb284, 5, none⟩ = some (.int .i64 a0_5) ∧ w12.cell? ⟨gb284, 6, none⟩ = some (.int .i64 a0_6) ∧ w12.cell? ⟨gb284, 7, none⟩ = some (.int .i64 a0_7) := hS_
             refine norm_ (a' := ?_) ?_ ?_
             rotate_left
             ·simp only [putAll, Act.put, List.setIfInBounds_toArray, List.set_cons_zero, List.set_cons_succ]
              rfl
             refine two_ (i := 2) (j := 14) (Ni := some 10) (Nj := some 4) #[true, true, true, true, true, true, true, true, true, false, false, false, false, true, false, false, false] #[true, true, false, true, true, true, true, true, true, false, false, false, false, true, true, false, false] rfl rfl rfl rfl (two_of HT_.out (by kernel_rfl)) (by decide) (by decide) (fun K hK => ?_) (fun K hK => ?_)
             ·skip
              refine goes_ Try.func10 (by kernel_rfl) rfl #[.agg #[.int .i64 a0_0, .int .i64 a0_1, .int .i64 a0_2, .int .i64 a0_3]] (by rfl) rfl rfl zM ?_
              with_reducible refine (tapearchivelaw36_stream.calls a0_0 a0_1 a0_2 a0_3 t285 t286 t287 t288 _ A2.out).mono ?_
              rintro e w13 ⟨rfl, hb⟩
              refine ⟨_, rfl, ?_⟩
              have n0_ := Aside0.mk (blk_below (g := gb284) (o := .cells #[.int .i64 a0_0, .int .i64 a0_1, .int .i64 a0_2, .int .i64 a0_3, .int .i64 a0_4, .int .i64 a0_5, .int .i64 a0_6, .int .i64 a0_7] 27 (0, 0)) (zL BK284.out) hb)
              have n1_ := Aside0.mk (blk_below (g := gb295) (o := .cells #[.int .i64 0, .int .i64 0, .int .i64 0, .int .i64 0] 28 (0, 0)) (zL BK295.out) hb)
              have n2_ := Aside0.mk (below_step (by repeat (first | (with_reducible first | exact HB.out | apply below_alloc | apply pw_below_drewN | apply below_drew1 | refine below_set ?_ GE284.out | refine below_set ?_ GE295.out) | exact HB.out)) hb)
              clear BK284
              clear BK295
              clear HB
              have BK284 := n0_
              have BK295 := n1_
              have HB := n2_
              clear n0_ n1_ n2_
              (try clear hb)
              (try clear hb2)
              (try clear hk)
              (try clear hi)
              refine hK.out _ _ ⟨(blk_cell BK284.out 0).trans rfl, (blk_cell BK284.out 1).trans rfl, (blk_cell BK284.out 2).trans rfl, (blk_cell BK284.out 3).trans rfl, (blk_cell BK284.out 4).trans rfl, (blk_cell BK284.out 5).trans rfl, (blk_cell BK284.out 6).trans rfl, (blk_cell BK284.out 7).trans rfl⟩ (fun hHeld => ?_)
              clear hK K
              refine norm_ (a' := ?_) ?_ ?_
              rotate_left
              ·show Act.put _ (some 10) _ = _
               simp only [Act.put, List.setIfInBounds_toArray, List.set_cons_zero, List.set_cons_succ, i64_w, i32_w]
               rfl
              exact norm_ (by first | (simp only [putAll, Act.put, List.setIfInBounds_toArray, List.set_cons_zero, List.set_cons_succ]; done) | (simp only [putAll, Act.put, List.setIfInBounds_toArray, List.set_cons_zero, List.set_cons_succ]; rfl)) (hJ2_13 (gb295) _ ⟨hHeld, (zL BK284.out), (zL BK295.out), GW295.out, GE295.out, NB284_295.out, NB295_284.out, (by repeat (first | (with_reducible first | exact HB.out | apply below_alloc | apply pw_below_drewN | apply below_drew1 | refine below_set ?_ GE284.out | refine below_set ?_ GE295.out) | exact HB.out))⟩)
             ·skip
              refine box_step ?hg (N := 4) ?hd (cs := #[.int .i64 0, .int .i64 0]) (t := 25) ?hr ?_; (case hd => rfl); (case hg => rfl); (case hr => first | (go_simp; done) | (go_simp; rfl))
              intro gb296 hg w13 hbox hb
              have n0_ := Aside0.mk (blk_below (g := gb284) (o := .cells #[.int .i64 a0_0, .int .i64 a0_1, .int .i64 a0_2, .int .i64 a0_3, .int .i64 a0_4, .int .i64 a0_5, .int .i64 a0_6, .int .i64 a0_7] 27 (0, 0)) (zL BK284.out) hb)
              have n1_ := Aside0.mk (blk_below (g := gb295) (o := .cells #[.int .i64 0, .int .i64 0, .int .i64 0, .int .i64 0] 28 (0, 0)) (zL BK295.out) hb)
              have n2_ := Aside0.mk (below_step (by repeat (first | (with_reducible first | exact HB.out | apply below_alloc | apply pw_below_drewN | apply below_drew1 | refine below_set ?_ GE284.out | refine below_set ?_ GE295.out) | exact HB.out)) hb)
              have n3_ := Aside0.mk (hbox)
              have n4_ := Aside0.mk ((by rw [hg]; exact (below_size (by repeat (first | (with_reducible first | exact HB.out | apply below_alloc | apply pw_below_drewN | apply below_drew1 | refine below_set ?_ GE284.out | refine below_set ?_ GE295.out) | exact HB.out))) : w.heap.size ≤ gb296))
              have n5_ := Aside0.mk ((by rw [hg]; exact (below_size (by repeat (first | (with_reducible first | exact HB.out | apply below_alloc | apply pw_below_drewN | apply below_drew1 | refine below_set ?_ GE284.out | refine below_set ?_ GE295.out) | exact HB.out))) : w.heap.size ≤ gb296))
              have n6_ := Aside0.mk ((by rw [hg]; exact Nat.ne_of_lt (blk_lt (g := gb284) (o := .cells #[.int .i64 a0_0, .int .i64 a0_1, .int .i64 a0_2, .int .i64 a0_3, .int .i64 a0_4, .int .i64 a0_5, .int .i64 a0_6, .int .i64 a0_7] 27 (0, 0)) (zL BK284.out)) : gb284 ≠ gb296))
              have n7_ := Aside0.mk ((by rw [hg]; exact Nat.ne_of_gt (blk_lt (g := gb284) (o := .cells #[.int .i64 a0_0, .int .i64 a0_1, .int .i64 a0_2, .int .i64 a0_3, .int .i64 a0_4, .int .i64 a0_5, .int .i64 a0_6, .int .i64 a0_7] 27 (0, 0)) (zL BK284.out)) : gb296 ≠ gb284))
              have n8_ := Aside0.mk ((by rw [hg]; exact Nat.ne_of_lt (blk_lt (g := gb295) (o := .cells #[.int .i64 0, .int .i64 0, .int .i64 0, .int .i64 0] 28 (0, 0)) (zL BK295.out)) : gb295 ≠ gb296))
              have n9_ := Aside0.mk ((by rw [hg]; exact Nat.ne_of_gt (blk_lt (g := gb295) (o := .cells #[.int .i64 0, .int .i64 0, .int .i64 0, .int .i64 0] 28 (0, 0)) (zL BK295.out)) : gb296 ≠ gb295))
              clear BK284
              clear BK295
              clear HB
              have BK284 := n0_
              have BK295 := n1_
              have HB := n2_
              have BK296 := n3_
              have GW296 := n4_
              have GE296 := n5_
              have NB284_296 := n6_
              have NB296_284 := n7_
              have NB295_296 := n8_
              have NB296_295 := n9_
              clear n0_ n1_ n2_ n3_ n4_ n5_ n6_ n7_ n8_ n9_
              clear hb hbox hg
              refine hK.out _ _ ⟨(blk_cell BK284.out 0).trans rfl, (blk_cell BK284.out 1).trans rfl, (blk_cell BK284.out 2).trans rfl, (blk_cell BK284.out 3).trans rfl, (blk_cell BK284.out 4).trans rfl, (blk_cell BK284.out 5).trans rfl, (blk_cell BK284.out 6).trans rfl, (blk_cell BK284.out 7).trans rfl⟩ (fun hHeld => ?_)
              clear hK K
              refine norm_ (a' := ?_) ?_ ?_
              rotate_left
              ·show Act.put _ (some 4) _ = _
               simp only [Act.put, List.setIfInBounds_toArray, List.set_cons_zero, List.set_cons_succ, i64_w, i32_w]
               rfl
              exact norm_ (by first | (simp only [putAll, Act.put, List.setIfInBounds_toArray, List.set_cons_zero, List.set_cons_succ]; done) | (simp only [putAll, Act.put, List.setIfInBounds_toArray, List.set_cons_zero, List.set_cons_succ]; rfl)) (hJ13_14 (gb295, gb296) _ ⟨hHeld, (zL BK284.out), (zL BK295.out), (zL BK296.out), GW295.out, GE295.out, NB284_295.out, NB295_284.out, NB296_295.out, NB295_296.out, GW296.out, GE296.out, NB284_296.out, NB296_284.out, (by repeat (first | (with_reducible first | exact HB.out | apply below_alloc | apply pw_below_drewN | apply below_drew1 | refine below_set ?_ GE284.out | refine below_set ?_ GE295.out | refine below_set ?_ GE296.out) | exact HB.out))⟩)
           ·skip
            rintro _ w12 ⟨hS_, h0_, h1_⟩
            have n0_ : Aside0 (w12.heap[gb284]? = some (.cells #[.int .i64 a0_0, .int .i64 a0_1, .int .i64 a0_2, .int .i64 a0_3, .int .i64 a0_4, .int .i64 a0_5, .int .i64 a0_6, .int .i64 a0_7] 27 (0, 0))) := ⟨h0_⟩
            have n1_ : Aside0 (Below w.heap.size w w12) := ⟨h1_⟩
            clear BK284
            clear HB
            clear h0_ h1_
            have BK284 := n0_
            have HB := n1_
            clear n0_ n1_
            have hHeld : w12.cell? ⟨gb284, 0, none⟩ = some (.int .i64 a0_0) ∧ w12.cell? ⟨gb284, 1, none⟩ = some (.int .i64 a0_1) ∧ w12.cell? ⟨gb284, 2, none⟩ = some (.int .i64 a0_2) ∧ w12.cell? ⟨gb284, 3, none⟩ = some (.int .i64 a0_3) ∧ w12.cell? ⟨gb284, 4, none⟩ = some (.int .i64 a0_4) ∧ w12.cell? ⟨gb284, 5, none⟩ = some (.int .i64 a0_5) ∧ w12.cell? ⟨gb284, 6, none⟩ = some (.int .i64 a0_6) ∧ w12.cell? ⟨gb284, 7, none⟩ = some (.int .i64 a0_7) := hS_
            refine norm_ (a' := ?_) ?_ ?_
            rotate_left
            ·simp only [putAll, Act.put, List.setIfInBounds_toArray, List.set_cons_zero, List.set_cons_succ]
             rfl
            refine three_ (i := 9) (j := 13) (k := 14) (Ni := some 17) (Nj := some 3) (Nk := some 4) #[true, true, true, true, true, true, true, true, true, true, false, false, false, false, false, false, false] #[true, true, true, true, true, true, true, true, true, false, false, false, false, true, false, false, false] #[true, true, true, true, true, true, true, true, true, false, false, false, false, false, true, false, false] rfl rfl rfl rfl rfl rfl (three_of HT_.out (by kernel_rfl)) (by decide) (by decide) (by decide) (fun K hK => ?_) (fun K hK => ?_) (fun K hK => ?_)
            ·skip
             refine goes_ Try.func9 (by kernel_rfl) rfl #[.agg #[.int .i64 t285, .int .i64 t286, .int .i64 t287, .int .i64 t288], .agg #[.int .i64 a0_4, .int .i64 a0_5], .int .i64 a0_6, .int .i64 a0_7] (by rfl) rfl rfl zM ?_
             with_reducible refine (prefetch_Read.calls k t285 t286 t287 t288 a0_4 a0_5 a0_6 a0_7 t289 t290 t291 t292 t293 t294 _ A3.out).mono ?_
             rintro e w13 ⟨rfl, hb⟩
             refine ⟨_, rfl, ?_⟩
             have n0_ := Aside0.mk (blk_below (g := gb284) (o := .cells #[.int .i64 a0_0, .int .i64 a0_1, .int .i64 a0_2, .int .i64 a0_3, .int .i64 a0_4, .int .i64 a0_5, .int .i64 a0_6, .int .i64 a0_7] 27 (0, 0)) (zL BK284.out) hb)
             have n1_ := Aside0.mk (below_step (zG HB GE284) hb)
             clear BK284
             clear HB
             have BK284 := n0_
             have HB := n1_
             clear n0_ n1_
             (try clear hb)
             (try clear hb2)
             (try clear hk)
             (try clear hi)
             refine hK.out _ _ ⟨(blk_cell BK284.out 0).trans rfl, (blk_cell BK284.out 1).trans rfl, (blk_cell BK284.out 2).trans rfl, (blk_cell BK284.out 3).trans rfl, (blk_cell BK284.out 4).trans rfl, (blk_cell BK284.out 5).trans rfl, (blk_cell BK284.out 6).trans rfl, (blk_cell BK284.out 7).trans rfl⟩ (fun hHeld => ?_)
             clear hK K
             refine norm_ (a' := ?_) ?_ ?_
             rotate_left
             ·show Act.put _ (some 17) _ = _
              simp only [Act.put, List.setIfInBounds_toArray, List.set_cons_zero, List.set_cons_succ, i64_w, i32_w]
              rfl
             refine pure_ (i := 10) (N := some 7) (v := ?_) (a' := ?_) #[true, true, true, true, true, true, true, true, true, true, true, false, false, false, false, false, false] rfl rfl (any_of HT_.out (by kernel_rfl)) (fun _ _ _ h => h) (Or.inl ⟨by rfl, ?_⟩) ?_ ?_
             rotate_left
             ·intro w'
              go_simp
              with_reducible rfl
             rotate_left
             ·exact zP i64_w i32_w
             refine pure_ (i := 11) (N := some 18) (v := ?_) (a' := ?_) #[true, true, true, true, true, true, true, true, true, true, true, true, false, false, false, false, false] rfl rfl (any_of HT_.out (by kernel_rfl)) (fun _ _ _ h => h) (Or.inl ⟨by rfl, ?_⟩) ?_ ?_
             rotate_left
             ·intro w'
              go_simp
              with_reducible rfl
             rotate_left
             ·exact zP i64_w i32_w
             refine pure_ (i := 12) (N := some 19) (v := ?_) (a' := ?_) #[true, true, true, true, true, true, true, true, true, true, true, true, true, false, false, false, false] rfl rfl (any_of HT_.out (by kernel_rfl)) (fun _ _ _ h => h) (Or.inl ⟨by rfl, ?_⟩) ?_ ?_
             rotate_left
             ·intro w'
              go_simp
              with_reducible rfl
             rotate_left
             ·exact zP i64_w i32_w
             exact norm_ (by first | (simp only [putAll, Act.put, List.setIfInBounds_toArray, List.set_cons_zero, List.set_cons_succ]; done) | (simp only [putAll, Act.put, List.setIfInBounds_toArray, List.set_cons_zero, List.set_cons_succ]; rfl)) (hJ2_9 () _ ⟨hHeld, (zL BK284.out), (zG HB GE284)⟩)
            ·skip
             refine box_step ?hg (N := 3) ?hd (cs := #[.int .i64 0, .int .i64 0, .int .i64 0, .int .i64 0]) (t := 28) ?hr ?_; (case hd => rfl); (case hg => rfl); (case hr => first | (go_simp; done) | (go_simp; rfl))
             intro gb295 hg w13 hbox hb
             have n0_ := Aside0.mk (blk_below (g := gb284) (o := .cells #[.int .i64 a0_0, .int .i64 a0_1, .int .i64 a0_2, .int .i64 a0_3, .int .i64 a0_4, .int .i64 a0_5, .int .i64 a0_6, .int .i64 a0_7] 27 (0, 0)) (zL BK284.out) hb)
             have n1_ := Aside0.mk (below_step (zG HB GE284) hb)
             have n2_ := Aside0.mk (hbox)
             have n3_ := Aside0.mk ((by rw [hg]; exact (below_size (zG HB GE284)) : w.heap.size ≤ gb295))
             have n4_ := Aside0.mk ((by rw [hg]; exact (below_size (zG HB GE284)) : w.heap.size ≤ gb295))
             have n5_ := Aside0.mk ((by rw [hg]; exact Nat.ne_of_lt (blk_lt (g := gb284) (o := .cells #[.int .i64 a0_0, .int .i64 a0_1, .int .i64 a0_2, .int .i64 a0_3, .int .i64 a0_4, .int .i64 a0_5, .int .i64 a0_6, .int .i64 a0_7] 27 (0, 0)) (zL BK284.out)) : gb284 ≠ gb295))
             have n6_ := Aside0.mk ((by rw [hg]; exact Nat.ne_of_gt (blk_lt (g := gb284) (o := .cells #[.int .i64 a0_0, .int .i64 a0_1, .int .i64 a0_2, .int .i64 a0_3, .int .i64 a0_4, .int .i64 a0_5, .int .i64 a0_6, .int .i64 a0_7] 27 (0, 0)) (zL BK284.out)) : gb295 ≠ gb284))
             clear BK284
             clear HB
             have BK284 := n0_
             have HB := n1_
             have BK295 := n2_
             have GW295 := n3_
             have GE295 := n4_
             have NB284_295 := n5_
             have NB295_284 := n6_
             clear n0_ n1_ n2_ n3_ n4_ n5_ n6_
             clear hb hbox hg
             refine hK.out _ _ ⟨(blk_cell BK284.out 0).trans rfl, (blk_cell BK284.out 1).trans rfl, (blk_cell BK284.out 2).trans rfl, (blk_cell BK284.out 3).trans rfl, (blk_cell BK284.out 4).trans rfl, (blk_cell BK284.out 5).trans rfl, (blk_cell BK284.out 6).trans rfl, (blk_cell BK284.out 7).trans rfl⟩ (fun hHeld => ?_)
             clear hK K
             refine norm_ (a' := ?_) ?_ ?_
             rotate_left
             ·show Act.put _ (some 3) _ = _
              simp only [Act.put, List.setIfInBounds_toArray, List.set_cons_zero, List.set_cons_succ, i64_w, i32_w]
              rfl
             exact norm_ (by first | (simp only [putAll, Act.put, List.setIfInBounds_toArray, List.set_cons_zero, List.set_cons_succ]; done) | (simp only [putAll, Act.put, List.setIfInBounds_toArray, List.set_cons_zero, List.set_cons_succ]; rfl)) (hJ2_13 (gb295) _ ⟨hHeld, (zL BK284.out), (zL BK295.out), GW295.out, GE295.out, NB284_295.out, NB295_284.out, (by repeat (first | (with_reducible first | exact HB.out | apply below_alloc | apply pw_below_drewN | apply below_drew1 | refine below_set ?_ GE284.out | refine below_set ?_ GE295.out) | exact HB.out))⟩)
            ·skip
             refine box_step ?hg (N := 4) ?hd (cs := #[.int .i64 0, .int .i64 0]) (t := 25) ?hr ?_; (case hd => rfl); (case hg => rfl); (case hr => first | (go_simp; done) | (go_simp; rfl))
             intro gb296 hg w13 hbox hb
             have n0_ := Aside0.mk (blk_below (g := gb284) (o := .cells #[.int .i64 a0_0, .int .i64 a0_1, .int .i64 a0_2, .int .i64 a0_3, .int .i64 a0_4, .int .i64 a0_5, .int .i64 a0_6, .int .i64 a0_7] 27 (0, 0)) (zL BK284.out) hb)
             have n1_ := Aside0.mk (below_step (zG HB GE284) hb)
             have n2_ := Aside0.mk (hbox)
             have n3_ := Aside0.mk ((by rw [hg]; exact (below_size (zG HB GE284)) : w.heap.size ≤ gb296))
             have n4_ := Aside0.mk ((by rw [hg]; exact (below_size (zG HB GE284)) : w.heap.size ≤ gb296))
             have n5_ := Aside0.mk ((by rw [hg]; exact Nat.ne_of_lt (blk_lt (g := gb284) (o := .cells #[.int .i64 a0_0, .int .i64 a0_1, .int .i64 a0_2, .int .i64 a0_3, .int .i64 a0_4, .int .i64 a0_5, .int .i64 a0_6, .int .i64 a0_7] 27 (0, 0)) (zL BK284.out)) : gb284 ≠ gb296))
             have n6_ := Aside0.mk ((by rw [hg]; exact Nat.ne_of_gt (blk_lt (g := gb284) (o := .cells #[.int .i64 a0_0, .int .i64 a0_1, .int .i64 a0_2, .int .i64 a0_3, .int .i64 a0_4, .int .i64 a0_5, .int .i64 a0_6, .int .i64 a0_7] 27 (0, 0)) (zL BK284.out)) : gb296 ≠ gb284))
             clear BK284
             clear HB
             have BK284 := n0_
             have HB := n1_
             have BK296 := n2_
             have GW296 := n3_
             have GE296 := n4_
             have NB284_296 := n5_
             have NB296_284 := n6_
             clear n0_ n1_ n2_ n3_ n4_ n5_ n6_
             clear hb hbox hg
             refine hK.out _ _ ⟨(blk_cell BK284.out 0).trans rfl, (blk_cell BK284.out 1).trans rfl, (blk_cell BK284.out 2).trans rfl, (blk_cell BK284.out 3).trans rfl, (blk_cell BK284.out 4).trans rfl, (blk_cell BK284.out 5).trans rfl, (blk_cell BK284.out 6).trans rfl, (blk_cell BK284.out 7).trans rfl⟩ (fun hHeld => ?_)
             clear hK K
             refine norm_ (a' := ?_) ?_ ?_
             rotate_left
             ·show Act.put _ (some 4) _ = _
              simp only [Act.put, List.setIfInBounds_toArray, List.set_cons_zero, List.set_cons_succ, i64_w, i32_w]
              rfl
             exact norm_ (by first | (simp only [putAll, Act.put, List.setIfInBounds_toArray, List.set_cons_zero, List.set_cons_succ]; done) | (simp only [putAll, Act.put, List.setIfInBounds_toArray, List.set_cons_zero, List.set_cons_succ]; rfl)) (hJ2_14 (gb296) _ ⟨hHeld, (zL BK284.out), (zL BK296.out), GW296.out, GE296.out, NB284_296.out, NB296_284.out, (by repeat (first | (with_reducible first | exact HB.out | apply below_alloc | apply pw_below_drewN | apply below_drew1 | refine below_set ?_ GE284.out | refine below_set ?_ GE296.out) | exact HB.out))⟩)
          ·skip
           rintro ⟨gb295, gb296⟩ w13 ⟨hS_, h0_, h1_, h2_, h3_, h4_, h5_, h6_, h7_, h8_, h9_, h10_, h11_, h12_, h13_⟩
           have n0_ : Aside0 (w13.heap[gb284]? = some (.cells #[.int .i64 a0_0, .int .i64 a0_1, .int .i64 a0_2, .int .i64 a0_3, .int .i64 a0_4, .int .i64 a0_5, .int .i64 a0_6, .int .i64 a0_7] 27 (0, 0))) := ⟨h0_⟩
           have n1_ : Aside0 (w13.heap[gb295]? = some (.cells #[.int .i64 0, .int .i64 0, .int .i64 0, .int .i64 0] 28 (0, 0))) := ⟨h1_⟩
           have n2_ : Aside0 (w13.heap[gb296]? = some (.cells #[.int .i64 0, .int .i64 0] 25 (0, 0))) := ⟨h2_⟩
           have n3_ : Aside0 (w.heap.size ≤ gb295) := ⟨h3_⟩
           have n4_ : Aside0 (w.heap.size ≤ gb295) := ⟨h4_⟩
           have n5_ : Aside0 (gb284 ≠ gb295) := ⟨h5_⟩
           have n6_ : Aside0 (gb295 ≠ gb284) := ⟨h6_⟩
           have n7_ : Aside0 (gb296 ≠ gb295) := ⟨h7_⟩
           have n8_ : Aside0 (gb295 ≠ gb296) := ⟨h8_⟩
           have n9_ : Aside0 (w.heap.size ≤ gb296) := ⟨h9_⟩
           have n10_ : Aside0 (w.heap.size ≤ gb296) := ⟨h10_⟩
           have n11_ : Aside0 (gb284 ≠ gb296) := ⟨h11_⟩
           have n12_ : Aside0 (gb296 ≠ gb284) := ⟨h12_⟩
           have n13_ : Aside0 (Below w.heap.size w w13) := ⟨h13_⟩
           clear BK284
           clear HB
           clear h0_ h1_ h2_ h3_ h4_ h5_ h6_ h7_ h8_ h9_ h10_ h11_ h12_ h13_
           have BK284 := n0_
           have BK295 := n1_
           have BK296 := n2_
           have GW295 := n3_
           have GE295 := n4_
           have NB284_295 := n5_
           have NB295_284 := n6_
           have NB296_295 := n7_
           have NB295_296 := n8_
           have GW296 := n9_
           have GE296 := n10_
           have NB284_296 := n11_
           have NB296_284 := n12_
           have HB := n13_
           clear n0_ n1_ n2_ n3_ n4_ n5_ n6_ n7_ n8_ n9_ n10_ n11_ n12_ n13_
           have hHeld : w13.cell? ⟨gb284, 0, none⟩ = some (.int .i64 a0_0) ∧ w13.cell? ⟨gb284, 1, none⟩ = some (.int .i64 a0_1) ∧ w13.cell? ⟨gb284, 2, none⟩ = some (.int .i64 a0_2) ∧ w13.cell? ⟨gb284, 3, none⟩ = some (.int .i64 a0_3) ∧ w13.cell? ⟨gb284, 4, none⟩ = some (.int .i64 a0_4) ∧ w13.cell? ⟨gb284, 5, none⟩ = some (.int .i64 a0_5) ∧ w13.cell? ⟨gb284, 6, none⟩ = some (.int .i64 a0_6) ∧ w13.cell? ⟨gb284, 7, none⟩ = some (.int .i64 a0_7) := hS_
           refine norm_ (a' := ?_) ?_ ?_
           rotate_left
           ·simp only [putAll, Act.put, List.setIfInBounds_toArray, List.set_cons_zero, List.set_cons_succ]
            rfl
           refine one_ (i := 2) (N := some 10) #[true, true, true, true, true, true, true, true, true, false, false, false, false, true, true, false, false] rfl rfl (one_of HT_.out (by kernel_rfl)) (by decide) (fun K hK => ?_)
           refine goes_ Try.func10 (by kernel_rfl) rfl #[.agg #[.int .i64 a0_0, .int .i64 a0_1, .int .i64 a0_2, .int .i64 a0_3]] (by rfl) rfl rfl zM ?_
           with_reducible refine (tapearchivelaw36_stream.calls a0_0 a0_1 a0_2 a0_3 t285 t286 t287 t288 _ A2.out).mono ?_
           rintro e w14 ⟨rfl, hb⟩
           refine ⟨_, rfl, ?_⟩
           have n0_ := Aside0.mk (blk_below (g := gb284) (o := .cells #[.int .i64 a0_0, .int .i64 a0_1, .int .i64 a0_2, .int .i64 a0_3, .int .i64 a0_4, .int .i64 a0_5, .int .i64 a0_6, .int .i64 a0_7] 27 (0, 0)) (zL BK284.out) hb)
           have n1_ := Aside0.mk (blk_below (g := gb295) (o := .cells #[.int .i64 0, .int .i64 0, .int .i64 0, .int .i64 0] 28 (0, 0)) (zL BK295.out) hb)
           have n2_ := Aside0.mk (blk_below (g := gb296) (o := .cells #[.int .i64 0, .int .i64 0] 25 (0, 0)) (zL BK296.out) hb)
           have n3_ := Aside0.mk (below_step (by repeat (first | (with_reducible first | exact HB.out | apply below_alloc | apply pw_below_drewN | apply below_drew1 | refine below_set ?_ GE284.out | refine below_set ?_ GE295.out | refine below_set ?_ GE296.out) | exact HB.out)) hb)
           clear BK284
           clear BK295
           clear BK296
           clear HB
           have BK284 := n0_
           have BK295 := n1_
           have BK296 := n2_
           have HB := n3_
           clear n0_ n1_ n2_ n3_
           (try clear hb)
           (try clear hb2)
           (try clear hk)
           (try clear hi)
           refine hK.out _ _ ⟨(blk_cell BK284.out 0).trans rfl, (blk_cell BK284.out 1).trans rfl, (blk_cell BK284.out 2).trans rfl, (blk_cell BK284.out 3).trans rfl, (blk_cell BK284.out 4).trans rfl, (blk_cell BK284.out 5).trans rfl, (blk_cell BK284.out 6).trans rfl, (blk_cell BK284.out 7).trans rfl⟩ (fun hHeld => ?_)
           clear hK K
           refine norm_ (a' := ?_) ?_ ?_
           rotate_left
           ·show Act.put _ (some 10) _ = _
            simp only [Act.put, List.setIfInBounds_toArray, List.set_cons_zero, List.set_cons_succ, i64_w, i32_w]
            rfl
           exact norm_ (by first | (simp only [putAll, Act.put, List.setIfInBounds_toArray, List.set_cons_zero, List.set_cons_succ]; done) | (simp only [putAll, Act.put, List.setIfInBounds_toArray, List.set_cons_zero, List.set_cons_succ]; rfl)) (hJ2_13_14 (gb295, gb296) _ ⟨hHeld, (zL BK284.out), (zL BK295.out), (zL BK296.out), GW295.out, GE295.out, NB284_295.out, NB295_284.out, NB296_295.out, NB295_296.out, GW296.out, GE296.out, NB284_296.out, NB296_284.out, (by repeat (first | (with_reducible first | exact HB.out | apply below_alloc | apply pw_below_drewN | apply below_drew1 | refine below_set ?_ GE284.out | refine below_set ?_ GE295.out | refine below_set ?_ GE296.out) | exact HB.out))⟩)
         ·skip
          rintro gb296 w13 ⟨hS_, h0_, h1_, h2_, h3_, h4_, h5_, h6_⟩
          have n0_ : Aside0 (w13.heap[gb284]? = some (.cells #[.int .i64 a0_0, .int .i64 a0_1, .int .i64 a0_2, .int .i64 a0_3, .int .i64 a0_4, .int .i64 a0_5, .int .i64 a0_6, .int .i64 a0_7] 27 (0, 0))) := ⟨h0_⟩
          have n1_ : Aside0 (w13.heap[gb296]? = some (.cells #[.int .i64 0, .int .i64 0] 25 (0, 0))) := ⟨h1_⟩
          have n2_ : Aside0 (w.heap.size ≤ gb296) := ⟨h2_⟩
          have n3_ : Aside0 (w.heap.size ≤ gb296) := ⟨h3_⟩
          have n4_ : Aside0 (gb284 ≠ gb296) := ⟨h4_⟩
          have n5_ : Aside0 (gb296 ≠ gb284) := ⟨h5_⟩
          have n6_ : Aside0 (Below w.heap.size w w13) := ⟨h6_⟩
          clear BK284
          clear HB
          clear h0_ h1_ h2_ h3_ h4_ h5_ h6_
          have BK284 := n0_
          have BK296 := n1_
          have GW296 := n2_
          have GE296 := n3_
          have NB284_296 := n4_
          have NB296_284 := n5_
          have HB := n6_
          clear n0_ n1_ n2_ n3_ n4_ n5_ n6_
          have hHeld : w13.cell? ⟨gb284, 0, none⟩ = some (.int .i64 a0_0) ∧ w13.cell? ⟨gb284, 1, none⟩ = some (.int .i64 a0_1) ∧ w13.cell? ⟨gb284, 2, none⟩ = some (.int .i64 a0_2) ∧ w13.cell? ⟨gb284, 3, none⟩ = some (.int .i64 a0_3) ∧ w13.cell? ⟨gb284, 4, none⟩ = some (.int .i64 a0_4) ∧ w13.cell? ⟨gb284, 5, none⟩ = some (.int .i64 a0_5) ∧ w13.cell? ⟨gb284, 6, none⟩ = some (.int .i64 a0_6) ∧ w13.cell? ⟨gb284, 7, none⟩ = some (.int .i64 a0_7) := hS_
          refine norm_ (a' := ?_) ?_ ?_
          rotate_left
          ·simp only [putAll, Act.put, List.setIfInBounds_toArray, List.set_cons_zero, List.set_cons_succ]
           rfl
          refine two_ (i := 9) (j := 13) (Ni := some 17) (Nj := some 3) #[true, true, true, true, true, true, true, true, true, true, false, false, false, false, true, false, false] #[true, true, true, true, true, true, true, true, true, false, false, false, false, true, true, false, false] rfl rfl rfl rfl (two_of HT_.out (by kernel_rfl)) (by decide) (by decide) (fun K hK => ?_) (fun K hK => ?_)
          ·skip
           refine goes_ Try.func9 (by kernel_rfl) rfl #[.agg #[.int .i64 t285, .int .i64 t286, .int .i64 t287, .int .i64 t288], .agg #[.int .i64 a0_4, .int .i64 a0_5], .int .i64 a0_6, .int .i64 a0_7] (by rfl) rfl rfl zM ?_
           with_reducible refine (prefetch_Read.calls k t285 t286 t287 t288 a0_4 a0_5 a0_6 a0_7 t289 t290 t291 t292 t293 t294 _ A3.out).mono ?_
           rintro e w14 ⟨rfl, hb⟩
           refine ⟨_, rfl, ?_⟩
           have n0_ := Aside0.mk (blk_below (g := gb284) (o := .cells #[.int .i64 a0_0, .int .i64 a0_1, .int .i64 a0_2, .int .i64 a0_3, .int .i64 a0_4, .int .i64 a0_5, .int .i64 a0_6, .int .i64 a0_7] 27 (0, 0)) (zL BK284.out) hb)
           have n1_ := Aside0.mk (blk_below (g := gb296) (o := .cells #[.int .i64 0, .int .i64 0] 25 (0, 0)) (zL BK296.out) hb)
           have n2_ := Aside0.mk (below_step (by repeat (first | (with_reducible first | exact HB.out | apply below_alloc | apply pw_below_drewN | apply below_drew1 | refine below_set ?_ GE284.out | refine below_set ?_ GE296.out) | exact HB.out)) hb)
           clear BK284
           clear BK296
           clear HB
           have BK284 := n0_
           have BK296 := n1_
           have HB := n2_
           clear n0_ n1_ n2_
           (try clear hb)
           (try clear hb2)
           (try clear hk)
           (try clear hi)
           refine hK.out _ _ ⟨(blk_cell BK284.out 0).trans rfl, (blk_cell BK284.out 1).trans rfl, (blk_cell BK284.out 2).trans rfl, (blk_cell BK284.out 3).trans rfl, (blk_cell BK284.out 4).trans rfl, (blk_cell BK284.out 5).trans rfl, (blk_cell BK284.out 6).trans rfl, (blk_cell BK284.out 7).trans rfl⟩ (fun hHeld => ?_)
           clear hK K
           refine norm_ (a' := ?_) ?_ ?_
           rotate_left
           ·show Act.put _ (some 17) _ = _
            simp only [Act.put, List.setIfInBounds_toArray, List.set_cons_zero, List.set_cons_succ, i64_w, i32_w]
            rfl
           refine pure_ (i := 10) (N := some 7) (v := ?_) (a' := ?_) #[true, true, true, true, true, true, true, true, true, true, true, false, false, false, true, false, false] rfl rfl (any_of HT_.out (by kernel_rfl)) (fun _ _ _ h => h) (Or.inl ⟨by rfl, ?_⟩) ?_ ?_
           rotate_left
           ·intro w'
            go_simp
            with_reducible rfl
           rotate_left
           ·exact zP i64_w i32_w
           refine pure_ (i := 11) (N := some 18) (v := ?_) (a' := ?_) #[true, true, true, true, true, true, true, true, true, true, true, true, false, false, true, false, false] rfl rfl (any_of HT_.out (by kernel_rfl)) (fun _ _ _ h => h) (Or.inl ⟨by rfl, ?_⟩) ?_ ?_
           rotate_left
           ·intro w'
            go_simp
            with_reducible rfl
           rotate_left
           ·exact zP i64_w i32_w
           refine pure_ (i := 12) (N := some 19) (v := ?_) (a' := ?_) #[true, true, true, true, true, true, true, true, true, true, true, true, true, false, true, false, false] rfl rfl (any_of HT_.out (by kernel_rfl)) (fun _ _ _ h => h) (Or.inl ⟨by rfl, ?_⟩) ?_ ?_
           rotate_left
           ·intro w'
            go_simp
            with_reducible rfl
           rotate_left
           ·exact zP i64_w i32_w
           exact norm_ (by first | (simp only [putAll, Act.put, List.setIfInBounds_toArray, List.set_cons_zero, List.set_cons_succ]; done) | (simp only [putAll, Act.put, List.setIfInBounds_toArray, List.set_cons_zero, List.set_cons_succ]; rfl)) (hJ2_9_14 (gb296) _ ⟨hHeld, (zL BK284.out), (zL BK296.out), GW296.out, GE296.out, NB284_296.out, NB296_284.out, (by repeat (first | (with_reducible first | exact HB.out | apply below_alloc | apply pw_below_drewN | apply below_drew1 | refine below_set ?_ GE284.out | refine below_set ?_ GE296.out) | exact HB.out))⟩)
          ·skip
           refine box_step ?hg (N := 3) ?hd (cs := #[.int .i64 0, .int .i64 0, .int .i64 0, .int .i64 0]) (t := 28) ?hr ?_; (case hd => rfl); (case hg => rfl); (case hr => first | (go_simp; done) | (go_simp; rfl))
           intro gb295 hg w14 hbox hb
           have n0_ := Aside0.mk (blk_below (g := gb284) (o := .cells #[.int .i64 a0_0, .int .i64 a0_1, .int .i64 a0_2, .int .i64 a0_3, .int .i64 a0_4, .int .i64 a0_5, .int .i64 a0_6, .int .i64 a0_7] 27 (0, 0)) (zL BK284.out) hb)
           have n1_ := Aside0.mk (blk_below (g := gb296) (o := .cells #[.int .i64 0, .int .i64 0] 25 (0, 0)) (zL BK296.out) hb)
           have n2_ := Aside0.mk (below_step (by repeat (first | (with_reducible first | exact HB.out | apply below_alloc | apply pw_below_drewN | apply below_drew1 | refine below_set ?_ GE284.out | refine below_set ?_ GE296.out) | exact HB.out)) hb)
           have n3_ := Aside0.mk (hbox)
           have n4_ := Aside0.mk ((by rw [hg]; exact (below_size (by repeat (first | (with_reducible first | exact HB.out | apply below_alloc | apply pw_below_drewN | apply below_drew1 | refine below_set ?_ GE284.out | refine below_set ?_ GE296.out) | exact HB.out))) : w.heap.size ≤ gb295))
           have n5_ := Aside0.mk ((by rw [hg]; exact (below_size (by repeat (first | (with_reducible first | exact HB.out | apply below_alloc | apply pw_below_drewN | apply below_drew1 | refine below_set ?_ GE284.out | refine below_set ?_ GE296.out) | exact HB.out))) : w.heap.size ≤ gb295))
           have n6_ := Aside0.mk ((by rw [hg]; exact Nat.ne_of_lt (blk_lt (g := gb284) (o := .cells #[.int .i64 a0_0, .int .i64 a0_1, .int .i64 a0_2, .int .i64 a0_3, .int .i64 a0_4, .int .i64 a0_5, .int .i64 a0_6, .int .i64 a0_7] 27 (0, 0)) (zL BK284.out)) : gb284 ≠ gb295))
           have n7_ := Aside0.mk ((by rw [hg]; exact Nat.ne_of_gt (blk_lt (g := gb284) (o := .cells #[.int .i64 a0_0, .int .i64 a0_1, .int .i64 a0_2, .int .i64 a0_3, .int .i64 a0_4, .int .i64 a0_5, .int .i64 a0_6, .int .i64 a0_7] 27 (0, 0)) (zL BK284.out)) : gb295 ≠ gb284))
           have n8_ := Aside0.mk ((by rw [hg]; exact Nat.ne_of_lt (blk_lt (g := gb296) (o := .cells #[.int .i64 0, .int .i64 0] 25 (0, 0)) (zL BK296.out)) : gb296 ≠ gb295))
           have n9_ := Aside0.mk ((by rw [hg]; exact Nat.ne_of_gt (blk_lt (g := gb296) (o := .cells #[.int .i64 0, .int .i64 0] 25 (0, 0)) (zL BK296.out)) : gb295 ≠ gb296))
           clear BK284
           clear BK296
           clear HB
           have BK284 := n0_
           have BK296 := n1_
           have HB := n2_
           have BK295 := n3_
           have GW295 := n4_
           have GE295 := n5_
           have NB284_295 := n6_
           have NB295_284 := n7_
           have NB296_295 := n8_
           have NB295_296 := n9_
           clear n0_ n1_ n2_ n3_ n4_ n5_ n6_ n7_ n8_ n9_
           clear hb hbox hg
           refine hK.out _ _ ⟨(blk_cell BK284.out 0).trans rfl, (blk_cell BK284.out 1).trans rfl, (blk_cell BK284.out 2).trans rfl, (blk_cell BK284.out 3).trans rfl, (blk_cell BK284.out 4).trans rfl, (blk_cell BK284.out 5).trans rfl, (blk_cell BK284.out 6).trans rfl, (blk_cell BK284.out 7).trans rfl⟩ (fun hHeld => ?_)
           clear hK K
           refine norm_ (a' := ?_) ?_ ?_
           rotate_left
           ·show Act.put _ (some 3) _ = _
            simp only [Act.put, List.setIfInBounds_toArray, List.set_cons_zero, List.set_cons_succ, i64_w, i32_w]
            rfl
           exact norm_ (by first | (simp only [putAll, Act.put, List.setIfInBounds_toArray, List.set_cons_zero, List.set_cons_succ]; done) | (simp only [putAll, Act.put, List.setIfInBounds_toArray, List.set_cons_zero, List.set_cons_succ]; rfl)) (hJ2_13_14 (gb295, gb296) _ ⟨hHeld, (zL BK284.out), (zL BK295.out), (zL BK296.out), GW295.out, GE295.out, NB284_295.out, NB295_284.out, NB296_295.out, NB295_296.out, GW296.out, GE296.out, NB284_296.out, NB296_284.out, (by repeat (first | (with_reducible first | exact HB.out | apply below_alloc | apply pw_below_drewN | apply below_drew1 | refine below_set ?_ GE284.out | refine below_set ?_ GE296.out | refine below_set ?_ GE295.out) | exact HB.out))⟩)
        ·skip
         rintro gb295 w13 ⟨hS_, h0_, h1_, h2_, h3_, h4_, h5_, h6_⟩
         have n0_ : Aside0 (w13.heap[gb284]? = some (.cells #[.int .i64 a0_0, .int .i64 a0_1, .int .i64 a0_2, .int .i64 a0_3, .int .i64 a0_4, .int .i64 a0_5, .int .i64 a0_6, .int .i64 a0_7] 27 (0, 0))) := ⟨h0_⟩
         have n1_ : Aside0 (w13.heap[gb295]? = some (.cells #[.int .i64 0, .int .i64 0, .int .i64 0, .int .i64 0] 28 (0, 0))) := ⟨h1_⟩
         have n2_ : Aside0 (w.heap.size ≤ gb295) := ⟨h2_⟩
         have n3_ : Aside0 (w.heap.size ≤ gb295) := ⟨h3_⟩
         have n4_ : Aside0 (gb284 ≠ gb295) := ⟨h4_⟩
         have n5_ : Aside0 (gb295 ≠ gb284) := ⟨h5_⟩
         have n6_ : Aside0 (Below w.heap.size w w13) := ⟨h6_⟩
         clear BK284
         clear HB
         clear h0_ h1_ h2_ h3_ h4_ h5_ h6_
         have BK284 := n0_
         have BK295 := n1_
         have GW295 := n2_
         have GE295 := n3_
         have NB284_295 := n4_
         have NB295_284 := n5_
         have HB := n6_
         clear n0_ n1_ n2_ n3_ n4_ n5_ n6_
         have hHeld : w13.cell? ⟨gb284, 0, none⟩ = some (.int .i64 a0_0) ∧ w13.cell? ⟨gb284, 1, none⟩ = some (.int .i64 a0_1) ∧ w13.cell? ⟨gb284, 2, none⟩ = some (.int .i64 a0_2) ∧ w13.cell? ⟨gb284, 3, none⟩ = some (.int .i64 a0_3) ∧ w13.cell? ⟨gb284, 4, none⟩ = some (.int .i64 a0_4) ∧ w13.cell? ⟨gb284, 5, none⟩ = some (.int .i64 a0_5) ∧ w13.cell? ⟨gb284, 6, none⟩ = some (.int .i64 a0_6) ∧ w13.cell? ⟨gb284, 7, none⟩ = some (.int .i64 a0_7) := hS_
         refine norm_ (a' := ?_) ?_ ?_
         rotate_left
         ·simp only [putAll, Act.put, List.setIfInBounds_toArray, List.set_cons_zero, List.set_cons_succ]
          rfl
         refine two_ (i := 9) (j := 14) (Ni := some 17) (Nj := some 4) #[true, true, true, true, true, true, true, true, true, true, false, false, false, true, false, false, false] #[true, true, true, true, true, true, true, true, true, false, false, false, false, true, true, false, false] rfl rfl rfl rfl (two_of HT_.out (by kernel_rfl)) (by decide) (by decide) (fun K hK => ?_) (fun K hK => ?_)
         ·skip
          refine goes_ Try.func9 (by kernel_rfl) rfl #[.agg #[.int .i64 t285, .int .i64 t286, .int .i64 t287, .int .i64 t288], .agg #[.int .i64 a0_4, .int .i64 a0_5], .int .i64 a0_6, .int .i64 a0_7] (by rfl) rfl rfl zM ?_
          with_reducible refine (prefetch_Read.calls k t285 t286 t287 t288 a0_4 a0_5 a0_6 a0_7 t289 t290 t291 t292 t293 t294 _ A3.out).mono ?_
          rintro e w14 ⟨rfl, hb⟩
          refine ⟨_, rfl, ?_⟩
          have n0_ := Aside0.mk (blk_below (g := gb284) (o := .cells #[.int .i64 a0_0, .int .i64 a0_1, .int .i64 a0_2, .int .i64 a0_3, .int .i64 a0_4, .int .i64 a0_5, .int .i64 a0_6, .int .i64 a0_7] 27 (0, 0)) (zL BK284.out) hb)
          have n1_ := Aside0.mk (blk_below (g := gb295) (o := .cells #[.int .i64 0, .int .i64 0, .int .i64 0, .int .i64 0] 28 (0, 0)) (zL BK295.out) hb)
          have n2_ := Aside0.mk (below_step (by repeat (first | (with_reducible first | exact HB.out | apply below_alloc | apply pw_below_drewN | apply below_drew1 | refine below_set ?_ GE284.out | refine below_set ?_ GE295.out) | exact HB.out)) hb)
          clear BK284
          clear BK295
          clear HB
          have BK284 := n0_
          have BK295 := n1_
          have HB := n2_
          clear n0_ n1_ n2_
          (try clear hb)
          (try clear hb2)
          (try clear hk)
          (try clear hi)
          refine hK.out _ _ ⟨(blk_cell BK284.out 0).trans rfl, (blk_cell BK284.out 1).trans rfl, (blk_cell BK284.out 2).trans rfl, (blk_cell BK284.out 3).trans rfl, (blk_cell BK284.out 4).trans rfl, (blk_cell BK284.out 5).trans rfl, (blk_cell BK284.out 6).trans rfl, (blk_cell BK284.out 7).trans rfl⟩ (fun hHeld => ?_)
          clear hK K
          refine norm_ (a' := ?_) ?_ ?_
          rotate_left
          ·show Act.put _ (some 17) _ = _
           simp only [Act.put, List.setIfInBounds_toArray, List.set_cons_zero, List.set_cons_succ, i64_w, i32_w]
           rfl
          refine pure_ (i := 10) (N := some 7) (v := ?_) (a' := ?_) #[true, true, true, true, true, true, true, true, true, true, true, false, false, true, false, false, false] rfl rfl (any_of HT_.out (by kernel_rfl)) (fun _ _ _ h => h) (Or.inl ⟨by rfl, ?_⟩) ?_ ?_
          rotate_left
          ·intro w'
           go_simp
           with_reducible rfl
          rotate_left
          ·exact zP i64_w i32_w
          refine pure_ (i := 11) (N := some 18) (v := ?_) (a' := ?_) #[true, true, true, true, true, true, true, true, true, true, true, true, false, true, false, false, false] rfl rfl (any_of HT_.out (by kernel_rfl)) (fun _ _ _ h => h) (Or.inl ⟨by rfl, ?_⟩) ?_ ?_
          rotate_left
          ·intro w'
           go_simp
           with_reducible rfl
          rotate_left
          ·exact zP i64_w i32_w
          refine pure_ (i := 12) (N := some 19) (v := ?_) (a' := ?_) #[true, true, true, true, true, true, true, true, true, true, true, true, true, true, false, false, false] rfl rfl (any_of HT_.out (by kernel_rfl)) (fun _ _ _ h => h) (Or.inl ⟨by rfl, ?_⟩) ?_ ?_
          rotate_left
          ·intro w'
           go_simp
           with_reducible rfl
          rotate_left
          ·exact zP i64_w i32_w
          exact norm_ (by first | (simp only [putAll, Act.put, List.setIfInBounds_toArray, List.set_cons_zero, List.set_cons_succ]; done) | (simp only [putAll, Act.put, List.setIfInBounds_toArray, List.set_cons_zero, List.set_cons_succ]; rfl)) (hJ2_9_13 (gb295) _ ⟨hHeld, (zL BK284.out), (zL BK295.out), GW295.out, GE295.out, NB284_295.out, NB295_284.out, (by repeat (first | (with_reducible first | exact HB.out | apply below_alloc | apply pw_below_drewN | apply below_drew1 | refine below_set ?_ GE284.out | refine below_set ?_ GE295.out) | exact HB.out))⟩)
         ·skip
          refine box_step ?hg (N := 4) ?hd (cs := #[.int .i64 0, .int .i64 0]) (t := 25) ?hr ?_; (case hd => rfl); (case hg => rfl); (case hr => first | (go_simp; done) | (go_simp; rfl))
          intro gb296 hg w14 hbox hb
          have n0_ := Aside0.mk (blk_below (g := gb284) (o := .cells #[.int .i64 a0_0, .int .i64 a0_1, .int .i64 a0_2, .int .i64 a0_3, .int .i64 a0_4, .int .i64 a0_5, .int .i64 a0_6, .int .i64 a0_7] 27 (0, 0)) (zL BK284.out) hb)
          have n1_ := Aside0.mk (blk_below (g := gb295) (o := .cells #[.int .i64 0, .int .i64 0, .int .i64 0, .int .i64 0] 28 (0, 0)) (zL BK295.out) hb)
          have n2_ := Aside0.mk (below_step (by repeat (first | (with_reducible first | exact HB.out | apply below_alloc | apply pw_below_drewN | apply below_drew1 | refine below_set ?_ GE284.out | refine below_set ?_ GE295.out) | exact HB.out)) hb)
          have n3_ := Aside0.mk (hbox)
          have n4_ := Aside0.mk ((by rw [hg]; exact (below_size (by repeat (first | (with_reducible first | exact HB.out | apply below_alloc | apply pw_below_drewN | apply below_drew1 | refine below_set ?_ GE284.out | refine below_set ?_ GE295.out) | exact HB.out))) : w.heap.size ≤ gb296))
          have n5_ := Aside0.mk ((by rw [hg]; exact (below_size (by repeat (first | (with_reducible first | exact HB.out | apply below_alloc | apply pw_below_drewN | apply below_drew1 | refine below_set ?_ GE284.out | refine below_set ?_ GE295.out) | exact HB.out))) : w.heap.size ≤ gb296))
          have n6_ := Aside0.mk ((by rw [hg]; exact Nat.ne_of_lt (blk_lt (g := gb284) (o := .cells #[.int .i64 a0_0, .int .i64 a0_1, .int .i64 a0_2, .int .i64 a0_3, .int .i64 a0_4, .int .i64 a0_5, .int .i64 a0_6, .int .i64 a0_7] 27 (0, 0)) (zL BK284.out)) : gb284 ≠ gb296))
          have n7_ := Aside0.mk ((by rw [hg]; exact Nat.ne_of_gt (blk_lt (g := gb284) (o := .cells #[.int .i64 a0_0, .int .i64 a0_1, .int .i64 a0_2, .int .i64 a0_3, .int .i64 a0_4, .int .i64 a0_5, .int .i64 a0_6, .int .i64 a0_7] 27 (0, 0)) (zL BK284.out)) : gb296 ≠ gb284))
          have n8_ := Aside0.mk ((by rw [hg]; exact Nat.ne_of_lt (blk_lt (g := gb295) (o := .cells #[.int .i64 0, .int .i64 0, .int .i64 0, .int .i64 0] 28 (0, 0)) (zL BK295.out)) : gb295 ≠ gb296))
          have n9_ := Aside0.mk ((by rw [hg]; exact Nat.ne_of_gt (blk_lt (g := gb295) (o := .cells #[.int .i64 0, .int .i64 0, .int .i64 0, .int .i64 0] 28 (0, 0)) (zL BK295.out)) : gb296 ≠ gb295))
          clear BK284
          clear BK295
          clear HB
          have BK284 := n0_
          have BK295 := n1_
          have HB := n2_
          have BK296 := n3_
          have GW296 := n4_
          have GE296 := n5_
          have NB284_296 := n6_
          have NB296_284 := n7_
          have NB295_296 := n8_
          have NB296_295 := n9_
          clear n0_ n1_ n2_ n3_ n4_ n5_ n6_ n7_ n8_ n9_
          clear hb hbox hg
          refine hK.out _ _ ⟨(blk_cell BK284.out 0).trans rfl, (blk_cell BK284.out 1).trans rfl, (blk_cell BK284.out 2).trans rfl, (blk_cell BK284.out 3).trans rfl, (blk_cell BK284.out 4).trans rfl, (blk_cell BK284.out 5).trans rfl, (blk_cell BK284.out 6).trans rfl, (blk_cell BK284.out 7).trans rfl⟩ (fun hHeld => ?_)
          clear hK K
          refine norm_ (a' := ?_) ?_ ?_
          rotate_left
          ·show Act.put _ (some 4) _ = _
           simp only [Act.put, List.setIfInBounds_toArray, List.set_cons_zero, List.set_cons_succ, i64_w, i32_w]
           rfl
          exact norm_ (by first | (simp only [putAll, Act.put, List.setIfInBounds_toArray, List.set_cons_zero, List.set_cons_succ]; done) | (simp only [putAll, Act.put, List.setIfInBounds_toArray, List.set_cons_zero, List.set_cons_succ]; rfl)) (hJ2_13_14 (gb295, gb296) _ ⟨hHeld, (zL BK284.out), (zL BK295.out), (zL BK296.out), GW295.out, GE295.out, NB284_295.out, NB295_284.out, NB296_295.out, NB295_296.out, GW296.out, GE296.out, NB284_296.out, NB296_284.out, (by repeat (first | (with_reducible first | exact HB.out | apply below_alloc | apply pw_below_drewN | apply below_drew1 | refine below_set ?_ GE284.out | refine below_set ?_ GE295.out | refine below_set ?_ GE296.out) | exact HB.out))⟩)
       ·skip
        rintro _ w13 ⟨hS_, h0_, h1_⟩
        have n0_ : Aside0 (w13.heap[gb284]? = some (.cells #[.int .i64 a0_0, .int .i64 a0_1, .int .i64 a0_2, .int .i64 a0_3, .int .i64 a0_4, .int .i64 a0_5, .int .i64 a0_6, .int .i64 a0_7] 27 (0, 0))) := ⟨h0_⟩
        have n1_ : Aside0 (Below w.heap.size w w13) := ⟨h1_⟩
        clear BK284
        clear HB
        clear h0_ h1_
        have BK284 := n0_
        have HB := n1_
        clear n0_ n1_
        have hHeld : w13.cell? ⟨gb284, 0, none⟩ = some (.int .i64 a0_0) ∧ w13.cell? ⟨gb284, 1, none⟩ = some (.int .i64 a0_1) ∧ w13.cell? ⟨gb284, 2, none⟩ = some (.int .i64 a0_2) ∧ w13.cell? ⟨gb284, 3, none⟩ = some (.int .i64 a0_3) ∧ w13.cell? ⟨gb284, 4, none⟩ = some (.int .i64 a0_4) ∧ w13.cell? ⟨gb284, 5, none⟩ = some (.int .i64 a0_5) ∧ w13.cell? ⟨gb284, 6, none⟩ = some (.int .i64 a0_6) ∧ w13.cell? ⟨gb284, 7, none⟩ = some (.int .i64 a0_7) := hS_
        refine norm_ (a' := ?_) ?_ ?_
        rotate_left
        ·simp only [putAll, Act.put, List.setIfInBounds_toArray, List.set_cons_zero, List.set_cons_succ]
         rfl
        refine two_ (i := 13) (j := 14) (Ni := some 3) (Nj := some 4) #[true, true, true, true, true, true, true, true, true, true, true, true, true, true, false, false, false] #[true, true, true, true, true, true, true, true, true, true, true, true, true, false, true, false, false] rfl rfl rfl rfl (two_of HT_.out (by kernel_rfl)) (by decide) (by decide) (fun K hK => ?_) (fun K hK => ?_)
        ·skip
         refine box_step ?hg (N := 3) ?hd (cs := #[.int .i64 0, .int .i64 0, .int .i64 0, .int .i64 0]) (t := 28) ?hr ?_; (case hd => rfl); (case hg => rfl); (case hr => first | (go_simp; done) | (go_simp; rfl))
         intro gb295 hg w14 hbox hb
         have n0_ := Aside0.mk (blk_below (g := gb284) (o := .cells #[.int .i64 a0_0, .int .i64 a0_1, .int .i64 a0_2, .int .i64 a0_3, .int .i64 a0_4, .int .i64 a0_5, .int .i64 a0_6, .int .i64 a0_7] 27 (0, 0)) (zL BK284.out) hb)
         have n1_ := Aside0.mk (below_step (zG HB GE284) hb)
         have n2_ := Aside0.mk (hbox)
         have n3_ := Aside0.mk ((by rw [hg]; exact (below_size (zG HB GE284)) : w.heap.size ≤ gb295))
         have n4_ := Aside0.mk ((by rw [hg]; exact (below_size (zG HB GE284)) : w.heap.size ≤ gb295))
         have n5_ := Aside0.mk ((by rw [hg]; exact Nat.ne_of_lt (blk_lt (g := gb284) (o := .cells #[.int .i64 a0_0, .int .i64 a0_1, .int .i64 a0_2, .int .i64 a0_3, .int .i64 a0_4, .int .i64 a0_5, .int .i64 a0_6, .int .i64 a0_7] 27 (0, 0)) (zL BK284.out)) : gb284 ≠ gb295))
         have n6_ := Aside0.mk ((by rw [hg]; exact Nat.ne_of_gt (blk_lt (g := gb284) (o := .cells #[.int .i64 a0_0, .int .i64 a0_1, .int .i64 a0_2, .int .i64 a0_3, .int .i64 a0_4, .int .i64 a0_5, .int .i64 a0_6, .int .i64 a0_7] 27 (0, 0)) (zL BK284.out)) : gb295 ≠ gb284))
         clear BK284
         clear HB
         have BK284 := n0_
         have HB := n1_
         have BK295 := n2_
         have GW295 := n3_
         have GE295 := n4_
         have NB284_295 := n5_
         have NB295_284 := n6_
         clear n0_ n1_ n2_ n3_ n4_ n5_ n6_
         clear hb hbox hg
         refine hK.out _ _ ⟨(blk_cell BK284.out 0).trans rfl, (blk_cell BK284.out 1).trans rfl, (blk_cell BK284.out 2).trans rfl, (blk_cell BK284.out 3).trans rfl, (blk_cell BK284.out 4).trans rfl, (blk_cell BK284.out 5).trans rfl, (blk_cell BK284.out 6).trans rfl, (blk_cell BK284.out 7).trans rfl⟩ (fun hHeld => ?_)
         clear hK K
         refine norm_ (a' := ?_) ?_ ?_
         rotate_left
         ·show Act.put _ (some 3) _ = _
          simp only [Act.put, List.setIfInBounds_toArray, List.set_cons_zero, List.set_cons_succ, i64_w, i32_w]
          rfl
         exact norm_ (by first | (simp only [putAll, Act.put, List.setIfInBounds_toArray, List.set_cons_zero, List.set_cons_succ]; done) | (simp only [putAll, Act.put, List.setIfInBounds_toArray, List.set_cons_zero, List.set_cons_succ]; rfl)) (hJ2_9_13 (gb295) _ ⟨hHeld, (zL BK284.out), (zL BK295.out), GW295.out, GE295.out, NB284_295.out, NB295_284.out, (by repeat (first | (with_reducible first | exact HB.out | apply below_alloc | apply pw_below_drewN | apply below_drew1 | refine below_set ?_ GE284.out | refine below_set ?_ GE295.out) | exact HB.out))⟩)
        ·skip
         refine box_step ?hg (N := 4) ?hd (cs := #[.int .i64 0, .int .i64 0]) (t := 25) ?hr ?_; (case hd => rfl); (case hg => rfl); (case hr => first | (go_simp; done) | (go_simp; rfl))
         intro gb296 hg w14 hbox hb
         have n0_ := Aside0.mk (blk_below (g := gb284) (o := .cells #[.int .i64 a0_0, .int .i64 a0_1, .int .i64 a0_2, .int .i64 a0_3, .int .i64 a0_4, .int .i64 a0_5, .int .i64 a0_6, .int .i64 a0_7] 27 (0, 0)) (zL BK284.out) hb)
         have n1_ := Aside0.mk (below_step (zG HB GE284) hb)
         have n2_ := Aside0.mk (hbox)
         have n3_ := Aside0.mk ((by rw [hg]; exact (below_size (zG HB GE284)) : w.heap.size ≤ gb296))
         have n4_ := Aside0.mk ((by rw [hg]; exact (below_size (zG HB GE284)) : w.heap.size ≤ gb296))
         have n5_ := Aside0.mk ((by rw [hg]; exact Nat.ne_of_lt (blk_lt (g := gb284) (o := .cells #[.int .i64 a0_0, .int .i64 a0_1, .int .i64 a0_2, .int .i64 a0_3, .int .i64 a0_4, .int .i64 a0_5, .int .i64 a0_6, .int .i64 a0_7] 27 (0, 0)) (zL BK284.out)) : gb284 ≠ gb296))
         have n6_ := Aside0.mk ((by rw [hg]; exact Nat.ne_of_gt (blk_lt (g := gb284) (o := .cells #[.int .i64 a0_0, .int .i64 a0_1, .int .i64 a0_2, .int .i64 a0_3, .int .i64 a0_4, .int .i64 a0_5, .int .i64 a0_6, .int .i64 a0_7] 27 (0, 0)) (zL BK284.out)) : gb296 ≠ gb284))
         clear BK284
         clear HB
         have BK284 := n0_
         have HB := n1_
         have BK296 := n2_
         have GW296 := n3_
         have GE296 := n4_
         have NB284_296 := n5_
         have NB296_284 := n6_
         clear n0_ n1_ n2_ n3_ n4_ n5_ n6_
         clear hb hbox hg
         refine hK.out _ _ ⟨(blk_cell BK284.out 0).trans rfl, (blk_cell BK284.out 1).trans rfl, (blk_cell BK284.out 2).trans rfl, (blk_cell BK284.out 3).trans rfl, (blk_cell BK284.out 4).trans rfl, (blk_cell BK284.out 5).trans rfl, (blk_cell BK284.out 6).trans rfl, (blk_cell BK284.out 7).trans rfl⟩ (fun hHeld => ?_)
         clear hK K
         refine norm_ (a' := ?_) ?_ ?_
         rotate_left
         ·show Act.put _ (some 4) _ = _
          simp only [Act.put, List.setIfInBounds_toArray, List.set_cons_zero, List.set_cons_succ, i64_w, i32_w]
          rfl
         exact norm_ (by first | (simp only [putAll, Act.put, List.setIfInBounds_toArray, List.set_cons_zero, List.set_cons_succ]; done) | (simp only [putAll, Act.put, List.setIfInBounds_toArray, List.set_cons_zero, List.set_cons_succ]; rfl)) (hJ2_9_14 (gb296) _ ⟨hHeld, (zL BK284.out), (zL BK296.out), GW296.out, GE296.out, NB284_296.out, NB296_284.out, (by repeat (first | (with_reducible first | exact HB.out | apply below_alloc | apply pw_below_drewN | apply below_drew1 | refine below_set ?_ GE284.out | refine below_set ?_ GE296.out) | exact HB.out))⟩)
      ·skip
       rintro ⟨gb295, gb296⟩ w14 ⟨hS_, h0_, h1_, h2_, h3_, h4_, h5_, h6_, h7_, h8_, h9_, h10_, h11_, h12_, h13_⟩
       have n0_ : Aside0 (w14.heap[gb284]? = some (.cells #[.int .i64 a0_0, .int .i64 a0_1, .int .i64 a0_2, .int .i64 a0_3, .int .i64 a0_4, .int .i64 a0_5, .int .i64 a0_6, .int .i64 a0_7] 27 (0, 0))) := ⟨h0_⟩
       have n1_ : Aside0 (w14.heap[gb295]? = some (.cells #[.int .i64 0, .int .i64 0, .int .i64 0, .int .i64 0] 28 (0, 0))) := ⟨h1_⟩
       have n2_ : Aside0 (w14.heap[gb296]? = some (.cells #[.int .i64 0, .int .i64 0] 25 (0, 0))) := ⟨h2_⟩
       have n3_ : Aside0 (w.heap.size ≤ gb295) := ⟨h3_⟩
       have n4_ : Aside0 (w.heap.size ≤ gb295) := ⟨h4_⟩
       have n5_ : Aside0 (gb284 ≠ gb295) := ⟨h5_⟩
       have n6_ : Aside0 (gb295 ≠ gb284) := ⟨h6_⟩
       have n7_ : Aside0 (gb296 ≠ gb295) := ⟨h7_⟩
       have n8_ : Aside0 (gb295 ≠ gb296) := ⟨h8_⟩
       have n9_ : Aside0 (w.heap.size ≤ gb296) := ⟨h9_⟩
       have n10_ : Aside0 (w.heap.size ≤ gb296) := ⟨h10_⟩
       have n11_ : Aside0 (gb284 ≠ gb296) := ⟨h11_⟩
       have n12_ : Aside0 (gb296 ≠ gb284) := ⟨h12_⟩
       have n13_ : Aside0 (Below w.heap.size w w14) := ⟨h13_⟩
       clear BK284
       clear HB
       clear h0_ h1_ h2_ h3_ h4_ h5_ h6_ h7_ h8_ h9_ h10_ h11_ h12_ h13_
       have BK284 := n0_
       have BK295 := n1_
       have BK296 := n2_
       have GW295 := n3_
       have GE295 := n4_
       have NB284_295 := n5_
       have NB295_284 := n6_
       have NB296_295 := n7_
       have NB295_296 := n8_
       have GW296 := n9_
       have GE296 := n10_
       have NB284_296 := n11_
       have NB296_284 := n12_
       have HB := n13_
       clear n0_ n1_ n2_ n3_ n4_ n5_ n6_ n7_ n8_ n9_ n10_ n11_ n12_ n13_
       have hHeld : w14.cell? ⟨gb284, 0, none⟩ = some (.int .i64 a0_0) ∧ w14.cell? ⟨gb284, 1, none⟩ = some (.int .i64 a0_1) ∧ w14.cell? ⟨gb284, 2, none⟩ = some (.int .i64 a0_2) ∧ w14.cell? ⟨gb284, 3, none⟩ = some (.int .i64 a0_3) ∧ w14.cell? ⟨gb284, 4, none⟩ = some (.int .i64 a0_4) ∧ w14.cell? ⟨gb284, 5, none⟩ = some (.int .i64 a0_5) ∧ w14.cell? ⟨gb284, 6, none⟩ = some (.int .i64 a0_6) ∧ w14.cell? ⟨gb284, 7, none⟩ = some (.int .i64 a0_7) := hS_
       refine norm_ (a' := ?_) ?_ ?_
       rotate_left
       ·simp only [putAll, Act.put, List.setIfInBounds_toArray, List.set_cons_zero, List.set_cons_succ]
        rfl
       refine one_ (i := 9) (N := some 17) #[true, true, true, true, true, true, true, true, true, true, false, false, false, true, true, false, false] rfl rfl (one_of HT_.out (by kernel_rfl)) (by decide) (fun K hK => ?_)
       refine goes_ Try.func9 (by kernel_rfl) rfl #[.agg #[.int .i64 t285, .int .i64 t286, .int .i64 t287, .int .i64 t288], .agg #[.int .i64 a0_4, .int .i64 a0_5], .int .i64 a0_6, .int .i64 a0_7] (by rfl) rfl rfl zM ?_
       with_reducible refine (prefetch_Read.calls k t285 t286 t287 t288 a0_4 a0_5 a0_6 a0_7 t289 t290 t291 t292 t293 t294 _ A3.out).mono ?_
       rintro e w15 ⟨rfl, hb⟩
       refine ⟨_, rfl, ?_⟩
       have n0_ := Aside0.mk (blk_below (g := gb284) (o := .cells #[.int .i64 a0_0, .int .i64 a0_1, .int .i64 a0_2, .int .i64 a0_3, .int .i64 a0_4, .int .i64 a0_5, .int .i64 a0_6, .int .i64 a0_7] 27 (0, 0)) (zL BK284.out) hb)
       have n1_ := Aside0.mk (blk_below (g := gb295) (o := .cells #[.int .i64 0, .int .i64 0, .int .i64 0, .int .i64 0] 28 (0, 0)) (zL BK295.out) hb)
       have n2_ := Aside0.mk (blk_below (g := gb296) (o := .cells #[.int .i64 0, .int .i64 0] 25 (0, 0)) (zL BK296.out) hb)
       have n3_ := Aside0.mk (below_step (by repeat (first | (with_reducible first | exact HB.out | apply below_alloc | apply pw_below_drewN | apply below_drew1 | refine below_set ?_ GE284.out | refine below_set ?_ GE295.out | refine below_set ?_ GE296.out) | exact HB.out)) hb)
       clear BK284
       clear BK295
       clear BK296
       clear HB
       have BK284 := n0_
       have BK295 := n1_
       have BK296 := n2_
       have HB := n3_
       clear n0_ n1_ n2_ n3_
       (try clear hb)
       (try clear hb2)
       (try clear hk)
       (try clear hi)
       refine hK.out _ _ ⟨(blk_cell BK284.out 0).trans rfl, (blk_cell BK284.out 1).trans rfl, (blk_cell BK284.out 2).trans rfl, (blk_cell BK284.out 3).trans rfl, (blk_cell BK284.out 4).trans rfl, (blk_cell BK284.out 5).trans rfl, (blk_cell BK284.out 6).trans rfl, (blk_cell BK284.out 7).trans rfl⟩ (fun hHeld => ?_)
       clear hK K
       refine norm_ (a' := ?_) ?_ ?_
       rotate_left
       ·show Act.put _ (some 17) _ = _
        simp only [Act.put, List.setIfInBounds_toArray, List.set_cons_zero, List.set_cons_succ, i64_w, i32_w]
        rfl
       refine pure_ (i := 10) (N := some 7) (v := ?_) (a' := ?_) #[true, true, true, true, true, true, true, true, true, true, true, false, false, true, true, false, false] rfl rfl (any_of HT_.out (by kernel_rfl)) (fun _ _ _ h => h) (Or.inl ⟨by rfl, ?_⟩) ?_ ?_
       rotate_left
       ·intro w'
        go_simp
        with_reducible rfl
       rotate_left
       ·exact zP i64_w i32_w
       refine pure_ (i := 11) (N := some 18) (v := ?_) (a' := ?_) #[true, true, true, true, true, true, true, true, true, true, true, true, false, true, true, false, false] rfl rfl (any_of HT_.out (by kernel_rfl)) (fun _ _ _ h => h) (Or.inl ⟨by rfl, ?_⟩) ?_ ?_
       rotate_left
       ·intro w'
        go_simp
        with_reducible rfl
       rotate_left
       ·exact zP i64_w i32_w
       refine pure_ (i := 12) (N := some 19) (v := ?_) (a' := ?_) #[true, true, true, true, true, true, true, true, true, true, true, true, true, true, true, false, false] rfl rfl (any_of HT_.out (by kernel_rfl)) (fun _ _ _ h => h) (Or.inl ⟨by rfl, ?_⟩) ?_ ?_
       rotate_left
       ·intro w'
        go_simp
        with_reducible rfl
       rotate_left
       ·exact zP i64_w i32_w
       exact norm_ (by first | (simp only [putAll, Act.put, List.setIfInBounds_toArray, List.set_cons_zero, List.set_cons_succ]; done) | (simp only [putAll, Act.put, List.setIfInBounds_toArray, List.set_cons_zero, List.set_cons_succ]; rfl)) (hJ2_9_13_14 (gb295, gb296) _ ⟨hHeld, (zL BK284.out), (zL BK295.out), (zL BK296.out), GW295.out, GE295.out, NB284_295.out, NB295_284.out, NB296_295.out, NB295_296.out, GW296.out, GE296.out, NB284_296.out, NB296_284.out, (by repeat (first | (with_reducible first | exact HB.out | apply below_alloc | apply pw_below_drewN | apply below_drew1 | refine below_set ?_ GE284.out | refine below_set ?_ GE295.out | refine below_set ?_ GE296.out) | exact HB.out))⟩)
     ·skip
      rintro gb296 w14 ⟨hS_, h0_, h1_, h2_, h3_, h4_, h5_, h6_⟩
      have n0_ : Aside0 (w14.heap[gb284]? = some (.cells #[.int .i64 a0_0, .int .i64 a0_1, .int .i64 a0_2, .int .i64 a0_3, .int .i64 a0_4, .int .i64 a0_5, .int .i64 a0_6, .int .i64 a0_7] 27 (0, 0))) := ⟨h0_⟩
      have n1_ : Aside0 (w14.heap[gb296]? = some (.cells #[.int .i64 0, .int .i64 0] 25 (0, 0))) := ⟨h1_⟩
      have n2_ : Aside0 (w.heap.size ≤ gb296) := ⟨h2_⟩
      have n3_ : Aside0 (w.heap.size ≤ gb296) := ⟨h3_⟩
      have n4_ : Aside0 (gb284 ≠ gb296) := ⟨h4_⟩
      have n5_ : Aside0 (gb296 ≠ gb284) := ⟨h5_⟩
      have n6_ : Aside0 (Below w.heap.size w w14) := ⟨h6_⟩
      clear BK284
      clear HB
      clear h0_ h1_ h2_ h3_ h4_ h5_ h6_
      have BK284 := n0_
      have BK296 := n1_
      have GW296 := n2_
      have GE296 := n3_
      have NB284_296 := n4_
      have NB296_284 := n5_
      have HB := n6_
      clear n0_ n1_ n2_ n3_ n4_ n5_ n6_
      have hHeld : w14.cell? ⟨gb284, 0, none⟩ = some (.int .i64 a0_0) ∧ w14.cell? ⟨gb284, 1, none⟩ = some (.int .i64 a0_1) ∧ w14.cell? ⟨gb284, 2, none⟩ = some (.int .i64 a0_2) ∧ w14.cell? ⟨gb284, 3, none⟩ = some (.int .i64 a0_3) ∧ w14.cell? ⟨gb284, 4, none⟩ = some (.int .i64 a0_4) ∧ w14.cell? ⟨gb284, 5, none⟩ = some (.int .i64 a0_5) ∧ w14.cell? ⟨gb284, 6, none⟩ = some (.int .i64 a0_6) ∧ w14.cell? ⟨gb284, 7, none⟩ = some (.int .i64 a0_7) := hS_
      refine norm_ (a' := ?_) ?_ ?_
      rotate_left
      ·simp only [putAll, Act.put, List.setIfInBounds_toArray, List.set_cons_zero, List.set_cons_succ]
       rfl
      refine one_ (i := 13) (N := some 3) #[true, true, true, true, true, true, true, true, true, true, true, true, true, true, true, false, false] rfl rfl (one_of HT_.out (by kernel_rfl)) (by decide) (fun K hK => ?_)
      refine box_step ?hg (N := 3) ?hd (cs := #[.int .i64 0, .int .i64 0, .int .i64 0, .int .i64 0]) (t := 28) ?hr ?_; (case hd => rfl); (case hg => rfl); (case hr => first | (go_simp; done) | (go_simp; rfl))
      intro gb295 hg w15 hbox hb
      have n0_ := Aside0.mk (blk_below (g := gb284) (o := .cells #[.int .i64 a0_0, .int .i64 a0_1, .int .i64 a0_2, .int .i64 a0_3, .int .i64 a0_4, .int .i64 a0_5, .int .i64 a0_6, .int .i64 a0_7] 27 (0, 0)) (zL BK284.out) hb)
      have n1_ := Aside0.mk (blk_below (g := gb296) (o := .cells #[.int .i64 0, .int .i64 0] 25 (0, 0)) (zL BK296.out) hb)
      have n2_ := Aside0.mk (below_step (by repeat (first | (with_reducible first | exact HB.out | apply below_alloc | apply pw_below_drewN | apply below_drew1 | refine below_set ?_ GE284.out | refine below_set ?_ GE296.out) | exact HB.out)) hb)
      have n3_ := Aside0.mk (hbox)
      have n4_ := Aside0.mk ((by rw [hg]; exact (below_size (by repeat (first | (with_reducible first | exact HB.out | apply below_alloc | apply pw_below_drewN | apply below_drew1 | refine below_set ?_ GE284.out | refine below_set ?_ GE296.out) | exact HB.out))) : w.heap.size ≤ gb295))
      have n5_ := Aside0.mk ((by rw [hg]; exact (below_size (by repeat (first | (with_reducible first | exact HB.out | apply below_alloc | apply pw_below_drewN | apply below_drew1 | refine below_set ?_ GE284.out | refine below_set ?_ GE296.out) | exact HB.out))) : w.heap.size ≤ gb295))
      have n6_ := Aside0.mk ((by rw [hg]; exact Nat.ne_of_lt (blk_lt (g := gb284) (o := .cells #[.int .i64 a0_0, .int .i64 a0_1, .int .i64 a0_2, .int .i64 a0_3, .int .i64 a0_4, .int .i64 a0_5, .int .i64 a0_6, .int .i64 a0_7] 27 (0, 0)) (zL BK284.out)) : gb284 ≠ gb295))
      have n7_ := Aside0.mk ((by rw [hg]; exact Nat.ne_of_gt (blk_lt (g := gb284) (o := .cells #[.int .i64 a0_0, .int .i64 a0_1, .int .i64 a0_2, .int .i64 a0_3, .int .i64 a0_4, .int .i64 a0_5, .int .i64 a0_6, .int .i64 a0_7] 27 (0, 0)) (zL BK284.out)) : gb295 ≠ gb284))
      have n8_ := Aside0.mk ((by rw [hg]; exact Nat.ne_of_lt (blk_lt (g := gb296) (o := .cells #[.int .i64 0, .int .i64 0] 25 (0, 0)) (zL BK296.out)) : gb296 ≠ gb295))
      have n9_ := Aside0.mk ((by rw [hg]; exact Nat.ne_of_gt (blk_lt (g := gb296) (o := .cells #[.int .i64 0, .int .i64 0] 25 (0, 0)) (zL BK296.out)) : gb295 ≠ gb296))
      clear BK284
      clear BK296
      clear HB
      have BK284 := n0_
      have BK296 := n1_
      have HB := n2_
      have BK295 := n3_
      have GW295 := n4_
      have GE295 := n5_
      have NB284_295 := n6_
      have NB295_284 := n7_
      have NB296_295 := n8_
      have NB295_296 := n9_
      clear n0_ n1_ n2_ n3_ n4_ n5_ n6_ n7_ n8_ n9_
      clear hb hbox hg
      refine hK.out _ _ ⟨(blk_cell BK284.out 0).trans rfl, (blk_cell BK284.out 1).trans rfl, (blk_cell BK284.out 2).trans rfl, (blk_cell BK284.out 3).trans rfl, (blk_cell BK284.out 4).trans rfl, (blk_cell BK284.out 5).trans rfl, (blk_cell BK284.out 6).trans rfl, (blk_cell BK284.out 7).trans rfl⟩ (fun hHeld => ?_)
      clear hK K
      refine norm_ (a' := ?_) ?_ ?_
      rotate_left
      ·show Act.put _ (some 3) _ = _
       simp only [Act.put, List.setIfInBounds_toArray, List.set_cons_zero, List.set_cons_succ, i64_w, i32_w]
       rfl
      exact norm_ (by first | (simp only [putAll, Act.put, List.setIfInBounds_toArray, List.set_cons_zero, List.set_cons_succ]; done) | (simp only [putAll, Act.put, List.setIfInBounds_toArray, List.set_cons_zero, List.set_cons_succ]; rfl)) (hJ2_9_13_14 (gb295, gb296) _ ⟨hHeld, (zL BK284.out), (zL BK295.out), (zL BK296.out), GW295.out, GE295.out, NB284_295.out, NB295_284.out, NB296_295.out, NB295_296.out, GW296.out, GE296.out, NB284_296.out, NB296_284.out, (by repeat (first | (with_reducible first | exact HB.out | apply below_alloc | apply pw_below_drewN | apply below_drew1 | refine below_set ?_ GE284.out | refine below_set ?_ GE296.out | refine below_set ?_ GE295.out) | exact HB.out))⟩)
    ·skip
     rintro gb295 w14 ⟨hS_, h0_, h1_, h2_, h3_, h4_, h5_, h6_⟩
     have n0_ : Aside0 (w14.heap[gb284]? = some (.cells #[.int .i64 a0_0, .int .i64 a0_1, .int .i64 a0_2, .int .i64 a0_3, .int .i64 a0_4, .int .i64 a0_5, .int .i64 a0_6, .int .i64 a0_7] 27 (0, 0))) := ⟨h0_⟩
     have n1_ : Aside0 (w14.heap[gb295]? = some (.cells #[.int .i64 0, .int .i64 0, .int .i64 0, .int .i64 0] 28 (0, 0))) := ⟨h1_⟩
     have n2_ : Aside0 (w.heap.size ≤ gb295) := ⟨h2_⟩
     have n3_ : Aside0 (w.heap.size ≤ gb295) := ⟨h3_⟩
     have n4_ : Aside0 (gb284 ≠ gb295) := ⟨h4_⟩
     have n5_ : Aside0 (gb295 ≠ gb284) := ⟨h5_⟩
     have n6_ : Aside0 (Below w.heap.size w w14) := ⟨h6_⟩
     clear BK284
     clear HB
     clear h0_ h1_ h2_ h3_ h4_ h5_ h6_
     have BK284 := n0_
     have BK295 := n1_
     have GW295 := n2_
     have GE295 := n3_
     have NB284_295 := n4_
     have NB295_284 := n5_
     have HB := n6_
     clear n0_ n1_ n2_ n3_ n4_ n5_ n6_
     have hHeld : w14.cell? ⟨gb284, 0, none⟩ = some (.int .i64 a0_0) ∧ w14.cell? ⟨gb284, 1, none⟩ = some (.int .i64 a0_1) ∧ w14.cell? ⟨gb284, 2, none⟩ = some (.int .i64 a0_2) ∧ w14.cell? ⟨gb284, 3, none⟩ = some (.int .i64 a0_3) ∧ w14.cell? ⟨gb284, 4, none⟩ = some (.int .i64 a0_4) ∧ w14.cell? ⟨gb284, 5, none⟩ = some (.int .i64 a0_5) ∧ w14.cell? ⟨gb284, 6, none⟩ = some (.int .i64 a0_6) ∧ w14.cell? ⟨gb284, 7, none⟩ = some (.int .i64 a0_7) := hS_
     refine norm_ (a' := ?_) ?_ ?_
     rotate_left
     ·simp only [putAll, Act.put, List.setIfInBounds_toArray, List.set_cons_zero, List.set_cons_succ]
      rfl
     refine one_ (i := 14) (N := some 4) #[true, true, true, true, true, true, true, true, true, true, true, true, true, true, true, false, false] rfl rfl (one_of HT_.out (by kernel_rfl)) (by decide) (fun K hK => ?_)
     refine box_step ?hg (N := 4) ?hd (cs := #[.int .i64 0, .int .i64 0]) (t := 25) ?hr ?_; (case hd => rfl); (case hg => rfl); (case hr => first | (go_simp; done) | (go_simp; rfl))
     intro gb296 hg w15 hbox hb
     have n0_ := Aside0.mk (blk_below (g := gb284) (o := .cells #[.int .i64 a0_0, .int .i64 a0_1, .int .i64 a0_2, .int .i64 a0_3, .int .i64 a0_4, .int .i64 a0_5, .int .i64 a0_6, .int .i64 a0_7] 27 (0, 0)) (zL BK284.out) hb)
     have n1_ := Aside0.mk (blk_below (g := gb295) (o := .cells #[.int .i64 0, .int .i64 0, .int .i64 0, .int .i64 0] 28 (0, 0)) (zL BK295.out) hb)
     have n2_ := Aside0.mk (below_step (by repeat (first | (with_reducible first | exact HB.out | apply below_alloc | apply pw_below_drewN | apply below_drew1 | refine below_set ?_ GE284.out | refine below_set ?_ GE295.out) | exact HB.out)) hb)
     have n3_ := Aside0.mk (hbox)
     have n4_ := Aside0.mk ((by rw [hg]; exact (below_size (by repeat (first | (with_reducible first | exact HB.out | apply below_alloc | apply pw_below_drewN | apply below_drew1 | refine below_set ?_ GE284.out | refine below_set ?_ GE295.out) | exact HB.out))) : w.heap.size ≤ gb296))
     have n5_ := Aside0.mk ((by rw [hg]; exact (below_size (by repeat (first | (with_reducible first | exact HB.out | apply below_alloc | apply pw_below_drewN | apply below_drew1 | refine below_set ?_ GE284.out | refine below_set ?_ GE295.out) | exact HB.out))) : w.heap.size ≤ gb296))
     have n6_ := Aside0.mk ((by rw [hg]; exact Nat.ne_of_lt (blk_lt (g := gb284) (o := .cells #[.int .i64 a0_0, .int .i64 a0_1, .int .i64 a0_2, .int .i64 a0_3, .int .i64 a0_4, .int .i64 a0_5, .int .i64 a0_6, .int .i64 a0_7] 27 (0, 0)) (zL BK284.out)) : gb284 ≠ gb296))
     have n7_ := Aside0.mk ((by rw [hg]; exact Nat.ne_of_gt (blk_lt (g := gb284) (o := .cells #[.int .i64 a0_0, .int .i64 a0_1, .int .i64 a0_2, .int .i64 a0_3, .int .i64 a0_4, .int .i64 a0_5, .int .i64 a0_6, .int .i64 a0_7] 27 (0, 0)) (zL BK284.out)) : gb296 ≠ gb284))
     have n8_ := Aside0.mk ((by rw [hg]; exact Nat.ne_of_lt (blk_lt (g := gb295) (o := .cells #[.int .i64 0, .int .i64 0, .int .i64 0, .int .i64 0] 28 (0, 0)) (zL BK295.out)) : gb295 ≠ gb296))
     have n9_ := Aside0.mk ((by rw [hg]; exact Nat.ne_of_gt (blk_lt (g := gb295) (o := .cells #[.int .i64 0, .int .i64 0, .int .i64 0, .int .i64 0] 28 (0, 0)) (zL BK295.out)) : gb296 ≠ gb295))
     clear BK284
     clear BK295
     clear HB
     have BK284 := n0_
     have BK295 := n1_
     have HB := n2_
     have BK296 := n3_
     have GW296 := n4_
     have GE296 := n5_
     have NB284_296 := n6_
     have NB296_284 := n7_
     have NB295_296 := n8_
     have NB296_295 := n9_
     clear n0_ n1_ n2_ n3_ n4_ n5_ n6_ n7_ n8_ n9_
     clear hb hbox hg
     refine hK.out _ _ ⟨(blk_cell BK284.out 0).trans rfl, (blk_cell BK284.out 1).trans rfl, (blk_cell BK284.out 2).trans rfl, (blk_cell BK284.out 3).trans rfl, (blk_cell BK284.out 4).trans rfl, (blk_cell BK284.out 5).trans rfl, (blk_cell BK284.out 6).trans rfl, (blk_cell BK284.out 7).trans rfl⟩ (fun hHeld => ?_)
     clear hK K
     refine norm_ (a' := ?_) ?_ ?_
     rotate_left
     ·show Act.put _ (some 4) _ = _
      simp only [Act.put, List.setIfInBounds_toArray, List.set_cons_zero, List.set_cons_succ, i64_w, i32_w]
      rfl
     exact norm_ (by first | (simp only [putAll, Act.put, List.setIfInBounds_toArray, List.set_cons_zero, List.set_cons_succ]; done) | (simp only [putAll, Act.put, List.setIfInBounds_toArray, List.set_cons_zero, List.set_cons_succ]; rfl)) (hJ2_9_13_14 (gb295, gb296) _ ⟨hHeld, (zL BK284.out), (zL BK295.out), (zL BK296.out), GW295.out, GE295.out, NB284_295.out, NB295_284.out, NB296_295.out, NB295_296.out, GW296.out, GE296.out, NB284_296.out, NB296_284.out, (by repeat (first | (with_reducible first | exact HB.out | apply below_alloc | apply pw_below_drewN | apply below_drew1 | refine below_set ?_ GE284.out | refine below_set ?_ GE295.out | refine below_set ?_ GE296.out) | exact HB.out))⟩)
   rintro ⟨gb295, gb296⟩ w15 ⟨hS_, h0_, h1_, h2_, h3_, h4_, h5_, h6_, h7_, h8_, h9_, h10_, h11_, h12_, h13_⟩
   have n0_ : Aside0 (w15.heap[gb284]? = some (.cells #[.int .i64 a0_0, .int .i64 a0_1, .int .i64 a0_2, .int .i64 a0_3, .int .i64 a0_4, .int .i64 a0_5, .int .i64 a0_6, .int .i64 a0_7] 27 (0, 0))) := ⟨h0_⟩
   have n1_ : Aside0 (w15.heap[gb295]? = some (.cells #[.int .i64 0, .int .i64 0, .int .i64 0, .int .i64 0] 28 (0, 0))) := ⟨h1_⟩
   have n2_ : Aside0 (w15.heap[gb296]? = some (.cells #[.int .i64 0, .int .i64 0] 25 (0, 0))) := ⟨h2_⟩
   have n3_ : Aside0 (w.heap.size ≤ gb295) := ⟨h3_⟩
   have n4_ : Aside0 (w.heap.size ≤ gb295) := ⟨h4_⟩
   have n5_ : Aside0 (gb284 ≠ gb295) := ⟨h5_⟩
   have n6_ : Aside0 (gb295 ≠ gb284) := ⟨h6_⟩
   have n7_ : Aside0 (gb296 ≠ gb295) := ⟨h7_⟩
   have n8_ : Aside0 (gb295 ≠ gb296) := ⟨h8_⟩
   have n9_ : Aside0 (w.heap.size ≤ gb296) := ⟨h9_⟩
   have n10_ : Aside0 (w.heap.size ≤ gb296) := ⟨h10_⟩
   have n11_ : Aside0 (gb284 ≠ gb296) := ⟨h11_⟩
   have n12_ : Aside0 (gb296 ≠ gb284) := ⟨h12_⟩
   have n13_ : Aside0 (Below w.heap.size w w15) := ⟨h13_⟩
   clear BK284
   clear HB
   clear h0_ h1_ h2_ h3_ h4_ h5_ h6_ h7_ h8_ h9_ h10_ h11_ h12_ h13_
   have BK284 := n0_
   have BK295 := n1_
   have BK296 := n2_
   have GW295 := n3_
   have GE295 := n4_
   have NB284_295 := n5_
   have NB295_284 := n6_
   have NB296_295 := n7_
   have NB295_296 := n8_
   have GW296 := n9_
   have GE296 := n10_
   have NB284_296 := n11_
   have NB296_284 := n12_
   have HB := n13_
   clear n0_ n1_ n2_ n3_ n4_ n5_ n6_ n7_ n8_ n9_ n10_ n11_ n12_ n13_
   have hHeld : w15.cell? ⟨gb284, 0, none⟩ = some (.int .i64 a0_0) ∧ w15.cell? ⟨gb284, 1, none⟩ = some (.int .i64 a0_1) ∧ w15.cell? ⟨gb284, 2, none⟩ = some (.int .i64 a0_2) ∧ w15.cell? ⟨gb284, 3, none⟩ = some (.int .i64 a0_3) ∧ w15.cell? ⟨gb284, 4, none⟩ = some (.int .i64 a0_4) ∧ w15.cell? ⟨gb284, 5, none⟩ = some (.int .i64 a0_5) ∧ w15.cell? ⟨gb284, 6, none⟩ = some (.int .i64 a0_6) ∧ w15.cell? ⟨gb284, 7, none⟩ = some (.int .i64 a0_7) := hS_
   refine norm_ (a' := ?_) ?_ ?_
   rotate_left
   ·simp only [putAll, Act.put, List.setIfInBounds_toArray, List.set_cons_zero, List.set_cons_succ]
    rfl
   refine one_ (i := 15) (N := none) #[true, true, true, true, true, true, true, true, true, true, true, true, true, true, true, true, false] rfl rfl (one_of HT_.out (by kernel_rfl)) (by decide) (fun K hK => ?_)
   have hs16 : w15.cell? ⟨gb295, 0, none⟩ = some (.int .i64 0) := (blk_cell BK295.out 0).trans rfl
   have hfs16 := blk_frozen BK295.out 0
   have hns16_0 := NB284_295.out
   have hns16_2 := NB296_295.out
   have hms16_0 := NB295_284.out
   have hms16_2 := NB295_296.out
   have hs17 : w15.cell? ⟨gb295, 1, none⟩ = some (.int .i64 0) := (blk_cell BK295.out 1).trans rfl
   have hfs17 := blk_frozen BK295.out 1
   have hns17_0 := NB284_295.out
   have hns17_2 := NB296_295.out
   have hms17_0 := NB295_284.out
   have hms17_2 := NB295_296.out
   have hs18 : w15.cell? ⟨gb295, 2, none⟩ = some (.int .i64 0) := (blk_cell BK295.out 2).trans rfl
   have hfs18 := blk_frozen BK295.out 2
   have hns18_0 := NB284_295.out
   have hns18_2 := NB296_295.out
   have hms18_0 := NB295_284.out
   have hms18_2 := NB295_296.out
   have hs19 : w15.cell? ⟨gb295, 3, none⟩ = some (.int .i64 0) := (blk_cell BK295.out 3).trans rfl
   have hfs19 := blk_frozen BK295.out 3
   have hns19_0 := NB284_295.out
   have hns19_2 := NB296_295.out
   have hms19_0 := NB295_284.out
   have hms19_2 := NB295_296.out
   refine skip_ (w1 := ?_) (by rfl) rfl ?_ ?_
   rotate_left
   ·go_simp
    rfl
   refine hK.out _ _ ⟨((cell_far (p := ⟨gb295, _, none⟩) NB284_295.out _).trans (((cell_far (p := ⟨gb295, _, none⟩) NB284_295.out _).trans (((cell_far (p := ⟨gb295, _, none⟩) NB284_295.out _).trans (((cell_far (p := ⟨gb295, _, none⟩) NB284_295.out _).trans (hHeld.1)))))))), ((cell_far (p := ⟨gb295, _, none⟩) NB284_295.out _).trans (((cell_far (p := ⟨gb295, _, none⟩) NB284_295.out _).trans (((cell_far (p := ⟨gb295, _, none⟩) NB284_295.out _).trans (((cell_far (p := ⟨gb295, _, none⟩) NB284_295.out _).trans (hHeld.2.1)))))))), ((cell_far (p := ⟨gb295, _, none⟩) NB284_295.out _).trans (((cell_far (p := ⟨gb295, _, none⟩) NB284_295.out _).trans (((cell_far (p := ⟨gb295, _, none⟩) NB284_295.out _).trans (((cell_far (p := ⟨gb295, _, none⟩) NB284_295.out _).trans (hHeld.2.2.1)))))))), ((cell_far (p := ⟨gb295, _, none⟩) NB284_295.out _).trans (((cell_far (p := ⟨gb295, _, none⟩) NB284_295.out _).trans (((cell_far (p := ⟨gb295, _, none⟩) NB284_295.out _).trans (((cell_far (p := ⟨gb295, _, none⟩) NB284_295.out _).trans (hHeld.2.2.2.1)))))))), ((cell_far (p := ⟨gb295, _, none⟩) NB284_295.out _).trans (((cell_far (p := ⟨gb295, _, none⟩) NB284_295.out _).trans (((cell_far (p := ⟨gb295, _, none⟩) NB284_295.out _).trans (((cell_far (p := ⟨gb295, _, none⟩) NB284_295.out _).trans (hHeld.2.2.2.2.1)))))))), ((cell_far (p := ⟨gb295, _, none⟩) NB284_295.out _).trans (((cell_far (p := ⟨gb295, _, none⟩) NB284_295.out _).trans (((cell_far (p := ⟨gb295, _, none⟩) NB284_295.out _).trans (((cell_far (p := ⟨gb295, _, none⟩) NB284_295.out _).trans (hHeld.2.2.2.2.2.1)))))))), ((cell_far (p := ⟨gb295, _, none⟩) NB284_295.out _).trans (((cell_far (p := ⟨gb295, _, none⟩) NB284_295.out _).trans (((cell_far (p := ⟨gb295, _, none⟩) NB284_295.out _).trans (((cell_far (p := ⟨gb295, _, none⟩) NB284_295.out _).trans (hHeld.2.2.2.2.2.2.1)))))))), ((cell_far (p := ⟨gb295, _, none⟩) NB284_295.out _).trans (((cell_far (p := ⟨gb295, _, none⟩) NB284_295.out _).trans (((cell_far (p := ⟨gb295, _, none⟩) NB284_295.out _).trans (((cell_far (p := ⟨gb295, _, none⟩) NB284_295.out _).trans (hHeld.2.2.2.2.2.2.2))))))))⟩ (fun hHeld => ?_)
   clear hK K
   refine one_ (i := 16) (N := none) #[true, true, true, true, true, true, true, true, true, true, true, true, true, true, true, true, true] rfl rfl (one_of HT_.out (by kernel_rfl)) (by decide) (fun K hK => ?_)
   have hs20 : w15.cell? ⟨gb296, 0, none⟩ = some (.int .i64 0) := (blk_cell BK296.out 0).trans rfl
   have hfs20 := blk_frozen BK296.out 0
   have hns20_0 := NB284_296.out
   have hns20_1 := NB295_296.out
   have hms20_0 := NB296_284.out
   have hms20_1 := NB296_295.out
   have hs21 : w15.cell? ⟨gb296, 1, none⟩ = some (.int .i64 0) := (blk_cell BK296.out 1).trans rfl
   have hfs21 := blk_frozen BK296.out 1
   have hns21_0 := NB284_296.out
   have hns21_1 := NB295_296.out
   have hms21_0 := NB296_284.out
   have hms21_1 := NB296_295.out
   refine skip_ (w1 := ?_) (by rfl) rfl ?_ ?_
   rotate_left
   ·go_simp
    rfl
   refine hK.out _ _ ⟨((cell_far (p := ⟨gb296, _, none⟩) NB284_296.out _).trans (((cell_far (p := ⟨gb296, _, none⟩) NB284_296.out _).trans (hHeld.1)))), ((cell_far (p := ⟨gb296, _, none⟩) NB284_296.out _).trans (((cell_far (p := ⟨gb296, _, none⟩) NB284_296.out _).trans (hHeld.2.1)))), ((cell_far (p := ⟨gb296, _, none⟩) NB284_296.out _).trans (((cell_far (p := ⟨gb296, _, none⟩) NB284_296.out _).trans (hHeld.2.2.1)))), ((cell_far (p := ⟨gb296, _, none⟩) NB284_296.out _).trans (((cell_far (p := ⟨gb296, _, none⟩) NB284_296.out _).trans (hHeld.2.2.2.1)))), ((cell_far (p := ⟨gb296, _, none⟩) NB284_296.out _).trans (((cell_far (p := ⟨gb296, _, none⟩) NB284_296.out _).trans (hHeld.2.2.2.2.1)))), ((cell_far (p := ⟨gb296, _, none⟩) NB284_296.out _).trans (((cell_far (p := ⟨gb296, _, none⟩) NB284_296.out _).trans (hHeld.2.2.2.2.2.1)))), ((cell_far (p := ⟨gb296, _, none⟩) NB284_296.out _).trans (((cell_far (p := ⟨gb296, _, none⟩) NB284_296.out _).trans (hHeld.2.2.2.2.2.2.1)))), ((cell_far (p := ⟨gb296, _, none⟩) NB284_296.out _).trans (((cell_far (p := ⟨gb296, _, none⟩) NB284_296.out _).trans (hHeld.2.2.2.2.2.2.2))))⟩ (fun hHeld => ?_)
   clear hK K
   refine done_ (done_of HT_.out (by kernel_rfl)) ?_
   have hnb22 := NB284_295.out
   have hnc22 := NB295_284.out
   have hnb23 := NB284_296.out
   have hnc23 := NB296_284.out
   have hcz24_0 : w15.cell? ⟨gb284, 0, none⟩ = some (.int .i64 a0_0) := (blk_cell BK284.out 0).trans rfl
   have hcz24_1 : w15.cell? ⟨gb284, 1, none⟩ = some (.int .i64 a0_1) := (blk_cell BK284.out 1).trans rfl
   have hcz24_2 : w15.cell? ⟨gb284, 2, none⟩ = some (.int .i64 a0_2) := (blk_cell BK284.out 2).trans rfl
   have hcz24_3 : w15.cell? ⟨gb284, 3, none⟩ = some (.int .i64 a0_3) := (blk_cell BK284.out 3).trans rfl
   have hcz24_4 : w15.cell? ⟨gb284, 4, none⟩ = some (.int .i64 a0_4) := (blk_cell BK284.out 4).trans rfl
   have hcz24_5 : w15.cell? ⟨gb284, 5, none⟩ = some (.int .i64 a0_5) := (blk_cell BK284.out 5).trans rfl
   have hcz24_6 : w15.cell? ⟨gb284, 6, none⟩ = some (.int .i64 a0_6) := (blk_cell BK284.out 6).trans rfl
   have hcz24_7 : w15.cell? ⟨gb284, 7, none⟩ = some (.int .i64 a0_7) := (blk_cell BK284.out 7).trans rfl
   have hfz24_0 := blk_frozen BK284.out 0
   have hfz24_1 := blk_frozen BK284.out 1
   have hfz24_2 := blk_frozen BK284.out 2
   have hfz24_3 := blk_frozen BK284.out 3
   have hfz24_4 := blk_frozen BK284.out 4
   have hfz24_5 := blk_frozen BK284.out 5
   have hfz24_6 := blk_frozen BK284.out 6
   have hfz24_7 := blk_frozen BK284.out 7
   try go_wp2_with (first | ((with_reducible refine gate_callee (f := 11) rfl ?_); refine goesL_ (some 29) rfl rfl Try.func11 (by kernel_rfl) rfl #[.agg #[.int .i64 a0_0, .int .i64 a0_1, .int .i64 a0_2, .int .i64 a0_3], .agg #[.int .i64 a0_4, .int .i64 a0_5], .int .i64 a0_6, .int .i64 a0_7] rfl zM ?_; (with_reducible refine (tapearchiveref36_Read.calls k a0_0 a0_1 a0_2 a0_3 a0_4 a0_5 a0_6 a0_7 t297 t298 t299 t300 t301 t302 _ A4.out).mono ?_); rintro e w25 ⟨rfl, hb⟩; refine ⟨_, rfl, ?_⟩; have n0_ := Aside0.mk (blk_below (g := gb284) (o := .cells #[.int .i64 a0_0, .int .i64 a0_1, .int .i64 a0_2, .int .i64 a0_3, .int .i64 a0_4, .int .i64 a0_5, .int .i64 a0_6, .int .i64 a0_7] 27 (0, 0)) (by (with_reducible repeat (first | refine blk_drewN ?_ _ | refine blk_drew ?_ | refine blk_alloc ?_ _)); refine blk_far ?_ NB284_296.out _; (with_reducible repeat (first | refine blk_drewN ?_ _ | refine blk_drew ?_ | refine blk_alloc ?_ _)); refine blk_far ?_ NB284_296.out _; (with_reducible repeat (first | refine blk_drewN ?_ _ | refine blk_drew ?_ | refine blk_alloc ?_ _)); refine blk_far ?_ NB284_295.out _; (with_reducible repeat (first | refine blk_drewN ?_ _ | refine blk_drew ?_ | refine blk_alloc ?_ _)); refine blk_far ?_ NB284_295.out _; (with_reducible repeat (first | refine blk_drewN ?_ _ | refine blk_drew ?_ | refine blk_alloc ?_ _)); refine blk_far ?_ NB284_295.out _; (with_reducible repeat (first | refine blk_drewN ?_ _ | refine blk_drew ?_ | refine blk_alloc ?_ _)); refine blk_far ?_ NB284_295.out _; (with_reducible repeat (first | refine blk_drewN ?_ _ | refine blk_drew ?_ | refine blk_alloc ?_ _)); exact BK284.out) hb); have n1_ := Aside0.mk (blk_below (g := gb295) (o := .cells #[.int .i64 t289, .int .i64 t290, .int .i64 t291, .int .i64 t292] 28 (0, 0)) (by (with_reducible repeat (first | refine blk_drewN ?_ _ | refine blk_drew ?_ | refine blk_alloc ?_ _)); refine blk_far ?_ NB295_296.out _; (with_reducible repeat (first | refine blk_drewN ?_ _ | refine blk_drew ?_ | refine blk_alloc ?_ _)); refine blk_far ?_ NB295_296.out _; (with_reducible repeat (first | refine blk_drewN ?_ _ | refine blk_drew ?_ | refine blk_alloc ?_ _)); refine blk_put (cs := #[.int .i64 t289, .int .i64 t290, .int .i64 t291, .int .i64 0]) ?_ 3 _ rfl; (with_reducible repeat (first | refine blk_drewN ?_ _ | refine blk_drew ?_ | refine blk_alloc ?_ _)); refine blk_put (cs := #[.int .i64 t289, .int .i64 t290, .int .i64 0, .int .i64 0]) ?_ 2 _ rfl; (with_reducible repeat (first | refine blk_drewN ?_ _ | refine blk_drew ?_ | refine blk_alloc ?_ _)); refine blk_put (cs := #[.int .i64 t289, .int .i64 0, .int .i64 0, .int .i64 0]) ?_ 1 _ rfl; (with_reducible repeat (first | refine blk_drewN ?_ _ | refine blk_drew ?_ | refine blk_alloc ?_ _)); refine blk_put (cs := #[.int .i64 0, .int .i64 0, .int .i64 0, .int .i64 0]) ?_ 0 _ rfl; (with_reducible repeat (first | refine blk_drewN ?_ _ | refine blk_drew ?_ | refine blk_alloc ?_ _)); exact BK295.out) hb); have n2_ := Aside0.mk (blk_below (g := gb296) (o := .cells #[.int .i64 t293, .int .i64 t294] 25 (0, 0)) (by (with_reducible repeat (first | refine blk_drewN ?_ _ | refine blk_drew ?_ | refine blk_alloc ?_ _)); refine blk_put (cs := #[.int .i64 t293, .int .i64 0]) ?_ 1 _ rfl; (with_reducible repeat (first | refine blk_drewN ?_ _ | refine blk_drew ?_ | refine blk_alloc ?_ _)); refine blk_put (cs := #[.int .i64 0, .int .i64 0]) ?_ 0 _ rfl; (with_reducible repeat (first | refine blk_drewN ?_ _ | refine blk_drew ?_ | refine blk_alloc ?_ _)); refine blk_far ?_ NB296_295.out _; (with_reducible repeat (first | refine blk_drewN ?_ _ | refine blk_drew ?_ | refine blk_alloc ?_ _)); refine blk_far ?_ NB296_295.out _; (with_reducible repeat (first | refine blk_drewN ?_ _ | refine blk_drew ?_ | refine blk_alloc ?_ _)); refine blk_far ?_ NB296_295.out _; (with_reducible repeat (first | refine blk_drewN ?_ _ | refine blk_drew ?_ | refine blk_alloc ?_ _)); refine blk_far ?_ NB296_295.out _; (with_reducible repeat (first | refine blk_drewN ?_ _ | refine blk_drew ?_ | refine blk_alloc ?_ _)); exact BK296.out) hb); have n3_ := Aside0.mk (below_step (by repeat (first | (with_reducible first | exact HB.out | apply below_alloc | apply pw_below_drewN | apply below_drew1 | refine below_set ?_ GE284.out | refine below_set ?_ GE295.out | refine below_set ?_ GE296.out) | exact HB.out)) hb); clear BK284; clear BK295; clear BK296; clear HB; have BK284 := n0_; have BK295 := n1_; have BK296 := n2_; have HB := n3_; clear n0_ n1_ n2_ n3_; (try clear hb); (try clear hb2); (try clear hk); (try clear hi)) | ((with_reducible refine gate_dst (N := 5) rfl ?_); refine box_event ?hg (N := 5) ?hd (cs := #[.int .i64 0, .int .i64 0, .int .i64 0, .int .i64 0]) (t := 23) ?hr ?_; (case hd => rfl); (case hg => rfl); (case hr => first | (go_simp; done) | (go_simp; rfl)); intro gb303 hg w26 hbox hb; have n0_ := Aside0.mk (blk_below (g := gb284) (o := .cells #[.int .i64 a0_0, .int .i64 a0_1, .int .i64 a0_2, .int .i64 a0_3, .int .i64 a0_4, .int .i64 a0_5, .int .i64 a0_6, .int .i64 a0_7] 27 (0, 0)) (zL BK284.out) hb); have n1_ := Aside0.mk (blk_below (g := gb295) (o := .cells #[.int .i64 t289, .int .i64 t290, .int .i64 t291, .int .i64 t292] 28 (0, 0)) (zL BK295.out) hb); have n2_ := Aside0.mk (blk_below (g := gb296) (o := .cells #[.int .i64 t293, .int .i64 t294] 25 (0, 0)) (zL BK296.out) hb); have n3_ := Aside0.mk (below_step (by repeat (first | (with_reducible first | exact HB.out | apply below_alloc | apply pw_below_drewN | apply below_drew1 | refine below_set ?_ GE284.out | refine below_set ?_ GE295.out | refine below_set ?_ GE296.out) | exact HB.out)) hb); have n4_ := Aside0.mk (hbox); have n5_ := Aside0.mk ((by rw [hg]; exact (below_size (by repeat (first | (with_reducible first | exact HB.out | apply below_alloc | apply pw_below_drewN | apply below_drew1 | refine below_set ?_ GE284.out | refine below_set ?_ GE295.out | refine below_set ?_ GE296.out) | exact HB.out))) : w.heap.size ≤ gb303)); have n6_ := Aside0.mk ((by rw [hg]; exact (below_size (by repeat (first | (with_reducible first | exact HB.out | apply below_alloc | apply pw_below_drewN | apply below_drew1 | refine below_set ?_ GE284.out | refine below_set ?_ GE295.out | refine below_set ?_ GE296.out) | exact HB.out))) : w.heap.size ≤ gb303)); have n7_ := Aside0.mk ((by rw [hg]; exact Nat.ne_of_lt (blk_lt (g := gb284) (o := .cells #[.int .i64 a0_0, .int .i64 a0_1, .int .i64 a0_2, .int .i64 a0_3, .int .i64 a0_4, .int .i64 a0_5, .int .i64 a0_6, .int .i64 a0_7] 27 (0, 0)) (zL BK284.out)) : gb284 ≠ gb303)); have n8_ := Aside0.mk ((by rw [hg]; exact Nat.ne_of_gt (blk_lt (g := gb284) (o := .cells #[.int .i64 a0_0, .int .i64 a0_1, .int .i64 a0_2, .int .i64 a0_3, .int .i64 a0_4, .int .i64 a0_5, .int .i64 a0_6, .int .i64 a0_7] 27 (0, 0)) (zL BK284.out)) : gb303 ≠ gb284)); have n9_ := Aside0.mk ((by rw [hg]; exact Nat.ne_of_lt (blk_lt (g := gb295) (o := .cells #[.int .i64 t289, .int .i64 t290, .int .i64 t291, .int .i64 t292] 28 (0, 0)) (zL BK295.out)) : gb295 ≠ gb303)); have n10_ := Aside0.mk ((by rw [hg]; exact Nat.ne_of_gt (blk_lt (g := gb295) (o := .cells #[.int .i64 t289, .int .i64 t290, .int .i64 t291, .int .i64 t292] 28 (0, 0)) (zL BK295.out)) : gb303 ≠ gb295)); have n11_ := Aside0.mk ((by rw [hg]; exact Nat.ne_of_lt (blk_lt (g := gb296) (o := .cells #[.int .i64 t293, .int .i64 t294] 25 (0, 0)) (zL BK296.out)) : gb296 ≠ gb303)); have n12_ := Aside0.mk ((by rw [hg]; exact Nat.ne_of_gt (blk_lt (g := gb296) (o := .cells #[.int .i64 t293, .int .i64 t294] 25 (0, 0)) (zL BK296.out)) : gb303 ≠ gb296)); clear BK284; clear BK295; clear BK296; clear HB; have BK284 := n0_; have BK295 := n1_; have BK296 := n2_; have HB := n3_; have BK303 := n4_; have GW303 := n5_; have GE303 := n6_; have NB284_303 := n7_; have NB303_284 := n8_; have NB295_303 := n9_; have NB303_295 := n10_; have NB296_303 := n11_; have NB303_296 := n12_; clear n0_ n1_ n2_ n3_ n4_ n5_ n6_ n7_ n8_ n9_ n10_ n11_ n12_; clear hb hbox hg) | ((with_reducible refine gate_dst (N := 6) rfl ?_); refine box_event ?hg (N := 6) ?hd (cs := #[.int .i64 0, .int .i64 0]) (t := 25) ?hr ?_; (case hd => rfl); (case hg => rfl); (case hr => first | (go_simp; done) | (go_simp; rfl)); intro gb304 hg w27 hbox hb; have n0_ := Aside0.mk (blk_below (g := gb284) (o := .cells #[.int .i64 a0_0, .int .i64 a0_1, .int .i64 a0_2, .int .i64 a0_3, .int .i64 a0_4, .int .i64 a0_5, .int .i64 a0_6, .int .i64 a0_7] 27 (0, 0)) (zL BK284.out) hb); have n1_ := Aside0.mk (blk_below (g := gb295) (o := .cells #[.int .i64 t289, .int .i64 t290, .int .i64 t291, .int .i64 t292] 28 (0, 0)) (zL BK295.out) hb); have n2_ := Aside0.mk (blk_below (g := gb296) (o := .cells #[.int .i64 t293, .int .i64 t294] 25 (0, 0)) (zL BK296.out) hb); have n3_ := Aside0.mk (blk_below (g := gb303) (o := .cells #[.int .i64 0, .int .i64 0, .int .i64 0, .int .i64 0] 23 (0, 0)) (zL BK303.out) hb); have n4_ := Aside0.mk (below_step (by repeat (first | (with_reducible first | exact HB.out | apply below_alloc | apply pw_below_drewN | apply below_drew1 | refine below_set ?_ GE284.out | refine below_set ?_ GE295.out | refine below_set ?_ GE296.out | refine below_set ?_ GE303.out) | exact HB.out)) hb); have n5_ := Aside0.mk (hbox); have n6_ := Aside0.mk ((by rw [hg]; exact (below_size (by repeat (first | (with_reducible first | exact HB.out | apply below_alloc | apply pw_below_drewN | apply below_drew1 | refine below_set ?_ GE284.out | refine below_set ?_ GE295.out | refine below_set ?_ GE296.out | refine below_set ?_ GE303.out) | exact HB.out))) : w.heap.size ≤ gb304)); have n7_ := Aside0.mk ((by rw [hg]; exact (below_size (by repeat (first | (with_reducible first | exact HB.out | apply below_alloc | apply pw_below_drewN | apply below_drew1 | refine below_set ?_ GE284.out | refine below_set ?_ GE295.out | refine below_set ?_ GE296.out | refine below_set ?_ GE303.out) | exact HB.out))) : w.heap.size ≤ gb304)); have n8_ := Aside0.mk ((by rw [hg]; exact Nat.ne_of_lt (blk_lt (g := gb284) (o := .cells #[.int .i64 a0_0, .int .i64 a0_1, .int .i64 a0_2, .int .i64 a0_3, .int .i64 a0_4, .int .i64 a0_5, .int .i64 a0_6, .int .i64 a0_7] 27 (0, 0)) (zL BK284.out)) : gb284 ≠ gb304)); have n9_ := Aside0.mk ((by rw [hg]; exact Nat.ne_of_gt (blk_lt (g := gb284) (o := .cells #[.int .i64 a0_0, .int .i64 a0_1, .int .i64 a0_2, .int .i64 a0_3, .int .i64 a0_4, .int .i64 a0_5, .int .i64 a0_6, .int .i64 a0_7] 27 (0, 0)) (zL BK284.out)) : gb304 ≠ gb284)); have n10_ := Aside0.mk ((by rw [hg]; exact Nat.ne_of_lt (blk_lt (g := gb295) (o := .cells #[.int .i64 t289, .int .i64 t290, .int .i64 t291, .int .i64 t292] 28 (0, 0)) (zL BK295.out)) : gb295 ≠ gb304)); have n11_ := Aside0.mk ((by rw [hg]; exact Nat.ne_of_gt (blk_lt (g := gb295) (o := .cells #[.int .i64 t289, .int .i64 t290, .int .i64 t291, .int .i64 t292] 28 (0, 0)) (zL BK295.out)) : gb304 ≠ gb295)); have n12_ := Aside0.mk ((by rw [hg]; exact Nat.ne_of_lt (blk_lt (g := gb296) (o := .cells #[.int .i64 t293, .int .i64 t294] 25 (0, 0)) (zL BK296.out)) : gb296 ≠ gb304)); have n13_ := Aside0.mk ((by rw [hg]; exact Nat.ne_of_gt (blk_lt (g := gb296) (o := .cells #[.int .i64 t293, .int .i64 t294] 25 (0, 0)) (zL BK296.out)) : gb304 ≠ gb296)); have n14_ := Aside0.mk ((by rw [hg]; exact Nat.ne_of_lt (blk_lt (g := gb303) (o := .cells #[.int .i64 0, .int .i64 0, .int .i64 0, .int .i64 0] 23 (0, 0)) (zL BK303.out)) : gb303 ≠ gb304)); have n15_ := Aside0.mk ((by rw [hg]; exact Nat.ne_of_gt (blk_lt (g := gb303) (o := .cells #[.int .i64 0, .int .i64 0, .int .i64 0, .int .i64 0] 23 (0, 0)) (zL BK303.out)) : gb304 ≠ gb303)); clear BK284; clear BK295; clear BK296; clear BK303; clear HB; have BK284 := n0_; have BK295 := n1_; have BK296 := n2_; have BK303 := n3_; have HB := n4_; have BK304 := n5_; have GW304 := n6_; have GE304 := n7_; have NB284_304 := n8_; have NB304_284 := n9_; have NB295_304 := n10_; have NB304_295 := n11_; have NB296_304 := n12_; have NB304_296 := n13_; have NB303_304 := n14_; have NB304_303 := n15_; clear n0_ n1_ n2_ n3_ n4_ n5_ n6_ n7_ n8_ n9_ n10_ n11_ n12_ n13_ n14_ n15_; clear hb hbox hg; have hnb28 := NB303_284.out; have hnc28 := NB284_303.out; have hnb29 := NB303_295.out; have hnc29 := NB295_303.out; have hnb30 := NB303_296.out; have hnc30 := NB296_303.out; have hnb31 := NB303_304.out; have hnc31 := NB304_303.out; have hcz32_0 : w27.cell? ⟨gb303, 0, none⟩ = some (.int .i64 0) := (blk_cell BK303.out 0).trans rfl; have hcz32_1 : w27.cell? ⟨gb303, 1, none⟩ = some (.int .i64 0) := (blk_cell BK303.out 1).trans rfl; have hcz32_2 : w27.cell? ⟨gb303, 2, none⟩ = some (.int .i64 0) := (blk_cell BK303.out 2).trans rfl; have hcz32_3 : w27.cell? ⟨gb303, 3, none⟩ = some (.int .i64 0) := (blk_cell BK303.out 3).trans rfl; have hfz32_0 := blk_frozen BK303.out 0; have hfz32_1 := blk_frozen BK303.out 1; have hfz32_2 := blk_frozen BK303.out 2; have hfz32_3 := blk_frozen BK303.out 3; have hnb33 := NB304_284.out; have hnc33 := NB284_304.out; have hnb34 := NB304_295.out; have hnc34 := NB295_304.out; have hnb35 := NB304_296.out; have hnc35 := NB296_304.out; have hcz36_0 : w27.cell? ⟨gb304, 0, none⟩ = some (.int .i64 0) := (blk_cell BK304.out 0).trans rfl; have hcz36_1 : w27.cell? ⟨gb304, 1, none⟩ = some (.int .i64 0) := (blk_cell BK304.out 1).trans rfl; have hfz36_0 := blk_frozen BK304.out 0; have hfz36_1 := blk_frozen BK304.out 1))
   have n0_ : Aside0 (((((((w27.setCell ⟨gb303, 0, none⟩ (.int .i64 t297)).setCell ⟨gb303, 1, none⟩ (.int .i64 t298)).setCell ⟨gb303, 2, none⟩ (.int .i64 t299)).setCell ⟨gb303, 3, none⟩ (.int .i64 t300)).setCell ⟨gb304, 0, none⟩ (.int .i64 t301)).setCell ⟨gb304, 1, none⟩ (.int .i64 t302)).heap[gb284]? = some (.cells #[.int .i64 a0_0, .int .i64 a0_1, .int .i64 a0_2, .int .i64 a0_3, .int .i64 a0_4, .int .i64 a0_5, .int .i64 a0_6, .int .i64 a0_7] 27 (0, 0))) := ⟨by (with_reducible repeat (first | refine blk_drewN ?_ _ | refine blk_drew ?_ | refine blk_alloc ?_ _)); refine blk_far ?_ NB284_304.out _; (with_reducible repeat (first | refine blk_drewN ?_ _ | refine blk_drew ?_ | refine blk_alloc ?_ _)); refine blk_far ?_ NB284_304.out _; (with_reducible repeat (first | refine blk_drewN ?_ _ | refine blk_drew ?_ | refine blk_alloc ?_ _)); refine blk_far ?_ NB284_303.out _; (with_reducible repeat (first | refine blk_drewN ?_ _ | refine blk_drew ?_ | refine blk_alloc ?_ _)); refine blk_far ?_ NB284_303.out _; (with_reducible repeat (first | refine blk_drewN ?_ _ | refine blk_drew ?_ | refine blk_alloc ?_ _)); refine blk_far ?_ NB284_303.out _; (with_reducible repeat (first | refine blk_drewN ?_ _ | refine blk_drew ?_ | refine blk_alloc ?_ _)); refine blk_far ?_ NB284_303.out _; (with_reducible repeat (first | refine blk_drewN ?_ _ | refine blk_drew ?_ | refine blk_alloc ?_ _)); exact BK284.out⟩
   have n1_ : Aside0 (((((((w27.setCell ⟨gb303, 0, none⟩ (.int .i64 t297)).setCell ⟨gb303, 1, none⟩ (.int .i64 t298)).setCell ⟨gb303, 2, none⟩ (.int .i64 t299)).setCell ⟨gb303, 3, none⟩ (.int .i64 t300)).setCell ⟨gb304, 0, none⟩ (.int .i64 t301)).setCell ⟨gb304, 1, none⟩ (.int .i64 t302)).heap[gb295]? = some (.cells #[.int .i64 t289, .int .i64 t290, .int .i64 t291, .int .i64 t292] 28 (0, 0))) := ⟨by (with_reducible repeat (first | refine blk_drewN ?_ _ | refine blk_drew ?_ | refine blk_alloc ?_ _)); refine blk_far ?_ NB295_304.out _; (with_reducible repeat (first | refine blk_drewN ?_ _ | refine blk_drew ?_ | refine blk_alloc ?_ _)); refine blk_far ?_ NB295_304.out _; (with_reducible repeat (first | refine blk_drewN ?_ _ | refine blk_drew ?_ | refine blk_alloc ?_ _)); refine blk_far ?_ NB295_303.out _; (with_reducible repeat (first | refine blk_drewN ?_ _ | refine blk_drew ?_ | refine blk_alloc ?_ _)); refine blk_far ?_ NB295_303.out _; (with_reducible repeat (first | refine blk_drewN ?_ _ | refine blk_drew ?_ | refine blk_alloc ?_ _)); refine blk_far ?_ NB295_303.out _; (with_reducible repeat (first | refine blk_drewN ?_ _ | refine blk_drew ?_ | refine blk_alloc ?_ _)); refine blk_far ?_ NB295_303.out _; (with_reducible repeat (first | refine blk_drewN ?_ _ | refine blk_drew ?_ | refine blk_alloc ?_ _)); exact BK295.out⟩
   have n2_ : Aside0 (((((((w27.setCell ⟨gb303, 0, none⟩ (.int .i64 t297)).setCell ⟨gb303, 1, none⟩ (.int .i64 t298)).setCell ⟨gb303, 2, none⟩ (.int .i64 t299)).setCell ⟨gb303, 3, none⟩ (.int .i64 t300)).setCell ⟨gb304, 0, none⟩ (.int .i64 t301)).setCell ⟨gb304, 1, none⟩ (.int .i64 t302)).heap[gb296]? = some (.cells #[.int .i64 t293, .int .i64 t294] 25 (0, 0))) := ⟨by (with_reducible repeat (first | refine blk_drewN ?_ _ | refine blk_drew ?_ | refine blk_alloc ?_ _)); refine blk_far ?_ NB296_304.out _; (with_reducible repeat (first | refine blk_drewN ?_ _ | refine blk_drew ?_ | refine blk_alloc ?_ _)); refine blk_far ?_ NB296_304.out _; (with_reducible repeat (first | refine blk_drewN ?_ _ | refine blk_drew ?_ | refine blk_alloc ?_ _)); refine blk_far ?_ NB296_303.out _; (with_reducible repeat (first | refine blk_drewN ?_ _ | refine blk_drew ?_ | refine blk_alloc ?_ _)); refine blk_far ?_ NB296_303.out _; (with_reducible repeat (first | refine blk_drewN ?_ _ | refine blk_drew ?_ | refine blk_alloc ?_ _)); refine blk_far ?_ NB296_303.out _; (with_reducible repeat (first | refine blk_drewN ?_ _ | refine blk_drew ?_ | refine blk_alloc ?_ _)); refine blk_far ?_ NB296_303.out _; (with_reducible repeat (first | refine blk_drewN ?_ _ | refine blk_drew ?_ | refine blk_alloc ?_ _)); exact BK296.out⟩
   have n3_ : Aside0 (((((((w27.setCell ⟨gb303, 0, none⟩ (.int .i64 t297)).setCell ⟨gb303, 1, none⟩ (.int .i64 t298)).setCell ⟨gb303, 2, none⟩ (.int .i64 t299)).setCell ⟨gb303, 3, none⟩ (.int .i64 t300)).setCell ⟨gb304, 0, none⟩ (.int .i64 t301)).setCell ⟨gb304, 1, none⟩ (.int .i64 t302)).heap[gb303]? = some (.cells #[.int .i64 t297, .int .i64 t298, .int .i64 t299, .int .i64 t300] 23 (0, 0))) := ⟨by (with_reducible repeat (first | refine blk_drewN ?_ _ | refine blk_drew ?_ | refine blk_alloc ?_ _)); refine blk_far ?_ NB303_304.out _; (with_reducible repeat (first | refine blk_drewN ?_ _ | refine blk_drew ?_ | refine blk_alloc ?_ _)); refine blk_far ?_ NB303_304.out _; (with_reducible repeat (first | refine blk_drewN ?_ _ | refine blk_drew ?_ | refine blk_alloc ?_ _)); refine blk_put (cs := #[.int .i64 t297, .int .i64 t298, .int .i64 t299, .int .i64 0]) ?_ 3 _ rfl; (with_reducible repeat (first | refine blk_drewN ?_ _ | refine blk_drew ?_ | refine blk_alloc ?_ _)); refine blk_put (cs := #[.int .i64 t297, .int .i64 t298, .int .i64 0, .int .i64 0]) ?_ 2 _ rfl; (with_reducible repeat (first | refine blk_drewN ?_ _ | refine blk_drew ?_ | refine blk_alloc ?_ _)); refine blk_put (cs := #[.int .i64 t297, .int .i64 0, .int .i64 0, .int .i64 0]) ?_ 1 _ rfl; (with_reducible repeat (first | refine blk_drewN ?_ _ | refine blk_drew ?_ | refine blk_alloc ?_ _)); refine blk_put (cs := #[.int .i64 0, .int .i64 0, .int .i64 0, .int .i64 0]) ?_ 0 _ rfl; (with_reducible repeat (first | refine blk_drewN ?_ _ | refine blk_drew ?_ | refine blk_alloc ?_ _)); exact BK303.out⟩
   have n4_ : Aside0 (((((((w27.setCell ⟨gb303, 0, none⟩ (.int .i64 t297)).setCell ⟨gb303, 1, none⟩ (.int .i64 t298)).setCell ⟨gb303, 2, none⟩ (.int .i64 t299)).setCell ⟨gb303, 3, none⟩ (.int .i64 t300)).setCell ⟨gb304, 0, none⟩ (.int .i64 t301)).setCell ⟨gb304, 1, none⟩ (.int .i64 t302)).heap[gb304]? = some (.cells #[.int .i64 t301, .int .i64 t302] 25 (0, 0))) := ⟨by (with_reducible repeat (first | refine blk_drewN ?_ _ | refine blk_drew ?_ | refine blk_alloc ?_ _)); refine blk_put (cs := #[.int .i64 t301, .int .i64 0]) ?_ 1 _ rfl; (with_reducible repeat (first | refine blk_drewN ?_ _ | refine blk_drew ?_ | refine blk_alloc ?_ _)); refine blk_put (cs := #[.int .i64 0, .int .i64 0]) ?_ 0 _ rfl; (with_reducible repeat (first | refine blk_drewN ?_ _ | refine blk_drew ?_ | refine blk_alloc ?_ _)); refine blk_far ?_ NB304_303.out _; (with_reducible repeat (first | refine blk_drewN ?_ _ | refine blk_drew ?_ | refine blk_alloc ?_ _)); refine blk_far ?_ NB304_303.out _; (with_reducible repeat (first | refine blk_drewN ?_ _ | refine blk_drew ?_ | refine blk_alloc ?_ _)); refine blk_far ?_ NB304_303.out _; (with_reducible repeat (first | refine blk_drewN ?_ _ | refine blk_drew ?_ | refine blk_alloc ?_ _)); refine blk_far ?_ NB304_303.out _; (with_reducible repeat (first | refine blk_drewN ?_ _ | refine blk_drew ?_ | refine blk_alloc ?_ _)); exact BK304.out⟩
   have n5_ : Aside0 (Below w.heap.size w ((((((w27.setCell ⟨gb303, 0, none⟩ (.int .i64 t297)).setCell ⟨gb303, 1, none⟩ (.int .i64 t298)).setCell ⟨gb303, 2, none⟩ (.int .i64 t299)).setCell ⟨gb303, 3, none⟩ (.int .i64 t300)).setCell ⟨gb304, 0, none⟩ (.int .i64 t301)).setCell ⟨gb304, 1, none⟩ (.int .i64 t302))) := ⟨by repeat (first | (with_reducible first | exact HB.out | apply below_alloc | apply pw_below_drewN | apply below_drew1 | refine below_set ?_ GE284.out | refine below_set ?_ GE295.out | refine below_set ?_ GE296.out | refine below_set ?_ GE303.out | refine below_set ?_ GE304.out) | exact HB.out)⟩
   (try clear BK284)
   (try clear BK295)
   (try clear BK296)
   (try clear BK303)
   (try clear BK304)
   (try clear HB)
   generalize ((((((w27.setCell ⟨gb303, 0, none⟩ (.int .i64 t297)).setCell ⟨gb303, 1, none⟩ (.int .i64 t298)).setCell ⟨gb303, 2, none⟩ (.int .i64 t299)).setCell ⟨gb303, 3, none⟩ (.int .i64 t300)).setCell ⟨gb304, 0, none⟩ (.int .i64 t301)).setCell ⟨gb304, 1, none⟩ (.int .i64 t302)) = w37 at n0_ n1_ n2_ n3_ n4_ n5_ ⊢
   have BK284 := n0_
   have BK295 := n1_
   have BK296 := n2_
   have BK303 := n3_
   have BK304 := n4_
   have HB := n5_
   clear n0_ n1_ n2_ n3_ n4_ n5_
   have n0_ := Aside0.mk (blk_drew BK284.out)
   have n1_ := Aside0.mk (blk_drew BK295.out)
   have n2_ := Aside0.mk (blk_drew BK296.out)
   have n3_ := Aside0.mk (blk_drew BK303.out)
   have n4_ := Aside0.mk (blk_drew BK304.out)
   have n5_ := Aside0.mk (below_drew1 HB.out)
   clear BK284
   clear BK295
   clear BK296
   clear BK303
   clear BK304
   clear HB
   have BK284 := n0_
   have BK295 := n1_
   have BK296 := n2_
   have BK303 := n3_
   have BK304 := n4_
   have HB := n5_
   clear n0_ n1_ n2_ n3_ n4_ n5_
   refine start_ (n := 13) (S := fun w' => w'.cell? ⟨gb295, 0, none⟩ = some (.int .i64 t289) ∧ w'.cell? ⟨gb295, 1, none⟩ = some (.int .i64 t290) ∧ w'.cell? ⟨gb295, 2, none⟩ = some (.int .i64 t291) ∧ w'.cell? ⟨gb295, 3, none⟩ = some (.int .i64 t292) ∧ w'.cell? ⟨gb303, 0, none⟩ = some (.int .i64 t297) ∧ w'.cell? ⟨gb303, 1, none⟩ = some (.int .i64 t298) ∧ w'.cell? ⟨gb303, 2, none⟩ = some (.int .i64 t299) ∧ w'.cell? ⟨gb303, 3, none⟩ = some (.int .i64 t300) ∧ w'.cell? ⟨gb296, 0, none⟩ = some (.int .i64 t293) ∧ w'.cell? ⟨gb296, 1, none⟩ = some (.int .i64 t294) ∧ w'.cell? ⟨gb304, 0, none⟩ = some (.int .i64 t301) ∧ w'.cell? ⟨gb304, 1, none⟩ = some (.int .i64 t302)) (ds := []) #[false, false, false, false, false, false, false, false, false, false, false, false, false] (by kernel_rfl) rfl rfl ⟨(blk_cell BK295.out 0).trans rfl, (blk_cell BK295.out 1).trans rfl, (blk_cell BK295.out 2).trans rfl, (blk_cell BK295.out 3).trans rfl, (blk_cell BK303.out 0).trans rfl, (blk_cell BK303.out 1).trans rfl, (blk_cell BK303.out 2).trans rfl, (blk_cell BK303.out 3).trans rfl, (blk_cell BK296.out 0).trans rfl, (blk_cell BK296.out 1).trans rfl, (blk_cell BK304.out 0).trans rfl, (blk_cell BK304.out 1).trans rfl⟩ (fun hHeld => ?_); refine with_tabW tapearchivelaw36_PrefetchReads.tab3 tapearchivelaw36_PrefetchReads.bits3 (fun HT_ HW_ => ?_)
   generalize w37.drew = w38 at BK284 BK295 BK296 BK303 BK304 HB hHeld ⊢
   refine take_ (i := 0) (N := some 32) (v := ?_) (a' := ?_) #[true, false, false, false, false, false, false, false, false, false, false, false, false] rfl rfl (take_ofW HT_.out HW_.out (by kernel_rfl)) (fun _ _ _ h => h) (Or.inl ⟨by rfl, ?_⟩) hHeld ?_ ?_
   rotate_left
   ·rintro w' ⟨s0, s1, s2, s3, s4, s5, s6, s7, s8, s9, s10, s11⟩
    go_simp
    with_reducible rfl
   rotate_left
   ·exact zP i64_w i32_w
   refine take_ (i := 1) (N := some 33) (v := ?_) (a' := ?_) #[true, true, false, false, false, false, false, false, false, false, false, false, false] rfl rfl (take_ofW HT_.out HW_.out (by kernel_rfl)) (fun _ _ _ h => h) (Or.inl ⟨by rfl, ?_⟩) hHeld ?_ ?_
   rotate_left
   ·rintro w' ⟨s0, s1, s2, s3, s4, s5, s6, s7, s8, s9, s10, s11⟩
    go_simp
    with_reducible rfl
   rotate_left
   ·exact zP i64_w i32_w
   refine one_ (i := 2) (N := some 34) #[true, true, true, false, false, false, false, false, false, false, false, false, false] rfl rfl (one_of HT_.out (by kernel_rfl)) (by decide) (fun K hK => ?_)
   refine goes_ Try.func10 (by kernel_rfl) rfl #[.agg #[.int .i64 t297, .int .i64 t298, .int .i64 t299, .int .i64 t300]] (by rfl) rfl rfl zM ?_
   with_reducible refine (tapearchivelaw36_stream.calls t297 t298 t299 t300 t305 t306 t307 t308 _ A5.out).mono ?_
   rintro e w39 ⟨rfl, hb⟩
   refine ⟨_, rfl, ?_⟩
   have n0_ := Aside0.mk (blk_below (g := gb284) (o := .cells #[.int .i64 a0_0, .int .i64 a0_1, .int .i64 a0_2, .int .i64 a0_3, .int .i64 a0_4, .int .i64 a0_5, .int .i64 a0_6, .int .i64 a0_7] 27 (0, 0)) (zL BK284.out) hb)
   have n1_ := Aside0.mk (blk_below (g := gb295) (o := .cells #[.int .i64 t289, .int .i64 t290, .int .i64 t291, .int .i64 t292] 28 (0, 0)) (zL BK295.out) hb)
   have n2_ := Aside0.mk (blk_below (g := gb296) (o := .cells #[.int .i64 t293, .int .i64 t294] 25 (0, 0)) (zL BK296.out) hb)
   have n3_ := Aside0.mk (blk_below (g := gb303) (o := .cells #[.int .i64 t297, .int .i64 t298, .int .i64 t299, .int .i64 t300] 23 (0, 0)) (zL BK303.out) hb)
   have n4_ := Aside0.mk (blk_below (g := gb304) (o := .cells #[.int .i64 t301, .int .i64 t302] 25 (0, 0)) (zL BK304.out) hb)
   have n5_ := Aside0.mk (below_step (by repeat (first | (with_reducible first | exact HB.out | apply below_alloc | apply pw_below_drewN | apply below_drew1 | refine below_set ?_ GE284.out | refine below_set ?_ GE295.out | refine below_set ?_ GE296.out | refine below_set ?_ GE303.out | refine below_set ?_ GE304.out) | exact HB.out)) hb)
   clear BK284
   clear BK295
   clear BK296
   clear BK303
   clear BK304
   clear HB
   have BK284 := n0_
   have BK295 := n1_
   have BK296 := n2_
   have BK303 := n3_
   have BK304 := n4_
   have HB := n5_
   clear n0_ n1_ n2_ n3_ n4_ n5_
   (try clear hb)
   (try clear hb2)
   (try clear hk)
   (try clear hi)
   refine hK.out _ _ ⟨(blk_cell BK295.out 0).trans rfl, (blk_cell BK295.out 1).trans rfl, (blk_cell BK295.out 2).trans rfl, (blk_cell BK295.out 3).trans rfl, (blk_cell BK303.out 0).trans rfl, (blk_cell BK303.out 1).trans rfl, (blk_cell BK303.out 2).trans rfl, (blk_cell BK303.out 3).trans rfl, (blk_cell BK296.out 0).trans rfl, (blk_cell BK296.out 1).trans rfl, (blk_cell BK304.out 0).trans rfl, (blk_cell BK304.out 1).trans rfl⟩ (fun hHeld => ?_)
   clear hK K
   refine norm_ (a' := ?_) ?_ ?_
   rotate_left
   ·show Act.put _ (some 34) _ = _
    simp only [Act.put, List.setIfInBounds_toArray, List.set_cons_zero, List.set_cons_succ, i64_w, i32_w]
    rfl
   refine pure_ (i := 3) (N := some 35) (v := ?_) (a' := ?_) #[true, true, true, true, false, false, false, false, false, false, false, false, false] rfl rfl (any_of HT_.out (by kernel_rfl)) (fun _ _ _ h => h) (Or.inl ⟨by rfl, ?_⟩) ?_ ?_
   rotate_left
   ·intro w'
    go_simp
    with_reducible rfl
   rotate_left
   ·exact zP i64_w i32_w
   refine pure_ (i := 4) (N := some 36) (v := ?_) (a' := ?_) #[true, true, true, true, true, false, false, false, false, false, false, false, false] rfl rfl (any_of HT_.out (by kernel_rfl)) (fun _ _ _ h => h) (Or.inl ⟨by rfl, ?_⟩) ?_ ?_
   rotate_left
   ·intro w'
    go_simp
    with_reducible rfl
   rotate_left
   ·exact zP i64_w i32_w
   refine take_ (i := 5) (N := some 37) (v := ?_) (a' := ?_) #[true, true, true, true, true, true, false, false, false, false, false, false, false] rfl rfl (take_ofW HT_.out HW_.out (by kernel_rfl)) (fun _ _ _ h => h) (Or.inl ⟨by rfl, ?_⟩) hHeld ?_ ?_
   rotate_left
   ·rintro w' ⟨s0, s1, s2, s3, s4, s5, s6, s7, s8, s9, s10, s11⟩
    go_simp
    with_reducible rfl
   rotate_left
   ·exact zP i64_w i32_w
   refine take_ (i := 6) (N := some 38) (v := ?_) (a' := ?_) #[true, true, true, true, true, true, true, false, false, false, false, false, false] rfl rfl (take_ofW HT_.out HW_.out (by kernel_rfl)) (fun _ _ _ h => h) (Or.inl ⟨by rfl, ?_⟩) hHeld ?_ ?_
   rotate_left
   ·rintro w' ⟨s0, s1, s2, s3, s4, s5, s6, s7, s8, s9, s10, s11⟩
    go_simp
    with_reducible rfl
   rotate_left
   ·exact zP i64_w i32_w
   refine pure_ (i := 7) (N := some 39) (v := ?_) (a' := ?_) #[true, true, true, true, true, true, true, true, false, false, false, false, false] rfl rfl (any_of HT_.out (by kernel_rfl)) (fun _ _ _ h => h) (Or.inl ⟨by rfl, ?_⟩) ?_ ?_
   rotate_left
   ·intro w'
    go_simp
    with_reducible rfl
   rotate_left
   ·exact zP i64_w i32_w
   refine pure_ (i := 8) (N := some 40) (v := ?_) (a' := ?_) #[true, true, true, true, true, true, true, true, true, false, false, false, false] rfl rfl (any_of HT_.out (by kernel_rfl)) (fun _ _ _ h => h) (Or.inl ⟨by rfl, ?_⟩) ?_ ?_
   rotate_left
   ·intro w'
    go_simp
    with_reducible rfl
   rotate_left
   ·exact zP i64_w i32_w
   refine pure_ (i := 9) (N := some 41) (v := ?_) (a' := ?_) #[true, true, true, true, true, true, true, true, true, true, false, false, false] rfl rfl (any_of HT_.out (by kernel_rfl)) (fun _ _ _ h => h) (Or.inl ⟨by rfl, ?_⟩) ?_ ?_
   rotate_left
   ·intro w'
    go_simp
    with_reducible rfl
   rotate_left
   ·exact zP i64_w i32_w
   refine one_ (i := 10) (N := some 42) #[true, true, true, true, true, true, true, true, true, true, true, false, false] rfl rfl (one_of HT_.out (by kernel_rfl)) (by decide) (fun K hK => ?_)
   refine goes_ Try.func12 (by kernel_rfl) rfl #[] (by rfl) rfl rfl zM ?_
   with_reducible refine (tapearchivelaw36_awake_s.calls  t309 _ A8.out).mono ?_
   rintro e w40 ⟨rfl, hb⟩
   refine ⟨_, rfl, ?_⟩
   have n0_ := Aside0.mk (blk_below (g := gb284) (o := .cells #[.int .i64 a0_0, .int .i64 a0_1, .int .i64 a0_2, .int .i64 a0_3, .int .i64 a0_4, .int .i64 a0_5, .int .i64 a0_6, .int .i64 a0_7] 27 (0, 0)) (zL BK284.out) hb)
   have n1_ := Aside0.mk (blk_below (g := gb295) (o := .cells #[.int .i64 t289, .int .i64 t290, .int .i64 t291, .int .i64 t292] 28 (0, 0)) (zL BK295.out) hb)
   have n2_ := Aside0.mk (blk_below (g := gb296) (o := .cells #[.int .i64 t293, .int .i64 t294] 25 (0, 0)) (zL BK296.out) hb)
   have n3_ := Aside0.mk (blk_below (g := gb303) (o := .cells #[.int .i64 t297, .int .i64 t298, .int .i64 t299, .int .i64 t300] 23 (0, 0)) (zL BK303.out) hb)
   have n4_ := Aside0.mk (blk_below (g := gb304) (o := .cells #[.int .i64 t301, .int .i64 t302] 25 (0, 0)) (zL BK304.out) hb)
   have n5_ := Aside0.mk (below_step (by repeat (first | (with_reducible first | exact HB.out | apply below_alloc | apply pw_below_drewN | apply below_drew1 | refine below_set ?_ GE284.out | refine below_set ?_ GE295.out | refine below_set ?_ GE296.out | refine below_set ?_ GE303.out | refine below_set ?_ GE304.out) | exact HB.out)) hb)
   clear BK284
   clear BK295
   clear BK296
   clear BK303
   clear BK304
   clear HB
   have BK284 := n0_
   have BK295 := n1_
   have BK296 := n2_
   have BK303 := n3_
   have BK304 := n4_
   have HB := n5_
   clear n0_ n1_ n2_ n3_ n4_ n5_
   (try clear hb)
   (try clear hb2)
   (try clear hk)
   (try clear hi)
   refine hK.out _ _ ⟨(blk_cell BK295.out 0).trans rfl, (blk_cell BK295.out 1).trans rfl, (blk_cell BK295.out 2).trans rfl, (blk_cell BK295.out 3).trans rfl, (blk_cell BK303.out 0).trans rfl, (blk_cell BK303.out 1).trans rfl, (blk_cell BK303.out 2).trans rfl, (blk_cell BK303.out 3).trans rfl, (blk_cell BK296.out 0).trans rfl, (blk_cell BK296.out 1).trans rfl, (blk_cell BK304.out 0).trans rfl, (blk_cell BK304.out 1).trans rfl⟩ (fun hHeld => ?_)
   clear hK K
   refine norm_ (a' := ?_) ?_ ?_
   rotate_left
   ·show Act.put _ (some 42) _ = _
    simp only [Act.put, List.setIfInBounds_toArray, List.set_cons_zero, List.set_cons_succ, i64_w, i32_w]
    rfl
   refine pure_ (i := 11) (N := some 43) (v := ?_) (a' := ?_) #[true, true, true, true, true, true, true, true, true, true, true, true, false] rfl rfl (any_of HT_.out (by kernel_rfl)) (fun _ _ _ h => h) (Or.inl ⟨by rfl, ?_⟩) ?_ ?_
   rotate_left
   ·intro w'
    go_simp
    with_reducible rfl
   rotate_left
   ·exact zP i64_w i32_w
   refine pure_ (i := 12) (N := some 2) (v := ?_) (a' := ?_) #[true, true, true, true, true, true, true, true, true, true, true, true, true] rfl rfl (any_of HT_.out (by kernel_rfl)) (fun _ _ _ h => h) (Or.inl ⟨by rfl, ?_⟩) ?_ ?_
   rotate_left
   ·intro w'
    go_simp
    with_reducible rfl
   rotate_left
   ·exact zP i64_w i32_w
   refine done_ (done_of HT_.out (by kernel_rfl)) ?_
   try go_wp2
   go_ret
   exact ⟨by first | rfl | (simp [errW_none, errW_some] <;> rfl) | (simp [*, errW_none, errW_some] <;> rfl), by repeat (first | (with_reducible first | exact HB.out | apply below_alloc | apply pw_below_drewN | apply below_drew1 | refine below_set ?_ GE284.out | refine below_set ?_ GE295.out | refine below_set ?_ GE296.out | refine below_set ?_ GE303.out | refine below_set ?_ GE304.out) | exact HB.out)⟩
  ·rw [if_neg c7] at H
   have c7b0 : (t293 == t301 && (t294 == t302)) = false := by simpa using c7
   (try (have c7b1 : decide (t293 = t301 && (t294 == t302)) = false := by simpa using c7))
   (try (have c7b2 : (t293 == t301 && (t294 == t302)) = false := by simpa using c7))
   (try (have c7b3 : ¬ (t293 = t301 && (t294 == t302)) := by simpa using c7))
   clear c7
   exact absurd (Option.some.inj H) (by rw [ht_.out]; simp)
 ·rw [if_neg c6] at H
  have c6b0 : (t289 == t305 && (t290 == t306 && (t291 == t307 && (t292 == t308)))) = false := by simpa using c6
  (try (have c6b1 : decide (t289 = t305 && (t290 == t306 && (t291 == t307 && (t292 == t308)))) = false := by simpa using c6))
  (try (have c6b2 : (t289 == t305 && (t290 == t306 && (t291 == t307 && (t292 == t308)))) = false := by simpa using c6))
  (try (have c6b3 : ¬ (t289 = t305 && (t290 == t306 && (t291 == t307 && (t292 == t308)))) := by simpa using c6))
  clear c6
  exact absurd (Option.some.inj H) (by rw [ht_.out]; simp)

end
end Go.Proofs.Ytapbmkcncjkanaa.P
