-- Written by this session's wip/tools/px.py out of the translation. Lean checks it.
import Derived.Test.YtapbmkcncjkanaaP0
import Derived.Test.YtapbmkcncjkanaaP13
import Derived.Test.YtapbmkcncjkanaaExtI
namespace Go.Proofs.Ytapbmkcncjkanaa.P
noncomputable section
open Go.RowKit Go.Proofs.YtapbmkcncjkanaaW.PrintWords Go.Proofs.YtapbmkcncjkanaaW.PrintLast Go.Proofs.YtapbmkcncjkanaaW.PrintMore
attribute [local go_sem] max2_int min2_int max_two min_two max_three min_three max_four min_four   -- for this text's walks alone
set_option linter.unusedVariables false
set_option linter.unusedSimpArgs false

/-! ### r34_edges: function 43 -/
def r34_edges.l0 : Nat → List (S25) → List Int → Int → Option (List Int)
 | 0, _, _, _ => none
 | k + 1, x0, x3, x4 => if x4 < (x0.length : Int) then (if 0 ≤ x4 then ((r34_has.f ((rd_T25 x0 x4).f0) ((rd_T25 x0 x4).f1)).bind fun t376 => (if t376 = true then ((r34_insert.f x3 ((rd_T25 x0 x4).f0)).bind fun t378 => ((r34_insert.f t378 (wrap64 (((rd_T25 x0 x4).f0) + ((rd_T25 x0 x4).f1)))).bind fun t383 => (r34_edges.l0 k x0 t383 (wrap64 (x4 + 1))))) else (r34_edges.l0 k x0 x3 (wrap64 (x4 + 1))))) else (none)) else (some x3)
def r34_edges.f (k : Nat) (l0 : List (S25)) : Option (List Int) := r34_edges.l0 k l0 (([] : List Int)) 0
theorem r34_edges.mono_l : ∀ k, (∀ y0 y1 y2, LeO (r34_edges.l0 k y0 y1 y2) (r34_edges.l0 (k + 1) y0 y1 y2))
 | 0 => fun _ _ _ r h => by simp [r34_edges.l0] at h
 | k + 1 => by
  have ih0 := r34_edges.mono_l k
  ·intro y0 y1 y2
   unfold r34_edges.l0
   repeat' first
   | (with_reducible exact ih0 _ _ _)
   | (with_reducible exact LeO.refl _)
   | (with_reducible exact LeO.none _)
   | (with_reducible refine LeO.ite ?_ ?_)
   | (with_reducible refine LeO.bind ?_ (fun _ => ?_))
   | exact ih0 _ _ _
   | exact LeO.none _
   | refine LeO.ite ?_ ?_
   | refine LeO.bind ?_ (fun _ => ?_)
theorem r34_edges.mono : ∀ a0 k, LeO (r34_edges.f k a0) (r34_edges.f (k + 1) a0) := by
 intro a0 k
 have ih0 := r34_edges.mono_l k
 unfold r34_edges.f
 repeat' first
   | (with_reducible exact ih0 _ _ _)
   | (with_reducible exact LeO.refl _)
   | (with_reducible exact LeO.none _)
   | (with_reducible refine LeO.ite ?_ ?_)
   | (with_reducible refine LeO.bind ?_ (fun _ => ?_))
   | exact ih0 _ _ _
   | exact LeO.none _
   | refine LeO.ite ?_ ?_
   | refine LeO.bind ?_ (fun _ => ?_)
def r34_edges.T6 : Bool × List (List Nat × List Nat) := (true, [([], []), ([], []), ([], []), ([1, 2], [1, 2]), ([3], [3]), ([4], [4]), ([0, 5], [0, 5]), ([], []), ([], []), ([7, 8], [7, 8]), ([9], [9]), ([10], [10]), ([], []), ([], []), ([12, 13], [12, 13]), ([14], [14]), ([15], [15]), ([11, 16], [11, 16]), ([6, 17, 6], [6, 17]), ([18, 18, 0, 1, 2, 3, 4, 5, 6, 7, 8, 9, 10, 11, 12, 13, 14, 15, 16, 17, 18], [0, 18])])
def r34_edges.B6 : List Nat := [0, 0, 0, 6, 14, 30, 63, 0, 0, 384, 896, 1920, 0, 0, 12288, 28672, 61440, 130944, 262143, 524287]
theorem r34_edges.tab6 : rtab .any (opsOf Try.f43 6) = r34_edges.T6 := by kernel_rfl
theorem r34_edges.bits6 : waitsOk r34_edges.T6.2 r34_edges.B6 = true := by kernel_rfl
set_option maxHeartbeats 8000000 in
set_option maxRecDepth 100000 in
theorem r34_edges.calls (k : Nat) (A0 : Option Addr) (c0 : Nat) (l0 : List (S25)) (r : List Int) (w : World) (hr0 : Kd.C k25 w A0 l0.length l0) (hc0 : l0.length ≤ c0) (h : r34_edges.f k l0 = some r) :
  Calls Try.prog 43 #[.slice A0 l0.length c0] w fun e w' => ∃ v0_ : Value, e = .returned (v0_) ∧ Kd.R (Kd.int .i64) 3 w' w.heap.size (fun _ => True) v0_ r ∧ Below w.heap.size w w' := by
 have hu25 := Try.underlying25
 have HR0 := am hr0
 have HC0 := am hc0
 clear hr0 hc0
 have HB := am (Below.refl w.heap.size w)
 have H : (r34_edges.l0 k l0 (([] : List Int)) 0) = some r := h
 clear h
 obtain ⟨y372, hy372⟩ : ∃ y_ : List Int, y_ = (([] : List Int)) := ⟨_, rfl⟩
 replace H : (r34_edges.l0 k l0 y372 0) = some r := by first | (rw [hy372]; with_reducible exact H) | (have H2_ := (Option.bind_some _ _).symm.trans H; rw [hy372]; with_reducible exact H2_) | (have H2_ := (Option.bind_some _ _).symm.trans H; with_reducible exact H2_) | with_reducible exact H | (rw [hy372]; exact H) | exact H
 have Ny372 := am hy372
 clear hy372
 have H' := am H
 clear H
 go_enter Try.func43, Try.ntmps43
 go_wp2_with (first | ((with_reducible refine gate_dst (N := 5) rfl ?_); refine Kd.R_lit (Kd.int .i64) _ 3 ?hg (N := 5) ?hd (xs := ([] : List Int)) (inner := []) (ok := fun _ => True) (okp := fun _ => True) ?hr ?hp (fun _ hk => hk) trivial (Below.refl _ _) (Nat.le_refl _) (by simp) ?_; (case hd => rfl); (case hg => rfl); (case hr => first | (go_simp; done) | (go_simp; rfl)); (case hp => exact (Reps.none _ _)); intro v373 w2 ho3 hb hg_ hnew_; clear hg_ hnew_; (first | rw [← Ny372.out] at ho3 | (simp only [Int.reduceToNat] at ho3; rw [← Ny372.out] at ho3)); have n0_ := am (Kd.R_lower ho3 (below_size (zB HB))); have n1_ := am (below_step (zB HB) hb); clear HB; have HO374 := n0_; have HB := n1_; clear n0_ n1_; clear hb ho3))
 go_loopg [3, 4] k (fun kq v3 v4 w' => ∃ (x3_1 : List Int) (x4_1 : Int), v4 = .int .i64 x4_1 ∧ Aside0 (r34_edges.l0 kq l0 x3_1 x4_1 = some r) ∧ Aside0 (kq ≤ k) ∧ Aside0 (Kd.R (Kd.int .i64) 3 w' w.heap.size (fun _ => True) v3 x3_1) ∧ Aside0 (Below w.heap.size w w'))
 case atStart => exact ⟨(y372), (0), zS, H', ⟨Nat.le_refl _⟩, ⟨zR HO374.out⟩, ⟨zB HB⟩⟩
 case round =>
  clear H'
  try clear p2
  obtain ⟨x3_1, x4_1, rfl, HA, HK1, HO_3, HB⟩ := hrel
  cases gk with
  | zero => exact absurd HA.out (by simp [r34_edges.l0])
  | succ k1 =>
   have H := HA.out
   clear HA
   simp only [r34_edges.l0] at H
   by_cases c4 : x4_1 < (l0.length : Int)
   ·rw [if_pos c4] at H
    have c4b0 : decide (x4_1 < (l0.length : Int)) = true := decide_eq_true c4
    clear c4
    by_cases c5 : 0 ≤ x4_1
    ·rw [if_pos c5] at H
     have c5b0 : decide (0 ≤ x4_1) = true := decide_eq_true c5
     clear c5
     replace H := Option.bind_eq_some_iff.mp H
     obtain ⟨t376, A60, H⟩ := H
     replace H : (if t376 = true then ((r34_insert.f x3_1 ((rd_T25 l0 x4_1).f0)).bind fun t378 => ((r34_insert.f t378 (wrap64 (((rd_T25 l0 x4_1).f0) + ((rd_T25 l0 x4_1).f1)))).bind fun t383 => (r34_edges.l0 k1 l0 t383 (wrap64 (x4_1 + 1))))) else (r34_edges.l0 k1 l0 x3_1 (wrap64 (x4_1 + 1)))) = some r := H
     have A6 := am A60
     clear A60
     by_cases c7 : t376 = true
     ·subst c7
      have H1 : ((r34_insert.f x3_1 ((rd_T25 l0 x4_1).f0)).bind fun t378 => ((r34_insert.f t378 (wrap64 (((rd_T25 l0 x4_1).f0) + ((rd_T25 l0 x4_1).f1)))).bind fun t383 => (r34_edges.l0 k1 l0 t383 (wrap64 (x4_1 + 1))))) = some r := by rw [if_pos rfl] at H; exact H
      clear H
      have H := H1
      clear H1
      replace H := Option.bind_eq_some_iff.mp H
      obtain ⟨t378, A80, H⟩ := H
      replace H : ((r34_insert.f t378 (wrap64 (((rd_T25 l0 x4_1).f0) + ((rd_T25 l0 x4_1).f1)))).bind fun t383 => (r34_edges.l0 k1 l0 t383 (wrap64 (x4_1 + 1)))) = some r := H
      have A8 := am A80
      clear A80
      replace H := Option.bind_eq_some_iff.mp H
      obtain ⟨t383, A90, H⟩ := H
      replace H : (r34_edges.l0 k1 l0 t383 (wrap64 (x4_1 + 1))) = some r := H
      have A9 := am A90
      clear A90
      have H' := am H
      clear H
      have p375 : 0 ≤ (x4_1 : Int) := of_decide_eq_true zA
      have q375 : x4_1 < (l0.length : Int) := of_decide_eq_true zA
      obtain ⟨ad375, e375, hx375_0, hx375_1⟩ := at_T25 HR0.out x4_1 p375 q375
      cases e375
      replace hx375_0 := (HB.out.cell (World.block_lt_of_cell? w _ hx375_0)).trans hx375_0
      replace hx375_1 := (HB.out.cell (World.block_lt_of_cell? w _ hx375_1)).trans hx375_1
      replace p375 := eq_true p375
      replace q375 := eq_true q375
      try go_wp2_with (first | ((with_reducible refine gate_callee (f := 49) rfl ?_); refine goesL_ (some 16) rfl rfl Try.func49 (by kernel_rfl) rfl #[.agg #[.int .i64 ((rd_T25 l0 x4_1).f0), .int .i64 ((rd_T25 l0 x4_1).f1)]] rfl zM ?_; (with_reducible refine (r34_has.calls ((rd_T25 l0 x4_1).f0) ((rd_T25 l0 x4_1).f1) true _ A6.out).mono ?_); rintro e w10 ⟨rfl, hb⟩; refine ⟨_, rfl, ?_⟩; have n0_ := am (Kd.R_below (zR HO_3.out) hb); have n1_ := am (below_step (zB HB) hb); clear HO_3; clear HB; have HO_3 := n0_; have HB := n1_; clear n0_ n1_; (try clear hb); (try clear hb2); (try clear hk); (try clear hi)))
      have n0_ := am (Kd.R_drew HO_3.out)
      have n1_ := am (below_drew1 HB.out)
      clear HO_3
      clear HB
      have HO_3 := n0_
      have HB := n1_
      clear n0_ n1_
      have p377 : 0 ≤ (x4_1 : Int) := of_decide_eq_true zA
      have q377 : x4_1 < (l0.length : Int) := of_decide_eq_true zA
      obtain ⟨ad377, e377, hx377_0, hx377_1⟩ := at_T25 HR0.out x4_1 p377 q377
      have hw377_1 := hx377_1
      have hw377_0 := hx377_0
      obtain rfl : ad375 = ad377 := (by injection e377)
      replace hx377_0 := (HB.out.cell (World.block_lt_of_cell? w _ hx377_0)).trans hx377_0
      replace hx377_1 := (HB.out.cell (World.block_lt_of_cell? w _ hx377_1)).trans hx377_1
      replace p377 := eq_true p377
      replace q377 := eq_true q377
      have p381 : 0 ≤ (x4_1 : Int) := of_decide_eq_true zA
      have q381 : x4_1 < (l0.length : Int) := of_decide_eq_true zA
      obtain ⟨ad381, e381, hx381_0, hx381_1⟩ := at_T25 HR0.out x4_1 p381 q381
      have hw381_1 := hx381_1
      have hw381_0 := hx381_0
      obtain rfl : ad375 = ad381 := (by injection e381)
      replace hx381_0 := (HB.out.cell (World.block_lt_of_cell? w _ hx381_0)).trans hx381_0
      replace hx381_1 := (HB.out.cell (World.block_lt_of_cell? w _ hx381_1)).trans hx381_1
      replace p381 := eq_true p381
      replace q381 := eq_true q381
      have p382 : 0 ≤ (x4_1 : Int) := of_decide_eq_true zA
      have q382 : x4_1 < (l0.length : Int) := of_decide_eq_true zA
      obtain ⟨ad382, e382, hx382_0, hx382_1⟩ := at_T25 HR0.out x4_1 p382 q382
      have hw382_1 := hx382_1
      have hw382_0 := hx382_0
      obtain rfl : ad375 = ad382 := (by injection e382)
      replace hx382_0 := (HB.out.cell (World.block_lt_of_cell? w _ hx382_0)).trans hx382_0
      replace hx382_1 := (HB.out.cell (World.block_lt_of_cell? w _ hx382_1)).trans hx382_1
      replace p382 := eq_true p382
      replace q382 := eq_true q382
      obtain ⟨Ao12, co12, eo12⟩ := Kd.R_slice HO_3.out
      (first | subst eo12 | (injection eo12 with f1_ f2_ f3_; have f4_ := f1_.symm; have f5_ := f3_.symm; clear f1_ f2_ f3_; subst f4_; subst f5_))
      refine start_ (n := 20) (S := fun w' => w'.cell? (ad375.add ((x4_1).toNat * 2)) = some (.int .i64 ((rd_T25 l0 x4_1).f0)) ∧ w'.cell? ⟨(ad375.add ((x4_1).toNat * 2)).block, (ad375.add ((x4_1).toNat * 2)).off + 1, none⟩ = some (.int .i64 ((rd_T25 l0 x4_1).f1)) ∧ w'.cell? (ad375.add ((x4_1).toNat * 2)) = some (.int .i64 ((rd_T25 l0 x4_1).f0)) ∧ w'.cell? ⟨(ad375.add ((x4_1).toNat * 2)).block, (ad375.add ((x4_1).toNat * 2)).off + 1, none⟩ = some (.int .i64 ((rd_T25 l0 x4_1).f1)) ∧ w'.cell? (ad375.add ((x4_1).toNat * 2)) = some (.int .i64 ((rd_T25 l0 x4_1).f0)) ∧ w'.cell? ⟨(ad375.add ((x4_1).toNat * 2)).block, (ad375.add ((x4_1).toNat * 2)).off + 1, none⟩ = some (.int .i64 ((rd_T25 l0 x4_1).f1))) (ds := []) #[F,F,F,F,F,F,F,F,F,F,F,F,F,F,F,F,F,F,F,F] (by kernel_rfl) rfl rfl ⟨((HB.out.cell (World.block_lt_of_cell? w _ hw377_0)).trans hw377_0), ((HB.out.cell (World.block_lt_of_cell? w _ hw377_1)).trans hw377_1), ((HB.out.cell (World.block_lt_of_cell? w _ hw381_0)).trans hw381_0), ((HB.out.cell (World.block_lt_of_cell? w _ hw381_1)).trans hw381_1), ((HB.out.cell (World.block_lt_of_cell? w _ hw382_0)).trans hw382_0), ((HB.out.cell (World.block_lt_of_cell? w _ hw382_1)).trans hw382_1)⟩ (fun hHeld => ?_); refine with_tabW r34_edges.tab6 r34_edges.bits6 (fun HT_ HW_ => ?_)
      generalize w10.drew = w11 at HO_3 HB hx377_0 hx377_1 hx381_0 hx381_1 hx382_0 hx382_1 hHeld ⊢
      refine pure_ (i := 0) (N := some 17) (v := ?_) (a' := ?_) #[T,F,F,F,F,F,F,F,F,F,F,F,F,F,F,F,F,F,F,F] rfl rfl (zO HT_) (fun _ _ _ h => h) (Or.inl ⟨by rfl, ?_⟩) ?_ ?_
      rotate_left
      ·intro w'
       go_simp
       with_reducible rfl
      rotate_left
      ·exact zP i64_w i32_w
      refine pure_ (i := 1) (N := some 18) (v := ?_) (a' := ?_) #[T,T,F,F,F,F,F,F,F,F,F,F,F,F,F,F,F,F,F,F] rfl rfl (zO HT_) (fun _ _ _ h => h) (Or.inl ⟨by rfl, ?_⟩) ?_ ?_
      rotate_left
      ·intro w'
       go_simp
       with_reducible rfl
      rotate_left
      ·exact zP i64_w i32_w
      refine pure_ (i := 2) (N := some 19) (v := ?_) (a' := ?_) #[T,T,T,F,F,F,F,F,F,F,F,F,F,F,F,F,F,F,F,F] rfl rfl (zO HT_) (fun _ _ _ h => h) (Or.inl ⟨by rfl, ?_⟩) ?_ ?_
      rotate_left
      ·intro w'
       go_simp
       with_reducible rfl
      rotate_left
      ·exact zP i64_w i32_w
      refine pure_ (i := 3) (N := some 20) (v := ?_) (a' := ?_) #[T,T,T,T,F,F,F,F,F,F,F,F,F,F,F,F,F,F,F,F] rfl rfl (zO HT_) (fun _ _ _ h => h) (Or.inl ⟨by rfl, ?_⟩) ?_ ?_
      rotate_left
      ·intro w'
       go_simp
       with_reducible rfl
      rotate_left
      ·exact zP i64_w i32_w
      refine pure_ (i := 4) (N := some 21) (v := ?_) (a' := ?_) #[T,T,T,T,T,F,F,F,F,F,F,F,F,F,F,F,F,F,F,F] rfl rfl (zO HT_) (fun _ _ _ h => h) (Or.inl ⟨by rfl, ?_⟩) ?_ ?_
      rotate_left
      ·intro w'
       go_simp
       with_reducible rfl
      rotate_left
      ·exact zP i64_w i32_w
      refine pure_ (i := 7) (N := some 24) (v := ?_) (a' := ?_) #[T,T,T,T,T,F,F,T,F,F,F,F,F,F,F,F,F,F,F,F] rfl rfl (zO HT_) (fun _ _ _ h => h) (Or.inl ⟨by rfl, ?_⟩) ?_ ?_
      rotate_left
      ·intro w'
       go_simp
       with_reducible rfl
      rotate_left
      ·exact zP i64_w i32_w
      refine pure_ (i := 8) (N := some 25) (v := ?_) (a' := ?_) #[T,T,T,T,T,F,F,T,T,F,F,F,F,F,F,F,F,F,F,F] rfl rfl (zO HT_) (fun _ _ _ h => h) (Or.inl ⟨by rfl, ?_⟩) ?_ ?_
      rotate_left
      ·intro w'
       go_simp
       with_reducible rfl
      rotate_left
      ·exact zP i64_w i32_w
      refine pure_ (i := 9) (N := some 26) (v := ?_) (a' := ?_) #[T,T,T,T,T,F,F,T,T,T,F,F,F,F,F,F,F,F,F,F] rfl rfl (zO HT_) (fun _ _ _ h => h) (Or.inl ⟨by rfl, ?_⟩) ?_ ?_
      rotate_left
      ·intro w'
       go_simp
       with_reducible rfl
      rotate_left
      ·exact zP i64_w i32_w
      refine pure_ (i := 10) (N := some 27) (v := ?_) (a' := ?_) #[T,T,T,T,T,F,F,T,T,T,T,F,F,F,F,F,F,F,F,F] rfl rfl (zO HT_) (fun _ _ _ h => h) (Or.inl ⟨by rfl, ?_⟩) ?_ ?_
      rotate_left
      ·intro w'
       go_simp
       with_reducible rfl
      rotate_left
      ·exact zP i64_w i32_w
      refine pure_ (i := 12) (N := some 29) (v := ?_) (a' := ?_) #[T,T,T,T,T,F,F,T,T,T,T,F,T,F,F,F,F,F,F,F] rfl rfl (zO HT_) (fun _ _ _ h => h) (Or.inl ⟨by rfl, ?_⟩) ?_ ?_
      rotate_left
      ·intro w'
       go_simp
       with_reducible rfl
      rotate_left
      ·exact zP i64_w i32_w
      refine pure_ (i := 13) (N := some 30) (v := ?_) (a' := ?_) #[T,T,T,T,T,F,F,T,T,T,T,F,T,T,F,F,F,F,F,F] rfl rfl (zO HT_) (fun _ _ _ h => h) (Or.inl ⟨by rfl, ?_⟩) ?_ ?_
      rotate_left
      ·intro w'
       go_simp
       with_reducible rfl
      rotate_left
      ·exact zP i64_w i32_w
      refine pure_ (i := 14) (N := some 31) (v := ?_) (a' := ?_) #[T,T,T,T,T,F,F,T,T,T,T,F,T,T,T,F,F,F,F,F] rfl rfl (zO HT_) (fun _ _ _ h => h) (Or.inl ⟨by rfl, ?_⟩) ?_ ?_
      rotate_left
      ·intro w'
       go_simp
       with_reducible rfl
      rotate_left
      ·exact zP i64_w i32_w
      refine pure_ (i := 15) (N := some 32) (v := ?_) (a' := ?_) #[T,T,T,T,T,F,F,T,T,T,T,F,T,T,T,T,F,F,F,F] rfl rfl (zO HT_) (fun _ _ _ h => h) (Or.inl ⟨by rfl, ?_⟩) ?_ ?_
      rotate_left
      ·intro w'
       go_simp
       with_reducible rfl
      rotate_left
      ·exact zP i64_w i32_w
      refine take_ (i := 5) (N := some 22) (v := ?_) (a' := ?_) #[T,T,T,T,T,T,F,T,T,T,T,F,T,T,T,T,F,F,F,F] rfl rfl (take_ofW HT_.out HW_.out (by kernel_rfl)) (fun _ _ _ h => h) (Or.inl ⟨by rfl, ?_⟩) hHeld ?_ ?_
      rotate_left
      ·rintro w' ⟨s0, s1, s2, s3, s4, s5⟩
       go_simp
       with_reducible rfl
      rotate_left
      ·exact zP i64_w i32_w
      refine take_ (i := 11) (N := some 28) (v := ?_) (a' := ?_) #[T,T,T,T,T,T,F,T,T,T,T,T,T,T,T,T,F,F,F,F] rfl rfl (take_ofW HT_.out HW_.out (by kernel_rfl)) (fun _ _ _ h => h) (Or.inl ⟨by rfl, ?_⟩) hHeld ?_ ?_
      rotate_left
      ·rintro w' ⟨s0, s1, s2, s3, s4, s5⟩
       go_simp
       with_reducible rfl
      rotate_left
      ·exact zP i64_w i32_w
      refine take_ (i := 16) (N := some 33) (v := ?_) (a' := ?_) #[T,T,T,T,T,T,F,T,T,T,T,T,T,T,T,T,T,F,F,F] rfl rfl (take_ofW HT_.out HW_.out (by kernel_rfl)) (fun _ _ _ h => h) (Or.inl ⟨by rfl, ?_⟩) hHeld ?_ ?_
      rotate_left
      ·rintro w' ⟨s0, s1, s2, s3, s4, s5⟩
       go_simp
       with_reducible rfl
      rotate_left
      ·exact zP i64_w i32_w
      refine pure_ (i := 17) (N := some 34) (v := ?_) (a' := ?_) #[T,T,T,T,T,T,F,T,T,T,T,T,T,T,T,T,T,T,F,F] rfl rfl (zO HT_) (fun _ _ _ h => h) (Or.inl ⟨by rfl, ?_⟩) ?_ ?_
      rotate_left
      ·intro w'
       go_simp
       with_reducible rfl
      rotate_left
      ·exact zP i64_w i32_w
      refine one_ (i := 6) (N := some 23) #[T,T,T,T,T,T,T,T,T,T,T,T,T,T,T,T,T,T,F,F] rfl rfl (one_of HT_.out (by kernel_rfl)) (by decide) (fun K hK => ?_)
      refine goes_ Try.func50 (by kernel_rfl) rfl #[.slice Ao12 x3_1.length co12, .int .i64 ((rd_T25 l0 x4_1).f0)] (by rfl) rfl rfl zM ?_
      with_reducible refine (r34_insert.calls (fun k_ => some k_ = (.slice Ao12 x3_1.length co12 : Value).ownBlock) (.slice Ao12 x3_1.length co12) x3_1 ((rd_T25 l0 x4_1).f0) t378 w _ ?side1 ?side2 A8.out).mono ?_
      (case side1 => exact zB HB)
      (case side2 => exact Kd.R_tight rfl HO_3.out)
      rintro e w13 ⟨v379, rfl, ho0, hb, hkp⟩
      refine ⟨_, rfl, ?_⟩
      have n0_ := am (Kd.R_mono (ok' := fun k_ => True) ho0 (fun k_ hk_ => trivial))
      have n1_ := am (hb)
      clear HB
      clear HO_3
      have HO380 := n0_
      have HB := n1_
      clear n0_ n1_
      (try clear hb)
      (try clear hkp)
      (try clear ho0)
      obtain ⟨Ao14, co14, eo14⟩ := Kd.R_slice HO380.out
      (first | subst eo14 | (injection eo14 with f1_ f2_ f3_; have f4_ := f1_.symm; have f5_ := f3_.symm; clear f1_ f2_ f3_; subst f4_; subst f5_))
      refine hK.out _ _ ⟨((HB.out.cell (World.block_lt_of_cell? w _ hw377_0)).trans hw377_0), ((HB.out.cell (World.block_lt_of_cell? w _ hw377_1)).trans hw377_1), ((HB.out.cell (World.block_lt_of_cell? w _ hw381_0)).trans hw381_0), ((HB.out.cell (World.block_lt_of_cell? w _ hw381_1)).trans hw381_1), ((HB.out.cell (World.block_lt_of_cell? w _ hw382_0)).trans hw382_0), ((HB.out.cell (World.block_lt_of_cell? w _ hw382_1)).trans hw382_1)⟩ (fun hHeld => ?_)
      clear hK K
      refine norm_ (a' := ?_) ?_ ?_
      rotate_left
      ·show Act.put _ (some 23) _ = _
       simp only [Act.put, List.setIfInBounds_toArray, List.set_cons_zero, List.set_cons_succ, i64_w, i32_w]
       rfl
      refine one_ (i := 18) (N := some 35) #[T,T,T,T,T,T,T,T,T,T,T,T,T,T,T,T,T,T,T,F] rfl rfl (one_of HT_.out (by kernel_rfl)) (by decide) (fun K hK => ?_)
      refine goes_ Try.func50 (by kernel_rfl) rfl #[.slice Ao14 t378.length co14, .int .i64 (wrap64 (((rd_T25 l0 x4_1).f0) + ((rd_T25 l0 x4_1).f1)))] (by rfl) rfl rfl zM ?_
      with_reducible refine (r34_insert.calls (fun k_ => some k_ = (.slice Ao14 t378.length co14 : Value).ownBlock) (.slice Ao14 t378.length co14) t378 (wrap64 (((rd_T25 l0 x4_1).f0) + ((rd_T25 l0 x4_1).f1))) t383 w _ ?side1 ?side2 A9.out).mono ?_
      (case side1 => exact zB HB)
      (case side2 => exact Kd.R_tight rfl HO380.out)
      rintro e w15 ⟨v384, rfl, ho0, hb, hkp⟩
      refine ⟨_, rfl, ?_⟩
      have n0_ := am (Kd.R_mono (ok' := fun k_ => True) ho0 (fun k_ hk_ => trivial))
      have n1_ := am (hb)
      clear HB
      clear HO380
      have HO385 := n0_
      have HB := n1_
      clear n0_ n1_
      (try clear hb)
      (try clear hkp)
      (try clear ho0)
      refine hK.out _ _ ⟨((HB.out.cell (World.block_lt_of_cell? w _ hw377_0)).trans hw377_0), ((HB.out.cell (World.block_lt_of_cell? w _ hw377_1)).trans hw377_1), ((HB.out.cell (World.block_lt_of_cell? w _ hw381_0)).trans hw381_0), ((HB.out.cell (World.block_lt_of_cell? w _ hw381_1)).trans hw381_1), ((HB.out.cell (World.block_lt_of_cell? w _ hw382_0)).trans hw382_0), ((HB.out.cell (World.block_lt_of_cell? w _ hw382_1)).trans hw382_1)⟩ (fun hHeld => ?_)
      clear hK K
      refine norm_ (a' := ?_) ?_ ?_
      rotate_left
      ·show Act.put _ (some 35) _ = _
       simp only [Act.put, List.setIfInBounds_toArray, List.set_cons_zero, List.set_cons_succ, i64_w, i32_w]
       rfl
      refine pure_ (i := 19) (N := some 3) (v := ?_) (a' := ?_) #[T,T,T,T,T,T,T,T,T,T,T,T,T,T,T,T,T,T,T,T] rfl rfl (zO HT_) (fun _ _ _ h => h) (Or.inl ⟨by rfl, ?_⟩) ?_ ?_
      rotate_left
      ·intro w'
       go_simp
       with_reducible rfl
      rotate_left
      ·exact zP i64_w i32_w
      refine done_ (done_of HT_.out (by kernel_rfl)) ?_
      try go_wp2
      go_roundg k1
      case measure => have := HK1.out; omega
      case rel => exact ⟨(t383), (wrap64 (x4_1 + 1)), zS, H', ⟨by have := HK1.out; omega⟩, ⟨zR HO385.out⟩, ⟨zB HB⟩⟩
     ·replace c7 := Bool.eq_false_iff.mpr c7
      subst c7
      have H1 : (r34_edges.l0 k1 l0 x3_1 (wrap64 (x4_1 + 1))) = some r := by rw [if_neg (show ¬ (false = true) by decide)] at H; exact H
      clear H
      have H := H1
      clear H1
      have H' := am H
      clear H
      have p375 : 0 ≤ (x4_1 : Int) := of_decide_eq_true zA
      have q375 : x4_1 < (l0.length : Int) := of_decide_eq_true zA
      obtain ⟨ad375, e375, hx375_0, hx375_1⟩ := at_T25 HR0.out x4_1 p375 q375
      cases e375
      replace hx375_0 := (HB.out.cell (World.block_lt_of_cell? w _ hx375_0)).trans hx375_0
      replace hx375_1 := (HB.out.cell (World.block_lt_of_cell? w _ hx375_1)).trans hx375_1
      replace p375 := eq_true p375
      replace q375 := eq_true q375
      go_wp2_with (first | ((with_reducible refine gate_callee (f := 49) rfl ?_); refine goesL_ (some 16) rfl rfl Try.func49 (by kernel_rfl) rfl #[.agg #[.int .i64 ((rd_T25 l0 x4_1).f0), .int .i64 ((rd_T25 l0 x4_1).f1)]] rfl zM ?_; (with_reducible refine (r34_has.calls ((rd_T25 l0 x4_1).f0) ((rd_T25 l0 x4_1).f1) false _ A6.out).mono ?_); rintro e w16 ⟨rfl, hb⟩; refine ⟨_, rfl, ?_⟩; have n0_ := am (Kd.R_below (zR HO_3.out) hb); have n1_ := am (below_step (zB HB) hb); clear HO_3; clear HB; have HO_3 := n0_; have HB := n1_; clear n0_ n1_; (try clear hb); (try clear hb2); (try clear hk); (try clear hi)))
      go_roundg k1
      case measure => have := HK1.out; omega
      case rel => exact ⟨(x3_1), (wrap64 (x4_1 + 1)), zS, H', ⟨by have := HK1.out; omega⟩, ⟨zR HO_3.out⟩, ⟨zB HB⟩⟩
    ·rw [if_neg c5] at H
     exact absurd H (by simp)
   ·rw [if_neg c4] at H
    have c4b0 : decide (x4_1 < (l0.length : Int)) = false := decide_eq_false c4
    clear c4
    obtain rfl := Option.some.inj H
    go_wp2
    go_ret
    exact ⟨_, by first | rfl | (simp [errW_none, errW_some] <;> rfl) | (simp [*, errW_none, errW_some] <;> rfl), by refine zR ?_; exact HO_3.out, by repeat (first | (with_reducible first | exact HB.out | apply below_alloc | apply pw_below_drewN | apply below_drew1) | exact HB.out)⟩

end
end Go.Proofs.Ytapbmkcncjkanaa.P
