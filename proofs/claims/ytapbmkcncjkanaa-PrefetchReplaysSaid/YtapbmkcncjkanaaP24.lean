-- Written by this session's wip/tools/px.py out of the translation. Lean checks it.
import Derived.Test.YtapbmkcncjkanaaP0
import Derived.Test.YtapbmkcncjkanaaP4
import Derived.Test.YtapbmkcncjkanaaP19
import Derived.Test.YtapbmkcncjkanaaP22
namespace Go.Proofs.Ytapbmkcncjkanaa.P
noncomputable section
open Go.RowKit Go.Proofs.YtapbmkcncjkanaaW.PrintWords Go.Proofs.YtapbmkcncjkanaaW.PrintLast Go.Proofs.YtapbmkcncjkanaaW.PrintMore
attribute [local go_sem] max2_int min2_int max_two min_two max_three min_three max_four min_four   -- for this text's walks alone
set_option linter.unusedVariables false
set_option linter.unusedSimpArgs false

/-! ### r36_Replay: function 20 -/
def r36_Replay.l0 : Nat → List (S25) → Int → Int → List (S25) → Int → Int → Int → Int → Int → Option ((List (S25)))
 | 0, _, _, _, _, _, _, _, _, _ => none
 | k + 1, x0, x1, x2, x7, x9, x505000, x505001, x505002, x505003 => if x9 < (x0.length : Int) then (if 0 ≤ x9 then ((r36_Valid.f k x505000 x505001 x505002 x505003 ((rd_T25 x0 x9).f0) ((rd_T25 x0 x9).f1) x1 x2).bind fun t506 => (if t506 = true then ((r36_Read.f k x505000 x505001 x505002 x505003 ((rd_T25 x0 x9).f0) ((rd_T25 x0 x9).f1) x1 x2).bind fun bt508 => ((r34_Subtract.f k (([(⟨(rd_T25 x0 x9).f0, (rd_T25 x0 x9).f1⟩ : S25)] : List (S25))) x7).bind fun t520 => ((r36_Requests.f k t520 bt508.2.2.2.2.1 bt508.2.2.2.2.2 x1 0).bind fun t523 => ((r34_Union.f k x7 t523).bind fun t526 => (r36_Replay.l0 k x0 x1 x2 t526 (wrap64 (x9 + 1)) bt508.1 bt508.2.1 bt508.2.2.1 bt508.2.2.2.1))))) else (r36_Replay.l0 k x0 x1 x2 x7 (wrap64 (x9 + 1)) x505000 x505001 x505002 x505003))) else (none)) else (some x7)
def r36_Replay.f (k : Nat) (l0 : List (S25)) (a1 : Int) (a2 : Int) : Option ((List (S25))) := r36_Replay.l0 k l0 a1 a2 ([] : List (S25)) 0 0 0 0 0
theorem r36_Replay.mono_l : ∀ k, (∀ y0 y1 y2 y3 y4 y5 y6 y7 y8, LeO (r36_Replay.l0 k y0 y1 y2 y3 y4 y5 y6 y7 y8) (r36_Replay.l0 (k + 1) y0 y1 y2 y3 y4 y5 y6 y7 y8))
 | 0 => fun _ _ _ _ _ _ _ _ _ r h => by simp [r36_Replay.l0] at h
 | k + 1 => by
  have ih0 := r36_Replay.mono_l k
  ·intro y0 y1 y2 y3 y4 y5 y6 y7 y8
   unfold r36_Replay.l0
   repeat' first
   | (with_reducible exact ih0 _ _ _ _ _ _ _ _ _)
   | (with_reducible exact r34_Subtract.mono _ _ _)
   | (with_reducible exact r34_Union.mono _ _ _)
   | (with_reducible exact r36_Read.mono _ _ _ _ _ _ _ _ _)
   | (with_reducible exact r36_Requests.mono _ _ _ _ _ _)
   | (with_reducible exact r36_Valid.mono _ _ _ _ _ _ _ _ _)
   | (with_reducible exact LeO.refl _)
   | (with_reducible exact LeO.none _)
   | (with_reducible refine LeO.ite ?_ ?_)
   | (with_reducible refine LeO.bind ?_ (fun _ => ?_))
   | exact ih0 _ _ _ _ _ _ _ _ _
   | exact r34_Subtract.mono _ _ _
   | exact r34_Union.mono _ _ _
   | exact r36_Read.mono _ _ _ _ _ _ _ _ _
   | exact r36_Requests.mono _ _ _ _ _ _
   | exact r36_Valid.mono _ _ _ _ _ _ _ _ _
   | exact LeO.none _
   | refine LeO.ite ?_ ?_
   | refine LeO.bind ?_ (fun _ => ?_)
theorem r36_Replay.mono : ∀ a0 a1 a2 k, LeO (r36_Replay.f k a0 a1 a2) (r36_Replay.f (k + 1) a0 a1 a2) := by
 intro a0 a1 a2 k
 have ih0 := r36_Replay.mono_l k
 unfold r36_Replay.f
 repeat' first
   | (with_reducible exact ih0 _ _ _ _ _ _ _ _ _)
   | (with_reducible exact r34_Subtract.mono _ _ _)
   | (with_reducible exact r34_Union.mono _ _ _)
   | (with_reducible exact r36_Read.mono _ _ _ _ _ _ _ _ _)
   | (with_reducible exact r36_Requests.mono _ _ _ _ _ _)
   | (with_reducible exact r36_Valid.mono _ _ _ _ _ _ _ _ _)
   | (with_reducible exact LeO.refl _)
   | (with_reducible exact LeO.none _)
   | (with_reducible refine LeO.ite ?_ ?_)
   | (with_reducible refine LeO.bind ?_ (fun _ => ?_))
   | exact ih0 _ _ _ _ _ _ _ _ _
   | exact r34_Subtract.mono _ _ _
   | exact r34_Union.mono _ _ _
   | exact r36_Read.mono _ _ _ _ _ _ _ _ _
   | exact r36_Requests.mono _ _ _ _ _ _
   | exact r36_Valid.mono _ _ _ _ _ _ _ _ _
   | exact LeO.none _
   | refine LeO.ite ?_ ?_
   | refine LeO.bind ?_ (fun _ => ?_)
def r36_Replay.T6 : Bool × List (List Nat × List Nat) := (true, [([], []), ([], []), ([], []), ([1, 2], [1, 2]), ([3], [3]), ([], []), ([], []), ([0, 4, 5, 6], [0, 4, 5, 6]), ([7], [7])])
def r36_Replay.B6 : List Nat := [0, 0, 0, 6, 14, 0, 0, 127, 255]
theorem r36_Replay.tab6 : rtab .any (opsOf Try.f20 6) = r36_Replay.T6 := by kernel_rfl
theorem r36_Replay.bits6 : waitsOk r36_Replay.T6.2 r36_Replay.B6 = true := by kernel_rfl
def r36_Replay.T7 : Bool × List (List Nat × List Nat) := (true, [([], []), ([], []), ([], []), ([1, 2], [1, 2]), ([3], [3]), ([], []), ([], []), ([0, 4, 5, 6], [0, 4, 5, 6]), ([7], [7]), ([8], [8]), ([8], [8]), ([], []), ([], []), ([11, 9, 7, 0, 1, 2, 3, 4, 5, 6, 7, 8, 9, 11, 12], [9, 11]), ([12, 10, 13, 0, 1, 2, 3, 4, 5, 6, 7, 8, 9, 10, 11, 12, 13], [10, 12])])
def r36_Replay.B7 : List Nat := [0, 0, 0, 6, 14, 0, 0, 127, 255, 511, 511, 0, 0, 7167, 16383]
theorem r36_Replay.tab7 : rtab .any (opsOf Try.f20 7) = r36_Replay.T7 := by kernel_rfl
theorem r36_Replay.bits7 : waitsOk r36_Replay.T7.2 r36_Replay.B7 = true := by kernel_rfl
set_option maxHeartbeats 8000000 in
set_option maxRecDepth 100000 in
theorem r36_Replay.calls (k : Nat) (A0 : Option Addr) (c0 : Nat) (l0 : List (S25)) (a1 : Int) (a2 : Int) (r : List (S25)) (w : World) (hr0 : Kd.C k25 w A0 l0.length l0) (hc0 : l0.length ≤ c0) (h : r36_Replay.f k l0 a1 a2 = some r) :
  Calls Try.prog 20 #[.slice A0 l0.length c0, .int .i64 a1, .int .i64 a2] w fun e w' => ∃ v0_ : Value, e = .returned (v0_) ∧ Kd.R k25 25 w' w.heap.size (fun _ => True) v0_ r ∧ Below w.heap.size w w' := by
 have hu23 := Try.underlying23
 have hu25 := Try.underlying25
 have HR0 := am hr0
 have HC0 := am hc0
 clear hr0 hc0
 have HB := am (Below.refl w.heap.size w)
 have H : (r36_Replay.l0 k l0 a1 a2 ([] : List (S25)) 0 0 0 0 0) = some r := h
 clear h
 have H' := am H
 clear H
 go_enter Try.func20, Try.ntmps20
 go_wp2_with (first | ((with_reducible refine gate_dst (N := 8) rfl ?_); refine box_event ?hg (N := 8) ?hd (cs := #[.int .i64 0, .int .i64 0, .int .i64 0, .int .i64 0]) (t := 23) ?hr ?_; (case hd => rfl); (case hg => rfl); (case hr => first | (go_simp; done) | (go_simp; rfl)); intro gb504 hg w4 hbox hb; have n0_ := am (below_step (zB HB) hb); have n1_ := am (hbox); have n2_ := am ((by rw [hg]; exact (below_size (zB HB)) : w.heap.size ≤ gb504)); have n3_ := am ((by rw [hg]; exact (below_size (zB HB)) : w.heap.size ≤ gb504)); clear HB; have HB := n0_; have BK504 := n1_; have GW504 := n2_; have GE504 := n3_; clear n0_ n1_ n2_ n3_; clear hb hbox hg))
 go_loopg [7, 9] k (fun kq v7 v9 w' => ∃ (x7_1 : List (S25)) (x9_1 : Int) (x505000_1 : Int) (x505001_1 : Int) (x505002_1 : Int) (x505003_1 : Int), v9 = .int .i64 x9_1 ∧ Aside0 (r36_Replay.l0 kq l0 a1 a2 x7_1 x9_1 x505000_1 x505001_1 x505002_1 x505003_1 = some r) ∧ Aside0 (kq ≤ k) ∧ Aside0 (Kd.R k25 25 w' w.heap.size (fun _ => True) v7 x7_1) ∧ Aside0 (w'.heap[gb504]? = some (.cells #[.int .i64 x505000_1, .int .i64 x505001_1, .int .i64 x505002_1, .int .i64 x505003_1] 23 (0, 0))) ∧ Aside0 (Below w.heap.size w w'))
 case atStart => exact ⟨(([] : List (S25))), (0), (0), (0), (0), (0), zS, H', ⟨Nat.le_refl _⟩, ⟨by first | exact Kd.R_nil _ _ _ _ _ | exact Kd.N_nil _ _ _ _ _ | exact Kd.V_nil _ _ _ _ _ | exact Kd.Q_nil _ _ _ _ _ | exact Kd.S_nil _ _ _ _ _⟩, ⟨by refine zL ?_; exact BK504.out⟩, ⟨zG HB GE504⟩⟩
 case round =>
  clear H'
  try clear c2
  try clear p2
  obtain ⟨x7_1, x9_1, x505000_1, x505001_1, x505002_1, x505003_1, rfl, HA, HK1, HO_7, BK504, HB⟩ := hrel
  cases gk with
  | zero => exact absurd HA.out (by simp [r36_Replay.l0])
  | succ k1 =>
   have H := HA.out
   clear HA
   simp only [r36_Replay.l0] at H
   by_cases c5 : x9_1 < (l0.length : Int)
   ·rw [if_pos c5] at H
    have c5b0 : decide (x9_1 < (l0.length : Int)) = true := decide_eq_true c5
    clear c5
    by_cases c6 : 0 ≤ x9_1
    ·rw [if_pos c6] at H
     have c6b0 : decide (0 ≤ x9_1) = true := decide_eq_true c6
     clear c6
     replace H := Option.bind_eq_some_iff.mp H
     obtain ⟨t506, A70, H⟩ := H
     replace H : (if t506 = true then ((r36_Read.f k1 x505000_1 x505001_1 x505002_1 x505003_1 ((rd_T25 l0 x9_1).f0) ((rd_T25 l0 x9_1).f1) a1 a2).bind fun bt508 => ((r34_Subtract.f k1 (([(⟨(rd_T25 l0 x9_1).f0, (rd_T25 l0 x9_1).f1⟩ : S25)] : List (S25))) x7_1).bind fun t520 => ((r36_Requests.f k1 t520 bt508.2.2.2.2.1 bt508.2.2.2.2.2 a1 0).bind fun t523 => ((r34_Union.f k1 x7_1 t523).bind fun t526 => (r36_Replay.l0 k1 l0 a1 a2 t526 (wrap64 (x9_1 + 1)) bt508.1 bt508.2.1 bt508.2.2.1 bt508.2.2.2.1))))) else (r36_Replay.l0 k1 l0 a1 a2 x7_1 (wrap64 (x9_1 + 1)) x505000_1 x505001_1 x505002_1 x505003_1)) = some r := H
     have A7 := am A70
     clear A70
     by_cases c8 : t506 = true
     ·subst c8
      have H1 : ((r36_Read.f k1 x505000_1 x505001_1 x505002_1 x505003_1 ((rd_T25 l0 x9_1).f0) ((rd_T25 l0 x9_1).f1) a1 a2).bind fun bt508 => ((r34_Subtract.f k1 (([(⟨(rd_T25 l0 x9_1).f0, (rd_T25 l0 x9_1).f1⟩ : S25)] : List (S25))) x7_1).bind fun t520 => ((r36_Requests.f k1 t520 bt508.2.2.2.2.1 bt508.2.2.2.2.2 a1 0).bind fun t523 => ((r34_Union.f k1 x7_1 t523).bind fun t526 => (r36_Replay.l0 k1 l0 a1 a2 t526 (wrap64 (x9_1 + 1)) bt508.1 bt508.2.1 bt508.2.2.1 bt508.2.2.2.1))))) = some r := by rw [if_pos rfl] at H; exact H
      clear H
      have H := H1
      clear H1
      replace H := Option.bind_eq_some_iff.mp H
      obtain ⟨⟨t508, t509, t510, t511, t512, t513⟩, A90, H⟩ := H
      replace H : ((r34_Subtract.f k1 (([(⟨(rd_T25 l0 x9_1).f0, (rd_T25 l0 x9_1).f1⟩ : S25)] : List (S25))) x7_1).bind fun t520 => ((r36_Requests.f k1 t520 t512 t513 a1 0).bind fun t523 => ((r34_Union.f k1 x7_1 t523).bind fun t526 => (r36_Replay.l0 k1 l0 a1 a2 t526 (wrap64 (x9_1 + 1)) t508 t509 t510 t511)))) = some r := H
      have A9 := am A90
      clear A90
      obtain ⟨y517, hy517⟩ : ∃ y_ : List (S25), y_ = (([(⟨(rd_T25 l0 x9_1).f0, (rd_T25 l0 x9_1).f1⟩ : S25)] : List (S25))) := ⟨_, rfl⟩
      replace H : ((r34_Subtract.f k1 y517 x7_1).bind fun t520 => ((r36_Requests.f k1 t520 t512 t513 a1 0).bind fun t523 => ((r34_Union.f k1 x7_1 t523).bind fun t526 => (r36_Replay.l0 k1 l0 a1 a2 t526 (wrap64 (x9_1 + 1)) t508 t509 t510 t511)))) = some r := by first | (rw [hy517]; with_reducible exact H) | (have H2_ := (Option.bind_some _ _).symm.trans H; rw [hy517]; with_reducible exact H2_) | (have H2_ := (Option.bind_some _ _).symm.trans H; with_reducible exact H2_) | with_reducible exact H | (rw [hy517]; exact H) | exact H
      have Ny517 := am hy517
      clear hy517
      replace H := Option.bind_eq_some_iff.mp H
      obtain ⟨t520, A100, H⟩ := H
      replace H : ((r36_Requests.f k1 t520 t512 t513 a1 0).bind fun t523 => ((r34_Union.f k1 x7_1 t523).bind fun t526 => (r36_Replay.l0 k1 l0 a1 a2 t526 (wrap64 (x9_1 + 1)) t508 t509 t510 t511))) = some r := H
      have A10 := am A100
      clear A100
      replace H := Option.bind_eq_some_iff.mp H
      obtain ⟨t523, A110, H⟩ := H
      replace H : ((r34_Union.f k1 x7_1 t523).bind fun t526 => (r36_Replay.l0 k1 l0 a1 a2 t526 (wrap64 (x9_1 + 1)) t508 t509 t510 t511)) = some r := H
      have A11 := am A110
      clear A110
      replace H := Option.bind_eq_some_iff.mp H
      obtain ⟨t526, A120, H⟩ := H
      replace H : (r36_Replay.l0 k1 l0 a1 a2 t526 (wrap64 (x9_1 + 1)) t508 t509 t510 t511) = some r := H
      have A12 := am A120
      clear A120
      have H' := am H
      clear H
      try go_wp2
      have n0_ := am (Kd.R_drew HO_7.out)
      have n1_ := am (blk_drew BK504.out)
      have n2_ := am (below_drew1 HB.out)
      clear HO_7
      clear BK504
      clear HB
      have HO_7 := n0_
      have BK504 := n1_
      have HB := n2_
      clear n0_ n1_ n2_
      have p505 : 0 ≤ (x9_1 : Int) := of_decide_eq_true zA
      have q505 : x9_1 < (l0.length : Int) := of_decide_eq_true zA
      obtain ⟨ad505, e505, hx505_0, hx505_1⟩ := at_T25 HR0.out x9_1 p505 q505
      have hw505_1 := hx505_1
      have hw505_0 := hx505_0
      cases e505
      replace hx505_0 := (HB.out.cell (World.block_lt_of_cell? w _ hx505_0)).trans hx505_0
      replace hx505_1 := (HB.out.cell (World.block_lt_of_cell? w _ hx505_1)).trans hx505_1
      replace p505 := eq_true p505
      replace q505 := eq_true q505
      refine start_ (n := 9) (S := fun w' => w'.cell? ⟨gb504, 0, none⟩ = some (.int .i64 x505000_1) ∧ w'.cell? ⟨gb504, 1, none⟩ = some (.int .i64 x505001_1) ∧ w'.cell? ⟨gb504, 2, none⟩ = some (.int .i64 x505002_1) ∧ w'.cell? ⟨gb504, 3, none⟩ = some (.int .i64 x505003_1) ∧ w'.cell? (ad505.add ((x9_1).toNat * 2)) = some (.int .i64 ((rd_T25 l0 x9_1).f0)) ∧ w'.cell? ⟨(ad505.add ((x9_1).toNat * 2)).block, (ad505.add ((x9_1).toNat * 2)).off + 1, none⟩ = some (.int .i64 ((rd_T25 l0 x9_1).f1))) (ds := []) #[F,F,F,F,F,F,F,F,F] (by kernel_rfl) rfl rfl ⟨(blk_cell BK504.out 0).trans rfl, (blk_cell BK504.out 1).trans rfl, (blk_cell BK504.out 2).trans rfl, (blk_cell BK504.out 3).trans rfl, ((HB.out.cell (World.block_lt_of_cell? w _ hw505_0)).trans hw505_0), ((HB.out.cell (World.block_lt_of_cell? w _ hw505_1)).trans hw505_1)⟩ (fun hHeld => ?_); refine with_tabW r36_Replay.tab6 r36_Replay.bits6 (fun HT_ HW_ => ?_)
      generalize wr.drew = w13 at HO_7 BK504 HB hx505_0 hx505_1 hHeld ⊢
      refine pure_ (i := 1) (N := some 20) (v := ?_) (a' := ?_) #[F,T,F,F,F,F,F,F,F] rfl rfl (zO HT_) (fun _ _ _ h => h) (Or.inl ⟨by rfl, ?_⟩) ?_ ?_
      rotate_left
      ·intro w'
       go_simp
       with_reducible rfl
      rotate_left
      ·exact zP i64_w i32_w
      refine pure_ (i := 2) (N := some 21) (v := ?_) (a' := ?_) #[F,T,T,F,F,F,F,F,F] rfl rfl (zO HT_) (fun _ _ _ h => h) (Or.inl ⟨by rfl, ?_⟩) ?_ ?_
      rotate_left
      ·intro w'
       go_simp
       with_reducible rfl
      rotate_left
      ·exact zP i64_w i32_w
      refine pure_ (i := 3) (N := some 22) (v := ?_) (a' := ?_) #[F,T,T,T,F,F,F,F,F] rfl rfl (zO HT_) (fun _ _ _ h => h) (Or.inl ⟨by rfl, ?_⟩) ?_ ?_
      rotate_left
      ·intro w'
       go_simp
       with_reducible rfl
      rotate_left
      ·exact zP i64_w i32_w
      refine pure_ (i := 5) (N := some 24) (v := ?_) (a' := ?_) #[F,T,T,T,F,T,F,F,F] rfl rfl (zO HT_) (fun _ _ _ h => h) (Or.inl ⟨by rfl, ?_⟩) ?_ ?_
      rotate_left
      ·intro w'
       go_simp
       with_reducible rfl
      rotate_left
      ·exact zP i64_w i32_w
      refine pure_ (i := 6) (N := some 25) (v := ?_) (a' := ?_) #[F,T,T,T,F,T,T,F,F] rfl rfl (zO HT_) (fun _ _ _ h => h) (Or.inl ⟨by rfl, ?_⟩) ?_ ?_
      rotate_left
      ·intro w'
       go_simp
       with_reducible rfl
      rotate_left
      ·exact zP i64_w i32_w
      refine take_ (i := 0) (N := some 19) (v := ?_) (a' := ?_) #[T,T,T,T,F,T,T,F,F] rfl rfl (take_ofW HT_.out HW_.out (by kernel_rfl)) (fun _ _ _ h => h) (Or.inl ⟨by rfl, ?_⟩) hHeld ?_ ?_
      rotate_left
      ·rintro w' ⟨s0, s1, s2, s3, s4, s5⟩
       go_simp
       with_reducible rfl
      rotate_left
      ·exact zP i64_w i32_w
      refine take_ (i := 4) (N := some 23) (v := ?_) (a' := ?_) #[T,T,T,T,T,T,T,F,F] rfl rfl (take_ofW HT_.out HW_.out (by kernel_rfl)) (fun _ _ _ h => h) (Or.inl ⟨by rfl, ?_⟩) hHeld ?_ ?_
      rotate_left
      ·rintro w' ⟨s0, s1, s2, s3, s4, s5⟩
       go_simp
       with_reducible rfl
      rotate_left
      ·exact zP i64_w i32_w
      refine one_ (i := 7) (N := some 26) #[T,T,T,T,T,T,T,T,F] rfl rfl (one_of HT_.out (by kernel_rfl)) (by decide) (fun K hK => ?_)
      refine goes_ Try.func21 (by kernel_rfl) rfl #[.agg #[.int .i64 x505000_1, .int .i64 x505001_1, .int .i64 x505002_1, .int .i64 x505003_1], .agg #[.int .i64 ((rd_T25 l0 x9_1).f0), .int .i64 ((rd_T25 l0 x9_1).f1)], .int .i64 a1, .int .i64 a2] (by rfl) rfl rfl zM ?_
      with_reducible refine (r36_Valid.calls k1 x505000_1 x505001_1 x505002_1 x505003_1 ((rd_T25 l0 x9_1).f0) ((rd_T25 l0 x9_1).f1) a1 a2 true _ A7.out).mono ?_
      rintro e w14 ⟨rfl, hb⟩
      refine ⟨_, rfl, ?_⟩
      have n0_ := am (Kd.R_below (zR HO_7.out) hb)
      have n1_ := am (blk_below (g := gb504) (o := .cells #[.int .i64 x505000_1, .int .i64 x505001_1, .int .i64 x505002_1, .int .i64 x505003_1] 23 (0, 0)) (zL BK504.out) hb)
      have n2_ := am (below_step (zG HB GE504) hb)
      clear HO_7
      clear BK504
      clear HB
      have HO_7 := n0_
      have BK504 := n1_
      have HB := n2_
      clear n0_ n1_ n2_
      (try clear hb)
      (try clear hb2)
      (try clear hk)
      (try clear hi)
      refine hK.out _ _ ⟨(blk_cell BK504.out 0).trans rfl, (blk_cell BK504.out 1).trans rfl, (blk_cell BK504.out 2).trans rfl, (blk_cell BK504.out 3).trans rfl, ((HB.out.cell (World.block_lt_of_cell? w _ hw505_0)).trans hw505_0), ((HB.out.cell (World.block_lt_of_cell? w _ hw505_1)).trans hw505_1)⟩ (fun hHeld => ?_)
      clear hK K
      refine norm_ (a' := ?_) ?_ ?_
      rotate_left
      ·show Act.put _ (some 26) _ = _
       simp only [Act.put, List.setIfInBounds_toArray, List.set_cons_zero, List.set_cons_succ, i64_w, i32_w]
       rfl
      refine pure_ (i := 8) (N := some 27) (v := ?_) (a' := ?_) #[T,T,T,T,T,T,T,T,T] rfl rfl (zO HT_) (fun _ _ _ h => h) (Or.inl ⟨by rfl, ?_⟩) ?_ ?_
      rotate_left
      ·intro w'
       go_simp
       with_reducible rfl
      rotate_left
      ·exact zP i64_w i32_w
      refine done_ (done_of HT_.out (by kernel_rfl)) ?_
      try go_wp2
      have n0_ := am (Kd.R_drew HO_7.out)
      have n1_ := am (blk_drew BK504.out)
      have n2_ := am (below_drew1 HB.out)
      clear HO_7
      clear BK504
      clear HB
      have HO_7 := n0_
      have BK504 := n1_
      have HB := n2_
      clear n0_ n1_ n2_
      have p507 : 0 ≤ (x9_1 : Int) := of_decide_eq_true zA
      have q507 : x9_1 < (l0.length : Int) := of_decide_eq_true zA
      obtain ⟨ad507, e507, hx507_0, hx507_1⟩ := at_T25 HR0.out x9_1 p507 q507
      have hw507_1 := hx507_1
      have hw507_0 := hx507_0
      obtain rfl : ad505 = ad507 := (by injection e507)
      replace hx507_0 := (HB.out.cell (World.block_lt_of_cell? w _ hx507_0)).trans hx507_0
      replace hx507_1 := (HB.out.cell (World.block_lt_of_cell? w _ hx507_1)).trans hx507_1
      replace p507 := eq_true p507
      replace q507 := eq_true q507
      refine start_ (n := 15) (S := fun w' => w'.cell? ⟨gb504, 0, none⟩ = some (.int .i64 x505000_1) ∧ w'.cell? ⟨gb504, 1, none⟩ = some (.int .i64 x505001_1) ∧ w'.cell? ⟨gb504, 2, none⟩ = some (.int .i64 x505002_1) ∧ w'.cell? ⟨gb504, 3, none⟩ = some (.int .i64 x505003_1) ∧ w'.cell? (ad505.add ((x9_1).toNat * 2)) = some (.int .i64 ((rd_T25 l0 x9_1).f0)) ∧ w'.cell? ⟨(ad505.add ((x9_1).toNat * 2)).block, (ad505.add ((x9_1).toNat * 2)).off + 1, none⟩ = some (.int .i64 ((rd_T25 l0 x9_1).f1))) (ds := []) #[F,F,F,F,F,F,F,F,F,F,F,F,F,F,F] (by kernel_rfl) rfl rfl ⟨(blk_cell BK504.out 0).trans rfl, (blk_cell BK504.out 1).trans rfl, (blk_cell BK504.out 2).trans rfl, (blk_cell BK504.out 3).trans rfl, ((HB.out.cell (World.block_lt_of_cell? w _ hw507_0)).trans hw507_0), ((HB.out.cell (World.block_lt_of_cell? w _ hw507_1)).trans hw507_1)⟩ (fun hHeld => ?_); refine with_tabW r36_Replay.tab7 r36_Replay.bits7 (fun HT_ HW_ => ?_)
      generalize w14.drew = w15 at HO_7 BK504 HB hx507_0 hx507_1 hHeld ⊢
      refine pure_ (i := 1) (N := some 30) (v := ?_) (a' := ?_) #[F,T,F,F,F,F,F,F,F,F,F,F,F,F,F] rfl rfl (zO HT_) (fun _ _ _ h => h) (Or.inl ⟨by rfl, ?_⟩) ?_ ?_
      rotate_left
      ·intro w'
       go_simp
       with_reducible rfl
      rotate_left
      ·exact zP i64_w i32_w
      refine pure_ (i := 2) (N := some 31) (v := ?_) (a' := ?_) #[F,T,T,F,F,F,F,F,F,F,F,F,F,F,F] rfl rfl (zO HT_) (fun _ _ _ h => h) (Or.inl ⟨by rfl, ?_⟩) ?_ ?_
      rotate_left
      ·intro w'
       go_simp
       with_reducible rfl
      rotate_left
      ·exact zP i64_w i32_w
      refine pure_ (i := 3) (N := some 32) (v := ?_) (a' := ?_) #[F,T,T,T,F,F,F,F,F,F,F,F,F,F,F] rfl rfl (zO HT_) (fun _ _ _ h => h) (Or.inl ⟨by rfl, ?_⟩) ?_ ?_
      rotate_left
      ·intro w'
       go_simp
       with_reducible rfl
      rotate_left
      ·exact zP i64_w i32_w
      refine pure_ (i := 5) (N := some 34) (v := ?_) (a' := ?_) #[F,T,T,T,F,T,F,F,F,F,F,F,F,F,F] rfl rfl (zO HT_) (fun _ _ _ h => h) (Or.inl ⟨by rfl, ?_⟩) ?_ ?_
      rotate_left
      ·intro w'
       go_simp
       with_reducible rfl
      rotate_left
      ·exact zP i64_w i32_w
      refine pure_ (i := 6) (N := some 35) (v := ?_) (a' := ?_) #[F,T,T,T,F,T,T,F,F,F,F,F,F,F,F] rfl rfl (zO HT_) (fun _ _ _ h => h) (Or.inl ⟨by rfl, ?_⟩) ?_ ?_
      rotate_left
      ·intro w'
       go_simp
       with_reducible rfl
      rotate_left
      ·exact zP i64_w i32_w
      refine take_ (i := 0) (N := some 29) (v := ?_) (a' := ?_) #[T,T,T,T,F,T,T,F,F,F,F,F,F,F,F] rfl rfl (take_ofW HT_.out HW_.out (by kernel_rfl)) (fun _ _ _ h => h) (Or.inl ⟨by rfl, ?_⟩) hHeld ?_ ?_
      rotate_left
      ·rintro w' ⟨s0, s1, s2, s3, s4, s5⟩
       go_simp
       with_reducible rfl
      rotate_left
      ·exact zP i64_w i32_w
      refine take_ (i := 4) (N := some 33) (v := ?_) (a' := ?_) #[T,T,T,T,T,T,T,F,F,F,F,F,F,F,F] rfl rfl (take_ofW HT_.out HW_.out (by kernel_rfl)) (fun _ _ _ h => h) (Or.inl ⟨by rfl, ?_⟩) hHeld ?_ ?_
      rotate_left
      ·rintro w' ⟨s0, s1, s2, s3, s4, s5⟩
       go_simp
       with_reducible rfl
      rotate_left
      ·exact zP i64_w i32_w
      refine join_ (σ := Nat × Nat) 2 #[T,T,T,T,T,T,T,T,T,T,T,T,T,F,F] (fun s_ => [(36, .tuple #[.agg #[.int .i64 t508, .int .i64 t509, .int .i64 t510, .int .i64 t511], .agg #[.int .i64 t512, .int .i64 t513]]), (10, .pointer (some ⟨s_.1, 0, none⟩)), (11, .pointer (some ⟨s_.2, 0, none⟩)), (28, .tuple #[.agg #[.int .i64 t508, .int .i64 t509, .int .i64 t510, .int .i64 t511], .agg #[.int .i64 t512, .int .i64 t513]]), (37, .agg #[.int .i64 t508, .int .i64 t509, .int .i64 t510, .int .i64 t511]), (38, .agg #[.int .i64 t512, .int .i64 t513])]) (fun s_ w' => (w'.cell? ⟨gb504, 0, none⟩ = some (.int .i64 x505000_1) ∧ w'.cell? ⟨gb504, 1, none⟩ = some (.int .i64 x505001_1) ∧ w'.cell? ⟨gb504, 2, none⟩ = some (.int .i64 x505002_1) ∧ w'.cell? ⟨gb504, 3, none⟩ = some (.int .i64 x505003_1) ∧ w'.cell? (ad505.add ((x9_1).toNat * 2)) = some (.int .i64 ((rd_T25 l0 x9_1).f0)) ∧ w'.cell? ⟨(ad505.add ((x9_1).toNat * 2)).block, (ad505.add ((x9_1).toNat * 2)).off + 1, none⟩ = some (.int .i64 ((rd_T25 l0 x9_1).f1))) ∧ (Kd.R k25 25 w' w.heap.size (fun k_ => k_ ≠ s_.2) u7 x7_1) ∧ (w'.heap[gb504]? = some (.cells #[.int .i64 x505000_1, .int .i64 x505001_1, .int .i64 x505002_1, .int .i64 x505003_1] 23 (0, 0))) ∧ (w'.heap[s_.1]? = some (.cells #[.int .i64 0, .int .i64 0, .int .i64 0, .int .i64 0] 23 (0, 0))) ∧ (w'.heap[s_.2]? = some (.cells #[.int .i64 0, .int .i64 0] 25 (0, 0))) ∧ (w.heap.size ≤ s_.1) ∧ (w.heap.size ≤ s_.1) ∧ (gb504 ≠ s_.1) ∧ (s_.1 ≠ gb504) ∧ (s_.2 ≠ s_.1) ∧ (s_.1 ≠ s_.2) ∧ (w.heap.size ≤ s_.2) ∧ (w.heap.size ≤ s_.2) ∧ (gb504 ≠ s_.2) ∧ (s_.2 ≠ gb504) ∧ (Below w.heap.size w w')) ?_ ?_
      rotate_left
      ·intro hJ7_11_12
       refine join_ (σ := Nat) 3 #[T,T,T,T,T,T,T,T,T,T,T,T,F,F,F] (fun s_ => [(36, .tuple #[.agg #[.int .i64 t508, .int .i64 t509, .int .i64 t510, .int .i64 t511], .agg #[.int .i64 t512, .int .i64 t513]]), (10, .pointer (some ⟨s_, 0, none⟩)), (28, .tuple #[.agg #[.int .i64 t508, .int .i64 t509, .int .i64 t510, .int .i64 t511], .agg #[.int .i64 t512, .int .i64 t513]]), (37, .agg #[.int .i64 t508, .int .i64 t509, .int .i64 t510, .int .i64 t511]), (38, .agg #[.int .i64 t512, .int .i64 t513])]) (fun s_ w' => (w'.cell? ⟨gb504, 0, none⟩ = some (.int .i64 x505000_1) ∧ w'.cell? ⟨gb504, 1, none⟩ = some (.int .i64 x505001_1) ∧ w'.cell? ⟨gb504, 2, none⟩ = some (.int .i64 x505002_1) ∧ w'.cell? ⟨gb504, 3, none⟩ = some (.int .i64 x505003_1) ∧ w'.cell? (ad505.add ((x9_1).toNat * 2)) = some (.int .i64 ((rd_T25 l0 x9_1).f0)) ∧ w'.cell? ⟨(ad505.add ((x9_1).toNat * 2)).block, (ad505.add ((x9_1).toNat * 2)).off + 1, none⟩ = some (.int .i64 ((rd_T25 l0 x9_1).f1))) ∧ (Kd.R k25 25 w' w.heap.size (fun _ => True) u7 x7_1) ∧ (w'.heap[gb504]? = some (.cells #[.int .i64 x505000_1, .int .i64 x505001_1, .int .i64 x505002_1, .int .i64 x505003_1] 23 (0, 0))) ∧ (w'.heap[s_]? = some (.cells #[.int .i64 0, .int .i64 0, .int .i64 0, .int .i64 0] 23 (0, 0))) ∧ (w.heap.size ≤ s_) ∧ (w.heap.size ≤ s_) ∧ (gb504 ≠ s_) ∧ (s_ ≠ gb504) ∧ (Below w.heap.size w w')) ?_ ?_
       rotate_left
       ·intro hJ7_11
        refine join_ (σ := Nat) 3 #[T,T,T,T,T,T,T,T,T,T,T,F,T,F,F] (fun s_ => [(36, .tuple #[.agg #[.int .i64 t508, .int .i64 t509, .int .i64 t510, .int .i64 t511], .agg #[.int .i64 t512, .int .i64 t513]]), (11, .pointer (some ⟨s_, 0, none⟩)), (28, .tuple #[.agg #[.int .i64 t508, .int .i64 t509, .int .i64 t510, .int .i64 t511], .agg #[.int .i64 t512, .int .i64 t513]]), (37, .agg #[.int .i64 t508, .int .i64 t509, .int .i64 t510, .int .i64 t511]), (38, .agg #[.int .i64 t512, .int .i64 t513])]) (fun s_ w' => (w'.cell? ⟨gb504, 0, none⟩ = some (.int .i64 x505000_1) ∧ w'.cell? ⟨gb504, 1, none⟩ = some (.int .i64 x505001_1) ∧ w'.cell? ⟨gb504, 2, none⟩ = some (.int .i64 x505002_1) ∧ w'.cell? ⟨gb504, 3, none⟩ = some (.int .i64 x505003_1) ∧ w'.cell? (ad505.add ((x9_1).toNat * 2)) = some (.int .i64 ((rd_T25 l0 x9_1).f0)) ∧ w'.cell? ⟨(ad505.add ((x9_1).toNat * 2)).block, (ad505.add ((x9_1).toNat * 2)).off + 1, none⟩ = some (.int .i64 ((rd_T25 l0 x9_1).f1))) ∧ (Kd.R k25 25 w' w.heap.size (fun k_ => k_ ≠ s_) u7 x7_1) ∧ (w'.heap[gb504]? = some (.cells #[.int .i64 x505000_1, .int .i64 x505001_1, .int .i64 x505002_1, .int .i64 x505003_1] 23 (0, 0))) ∧ (w'.heap[s_]? = some (.cells #[.int .i64 0, .int .i64 0] 25 (0, 0))) ∧ (w.heap.size ≤ s_) ∧ (w.heap.size ≤ s_) ∧ (gb504 ≠ s_) ∧ (s_ ≠ gb504) ∧ (Below w.heap.size w w')) ?_ ?_
        rotate_left
        ·intro hJ7_12
         refine join_ (σ := Nat × Nat) 6 #[T,T,T,T,T,T,T,F,F,F,F,T,T,F,F] (fun s_ => [(10, .pointer (some ⟨s_.1, 0, none⟩)), (11, .pointer (some ⟨s_.2, 0, none⟩))]) (fun s_ w' => (w'.cell? ⟨gb504, 0, none⟩ = some (.int .i64 x505000_1) ∧ w'.cell? ⟨gb504, 1, none⟩ = some (.int .i64 x505001_1) ∧ w'.cell? ⟨gb504, 2, none⟩ = some (.int .i64 x505002_1) ∧ w'.cell? ⟨gb504, 3, none⟩ = some (.int .i64 x505003_1) ∧ w'.cell? (ad505.add ((x9_1).toNat * 2)) = some (.int .i64 ((rd_T25 l0 x9_1).f0)) ∧ w'.cell? ⟨(ad505.add ((x9_1).toNat * 2)).block, (ad505.add ((x9_1).toNat * 2)).off + 1, none⟩ = some (.int .i64 ((rd_T25 l0 x9_1).f1))) ∧ (Kd.R k25 25 w' w.heap.size (fun k_ => k_ ≠ s_.2) u7 x7_1) ∧ (w'.heap[gb504]? = some (.cells #[.int .i64 x505000_1, .int .i64 x505001_1, .int .i64 x505002_1, .int .i64 x505003_1] 23 (0, 0))) ∧ (w'.heap[s_.1]? = some (.cells #[.int .i64 0, .int .i64 0, .int .i64 0, .int .i64 0] 23 (0, 0))) ∧ (w'.heap[s_.2]? = some (.cells #[.int .i64 0, .int .i64 0] 25 (0, 0))) ∧ (w.heap.size ≤ s_.1) ∧ (w.heap.size ≤ s_.1) ∧ (gb504 ≠ s_.1) ∧ (s_.1 ≠ gb504) ∧ (s_.2 ≠ s_.1) ∧ (s_.1 ≠ s_.2) ∧ (w.heap.size ≤ s_.2) ∧ (w.heap.size ≤ s_.2) ∧ (gb504 ≠ s_.2) ∧ (s_.2 ≠ gb504) ∧ (Below w.heap.size w w')) ?_ ?_
         rotate_left
         ·intro hJ11_12
          refine join_ (σ := Unit) 4 #[T,T,T,T,T,T,T,T,T,T,T,F,F,F,F] (fun s_ => [(36, .tuple #[.agg #[.int .i64 t508, .int .i64 t509, .int .i64 t510, .int .i64 t511], .agg #[.int .i64 t512, .int .i64 t513]]), (28, .tuple #[.agg #[.int .i64 t508, .int .i64 t509, .int .i64 t510, .int .i64 t511], .agg #[.int .i64 t512, .int .i64 t513]]), (37, .agg #[.int .i64 t508, .int .i64 t509, .int .i64 t510, .int .i64 t511]), (38, .agg #[.int .i64 t512, .int .i64 t513])]) (fun s_ w' => (w'.cell? ⟨gb504, 0, none⟩ = some (.int .i64 x505000_1) ∧ w'.cell? ⟨gb504, 1, none⟩ = some (.int .i64 x505001_1) ∧ w'.cell? ⟨gb504, 2, none⟩ = some (.int .i64 x505002_1) ∧ w'.cell? ⟨gb504, 3, none⟩ = some (.int .i64 x505003_1) ∧ w'.cell? (ad505.add ((x9_1).toNat * 2)) = some (.int .i64 ((rd_T25 l0 x9_1).f0)) ∧ w'.cell? ⟨(ad505.add ((x9_1).toNat * 2)).block, (ad505.add ((x9_1).toNat * 2)).off + 1, none⟩ = some (.int .i64 ((rd_T25 l0 x9_1).f1))) ∧ (Kd.R k25 25 w' w.heap.size (fun _ => True) u7 x7_1) ∧ (w'.heap[gb504]? = some (.cells #[.int .i64 x505000_1, .int .i64 x505001_1, .int .i64 x505002_1, .int .i64 x505003_1] 23 (0, 0))) ∧ (Below w.heap.size w w')) ?_ ?_
          rotate_left
          ·intro hJ7
           refine join_ (σ := Nat) 7 #[T,T,T,T,T,T,T,F,F,F,F,T,F,F,F] (fun s_ => [(10, .pointer (some ⟨s_, 0, none⟩))]) (fun s_ w' => (w'.cell? ⟨gb504, 0, none⟩ = some (.int .i64 x505000_1) ∧ w'.cell? ⟨gb504, 1, none⟩ = some (.int .i64 x505001_1) ∧ w'.cell? ⟨gb504, 2, none⟩ = some (.int .i64 x505002_1) ∧ w'.cell? ⟨gb504, 3, none⟩ = some (.int .i64 x505003_1) ∧ w'.cell? (ad505.add ((x9_1).toNat * 2)) = some (.int .i64 ((rd_T25 l0 x9_1).f0)) ∧ w'.cell? ⟨(ad505.add ((x9_1).toNat * 2)).block, (ad505.add ((x9_1).toNat * 2)).off + 1, none⟩ = some (.int .i64 ((rd_T25 l0 x9_1).f1))) ∧ (Kd.R k25 25 w' w.heap.size (fun _ => True) u7 x7_1) ∧ (w'.heap[gb504]? = some (.cells #[.int .i64 x505000_1, .int .i64 x505001_1, .int .i64 x505002_1, .int .i64 x505003_1] 23 (0, 0))) ∧ (w'.heap[s_]? = some (.cells #[.int .i64 0, .int .i64 0, .int .i64 0, .int .i64 0] 23 (0, 0))) ∧ (w.heap.size ≤ s_) ∧ (w.heap.size ≤ s_) ∧ (gb504 ≠ s_) ∧ (s_ ≠ gb504) ∧ (Below w.heap.size w w')) ?_ ?_
           rotate_left
           ·intro hJ11
            refine join_ (σ := Nat) 7 #[T,T,T,T,T,T,T,F,F,F,F,F,T,F,F] (fun s_ => [(11, .pointer (some ⟨s_, 0, none⟩))]) (fun s_ w' => (w'.cell? ⟨gb504, 0, none⟩ = some (.int .i64 x505000_1) ∧ w'.cell? ⟨gb504, 1, none⟩ = some (.int .i64 x505001_1) ∧ w'.cell? ⟨gb504, 2, none⟩ = some (.int .i64 x505002_1) ∧ w'.cell? ⟨gb504, 3, none⟩ = some (.int .i64 x505003_1) ∧ w'.cell? (ad505.add ((x9_1).toNat * 2)) = some (.int .i64 ((rd_T25 l0 x9_1).f0)) ∧ w'.cell? ⟨(ad505.add ((x9_1).toNat * 2)).block, (ad505.add ((x9_1).toNat * 2)).off + 1, none⟩ = some (.int .i64 ((rd_T25 l0 x9_1).f1))) ∧ (Kd.R k25 25 w' w.heap.size (fun k_ => k_ ≠ s_) u7 x7_1) ∧ (w'.heap[gb504]? = some (.cells #[.int .i64 x505000_1, .int .i64 x505001_1, .int .i64 x505002_1, .int .i64 x505003_1] 23 (0, 0))) ∧ (w'.heap[s_]? = some (.cells #[.int .i64 0, .int .i64 0] 25 (0, 0))) ∧ (w.heap.size ≤ s_) ∧ (w.heap.size ≤ s_) ∧ (gb504 ≠ s_) ∧ (s_ ≠ gb504) ∧ (Below w.heap.size w w')) ?_ ?_
            rotate_left
            ·intro hJ12
             refine three_ (i := 7) (j := 11) (k := 12) (Ni := some 36) (Nj := some 10) (Nk := some 11) #[T,T,T,T,T,T,T,T,F,F,F,F,F,F,F] #[T,T,T,T,T,T,T,F,F,F,F,T,F,F,F] #[T,T,T,T,T,T,T,F,F,F,F,F,T,F,F] rfl rfl rfl rfl rfl rfl (three_of HT_.out (by kernel_rfl)) (by decide) (by decide) (by decide) (fun K hK => ?_) (fun K hK => ?_) (fun K hK => ?_)
             ·skip
              refine goes_ Try.func11 (by kernel_rfl) rfl #[.agg #[.int .i64 x505000_1, .int .i64 x505001_1, .int .i64 x505002_1, .int .i64 x505003_1], .agg #[.int .i64 ((rd_T25 l0 x9_1).f0), .int .i64 ((rd_T25 l0 x9_1).f1)], .int .i64 a1, .int .i64 a2] (by rfl) rfl rfl zM ?_
              with_reducible refine (r36_Read.calls k1 x505000_1 x505001_1 x505002_1 x505003_1 ((rd_T25 l0 x9_1).f0) ((rd_T25 l0 x9_1).f1) a1 a2 t508 t509 t510 t511 t512 t513 _ A9.out).mono ?_
              rintro e w16 ⟨rfl, hb⟩
              refine ⟨_, rfl, ?_⟩
              have n0_ := am (Kd.R_below (zR HO_7.out) hb)
              have n1_ := am (blk_below (g := gb504) (o := .cells #[.int .i64 x505000_1, .int .i64 x505001_1, .int .i64 x505002_1, .int .i64 x505003_1] 23 (0, 0)) (zL BK504.out) hb)
              have n2_ := am (below_step (zG HB GE504) hb)
              clear HO_7
              clear BK504
              clear HB
              have HO_7 := n0_
              have BK504 := n1_
              have HB := n2_
              clear n0_ n1_ n2_
              (try clear hb)
              (try clear hb2)
              (try clear hk)
              (try clear hi)
              refine hK.out _ _ ⟨(blk_cell BK504.out 0).trans rfl, (blk_cell BK504.out 1).trans rfl, (blk_cell BK504.out 2).trans rfl, (blk_cell BK504.out 3).trans rfl, ((HB.out.cell (World.block_lt_of_cell? w _ hw507_0)).trans hw507_0), ((HB.out.cell (World.block_lt_of_cell? w _ hw507_1)).trans hw507_1)⟩ (fun hHeld => ?_)
              clear hK K
              refine norm_ (a' := ?_) ?_ ?_
              rotate_left
              ·show Act.put _ (some 36) _ = _
               simp only [Act.put, List.setIfInBounds_toArray, List.set_cons_zero, List.set_cons_succ, i64_w, i32_w]
               rfl
              refine pure_ (i := 8) (N := some 28) (v := ?_) (a' := ?_) #[T,T,T,T,T,T,T,T,T,F,F,F,F,F,F] rfl rfl (zO HT_) (fun _ _ _ h => h) (Or.inl ⟨by rfl, ?_⟩) ?_ ?_
              rotate_left
              ·intro w'
               go_simp
               with_reducible rfl
              rotate_left
              ·exact zP i64_w i32_w
              refine pure_ (i := 9) (N := some 37) (v := ?_) (a' := ?_) #[T,T,T,T,T,T,T,T,T,T,F,F,F,F,F] rfl rfl (zO HT_) (fun _ _ _ h => h) (Or.inl ⟨by rfl, ?_⟩) ?_ ?_
              rotate_left
              ·intro w'
               go_simp
               with_reducible rfl
              rotate_left
              ·exact zP i64_w i32_w
              refine pure_ (i := 10) (N := some 38) (v := ?_) (a' := ?_) #[T,T,T,T,T,T,T,T,T,T,T,F,F,F,F] rfl rfl (zO HT_) (fun _ _ _ h => h) (Or.inl ⟨by rfl, ?_⟩) ?_ ?_
              rotate_left
              ·intro w'
               go_simp
               with_reducible rfl
              rotate_left
              ·exact zP i64_w i32_w
              exact norm_ (by first | (simp only [putAll, Act.put, List.setIfInBounds_toArray, List.set_cons_zero, List.set_cons_succ]; done) | (simp only [putAll, Act.put, List.setIfInBounds_toArray, List.set_cons_zero, List.set_cons_succ]; rfl)) (hJ7 () _ ⟨hHeld, (zR HO_7.out), (zL BK504.out), (zG HB GE504)⟩)
             ·skip
              refine box_step ?hg (N := 10) ?hd (cs := #[.int .i64 0, .int .i64 0, .int .i64 0, .int .i64 0]) (t := 23) ?hr ?_; (case hd => rfl); (case hg => rfl); (case hr => first | (go_simp; done) | (go_simp; rfl))
              intro gb514 hg w16 hbox hb
              have n0_ := am (Kd.R_below (zR HO_7.out) hb)
              have n1_ := am (blk_below (g := gb504) (o := .cells #[.int .i64 x505000_1, .int .i64 x505001_1, .int .i64 x505002_1, .int .i64 x505003_1] 23 (0, 0)) (zL BK504.out) hb)
              have n2_ := am (below_step (zG HB GE504) hb)
              have n3_ := am (hbox)
              have n4_ := am ((by rw [hg]; exact (below_size (zG HB GE504)) : w.heap.size ≤ gb514))
              have n5_ := am ((by rw [hg]; exact (below_size (zG HB GE504)) : w.heap.size ≤ gb514))
              have n6_ := am ((by rw [hg]; exact Nat.ne_of_lt (blk_lt (g := gb504) (o := .cells #[.int .i64 x505000_1, .int .i64 x505001_1, .int .i64 x505002_1, .int .i64 x505003_1] 23 (0, 0)) (zL BK504.out)) : gb504 ≠ gb514))
              have n7_ := am ((by rw [hg]; exact Nat.ne_of_gt (blk_lt (g := gb504) (o := .cells #[.int .i64 x505000_1, .int .i64 x505001_1, .int .i64 x505002_1, .int .i64 x505003_1] 23 (0, 0)) (zL BK504.out)) : gb514 ≠ gb504))
              clear HO_7
              clear BK504
              clear HB
              have HO_7 := n0_
              have BK504 := n1_
              have HB := n2_
              have BK514 := n3_
              have GW514 := n4_
              have GE514 := n5_
              have NB504_514 := n6_
              have NB514_504 := n7_
              clear n0_ n1_ n2_ n3_ n4_ n5_ n6_ n7_
              clear hb hbox hg
              refine hK.out _ _ ⟨(blk_cell BK504.out 0).trans rfl, (blk_cell BK504.out 1).trans rfl, (blk_cell BK504.out 2).trans rfl, (blk_cell BK504.out 3).trans rfl, ((HB.out.cell (World.block_lt_of_cell? w _ hw507_0)).trans hw507_0), ((HB.out.cell (World.block_lt_of_cell? w _ hw507_1)).trans hw507_1)⟩ (fun hHeld => ?_)
              clear hK K
              refine norm_ (a' := ?_) ?_ ?_
              rotate_left
              ·show Act.put _ (some 10) _ = _
               simp only [Act.put, List.setIfInBounds_toArray, List.set_cons_zero, List.set_cons_succ, i64_w, i32_w]
               rfl
              exact norm_ (by first | (simp only [putAll, Act.put, List.setIfInBounds_toArray, List.set_cons_zero, List.set_cons_succ]; done) | (simp only [putAll, Act.put, List.setIfInBounds_toArray, List.set_cons_zero, List.set_cons_succ]; rfl)) (hJ11 (gb514) _ ⟨hHeld, (zR HO_7.out), (zL BK504.out), (zL BK514.out), GW514.out, GE514.out, NB504_514.out, NB514_504.out, (zG2 HB GE504 GE514)⟩)
             ·skip
              refine box_step ?hg (N := 11) ?hd (cs := #[.int .i64 0, .int .i64 0]) (t := 25) ?hr ?_; (case hd => rfl); (case hg => rfl); (case hr => first | (go_simp; done) | (go_simp; rfl))
              intro gb515 hg w16 hbox hb
              have n0_ := am (Kd.R_below (Kd.R_elderB (zR HO_7.out) gb515 (Nat.le_of_eq hg.symm)) hb)
              have n1_ := am (blk_below (g := gb504) (o := .cells #[.int .i64 x505000_1, .int .i64 x505001_1, .int .i64 x505002_1, .int .i64 x505003_1] 23 (0, 0)) (zL BK504.out) hb)
              have n2_ := am (below_step (zG HB GE504) hb)
              have n3_ := am (hbox)
              have n4_ := am ((by rw [hg]; exact (below_size (zG HB GE504)) : w.heap.size ≤ gb515))
              have n5_ := am ((by rw [hg]; exact (below_size (zG HB GE504)) : w.heap.size ≤ gb515))
              have n6_ := am ((by rw [hg]; exact Nat.ne_of_lt (blk_lt (g := gb504) (o := .cells #[.int .i64 x505000_1, .int .i64 x505001_1, .int .i64 x505002_1, .int .i64 x505003_1] 23 (0, 0)) (zL BK504.out)) : gb504 ≠ gb515))
              have n7_ := am ((by rw [hg]; exact Nat.ne_of_gt (blk_lt (g := gb504) (o := .cells #[.int .i64 x505000_1, .int .i64 x505001_1, .int .i64 x505002_1, .int .i64 x505003_1] 23 (0, 0)) (zL BK504.out)) : gb515 ≠ gb504))
              clear HO_7
              clear BK504
              clear HB
              have HO_7 := n0_
              have BK504 := n1_
              have HB := n2_
              have BK515 := n3_
              have GW515 := n4_
              have GE515 := n5_
              have NB504_515 := n6_
              have NB515_504 := n7_
              clear n0_ n1_ n2_ n3_ n4_ n5_ n6_ n7_
              clear hb hbox hg
              refine hK.out _ _ ⟨(blk_cell BK504.out 0).trans rfl, (blk_cell BK504.out 1).trans rfl, (blk_cell BK504.out 2).trans rfl, (blk_cell BK504.out 3).trans rfl, ((HB.out.cell (World.block_lt_of_cell? w _ hw507_0)).trans hw507_0), ((HB.out.cell (World.block_lt_of_cell? w _ hw507_1)).trans hw507_1)⟩ (fun hHeld => ?_)
              clear hK K
              refine norm_ (a' := ?_) ?_ ?_
              rotate_left
              ·show Act.put _ (some 11) _ = _
               simp only [Act.put, List.setIfInBounds_toArray, List.set_cons_zero, List.set_cons_succ, i64_w, i32_w]
               rfl
              exact norm_ (by first | (simp only [putAll, Act.put, List.setIfInBounds_toArray, List.set_cons_zero, List.set_cons_succ]; done) | (simp only [putAll, Act.put, List.setIfInBounds_toArray, List.set_cons_zero, List.set_cons_succ]; rfl)) (hJ12 (gb515) _ ⟨hHeld, (by refine zR ?_; exact Kd.R_mono HO_7.out (fun _ hk => hk.2)), (zL BK504.out), (zL BK515.out), GW515.out, GE515.out, NB504_515.out, NB515_504.out, (zG2 HB GE504 GE515)⟩)
            ·skip
             rintro gb515 w17 ⟨hS_, h0_, h1_, h2_, h3_, h4_, h5_, h6_, h7_⟩
             have n0_ : Aside0 (Kd.R k25 25 w17 w.heap.size (fun k_ => k_ ≠ gb515) u7 x7_1) := ⟨h0_⟩
             have n1_ : Aside0 (w17.heap[gb504]? = some (.cells #[.int .i64 x505000_1, .int .i64 x505001_1, .int .i64 x505002_1, .int .i64 x505003_1] 23 (0, 0))) := ⟨h1_⟩
             have n2_ : Aside0 (w17.heap[gb515]? = some (.cells #[.int .i64 0, .int .i64 0] 25 (0, 0))) := ⟨h2_⟩
             have n3_ : Aside0 (w.heap.size ≤ gb515) := ⟨h3_⟩
             have n4_ : Aside0 (w.heap.size ≤ gb515) := ⟨h4_⟩
             have n5_ : Aside0 (gb504 ≠ gb515) := ⟨h5_⟩
             have n6_ : Aside0 (gb515 ≠ gb504) := ⟨h6_⟩
             have n7_ : Aside0 (Below w.heap.size w w17) := ⟨h7_⟩
             clear HO_7
             clear BK504
             clear HB
             clear h0_ h1_ h2_ h3_ h4_ h5_ h6_ h7_
             have HO_7 := n0_
             have BK504 := n1_
             have BK515 := n2_
             have GW515 := n3_
             have GE515 := n4_
             have NB504_515 := n5_
             have NB515_504 := n6_
             have HB := n7_
             clear n0_ n1_ n2_ n3_ n4_ n5_ n6_ n7_
             have hHeld : w17.cell? ⟨gb504, 0, none⟩ = some (.int .i64 x505000_1) ∧ w17.cell? ⟨gb504, 1, none⟩ = some (.int .i64 x505001_1) ∧ w17.cell? ⟨gb504, 2, none⟩ = some (.int .i64 x505002_1) ∧ w17.cell? ⟨gb504, 3, none⟩ = some (.int .i64 x505003_1) ∧ w17.cell? (ad505.add ((x9_1).toNat * 2)) = some (.int .i64 ((rd_T25 l0 x9_1).f0)) ∧ w17.cell? ⟨(ad505.add ((x9_1).toNat * 2)).block, (ad505.add ((x9_1).toNat * 2)).off + 1, none⟩ = some (.int .i64 ((rd_T25 l0 x9_1).f1)) := hS_
             refine norm_ (a' := ?_) ?_ ?_
             rotate_left
             ·simp only [putAll, Act.put, List.setIfInBounds_toArray, List.set_cons_zero, List.set_cons_succ]
              rfl
             refine two_ (i := 7) (j := 11) (Ni := some 36) (Nj := some 10) #[T,T,T,T,T,T,T,T,F,F,F,F,T,F,F] #[T,T,T,T,T,T,T,F,F,F,F,T,T,F,F] rfl rfl rfl rfl (two_of HT_.out (by kernel_rfl)) (by decide) (by decide) (fun K hK => ?_) (fun K hK => ?_)
             ·skip
              refine goes_ Try.func11 (by kernel_rfl) rfl #[.agg #[.int .i64 x505000_1, .int .i64 x505001_1, .int .i64 x505002_1, .int .i64 x505003_1], .agg #[.int .i64 ((rd_T25 l0 x9_1).f0), .int .i64 ((rd_T25 l0 x9_1).f1)], .int .i64 a1, .int .i64 a2] (by rfl) rfl rfl zM ?_
              with_reducible refine (r36_Read.calls k1 x505000_1 x505001_1 x505002_1 x505003_1 ((rd_T25 l0 x9_1).f0) ((rd_T25 l0 x9_1).f1) a1 a2 t508 t509 t510 t511 t512 t513 _ A9.out).mono ?_
              rintro e w18 ⟨rfl, hb⟩
              refine ⟨_, rfl, ?_⟩
              have n0_ := am (Kd.R_below (zR HO_7.out) hb)
              have n1_ := am (blk_below (g := gb504) (o := .cells #[.int .i64 x505000_1, .int .i64 x505001_1, .int .i64 x505002_1, .int .i64 x505003_1] 23 (0, 0)) (zL BK504.out) hb)
              have n2_ := am (blk_below (g := gb515) (o := .cells #[.int .i64 0, .int .i64 0] 25 (0, 0)) (zL BK515.out) hb)
              have n3_ := am (below_step (zG2 HB GE504 GE515) hb)
              clear HO_7
              clear BK504
              clear BK515
              clear HB
              have HO_7 := n0_
              have BK504 := n1_
              have BK515 := n2_
              have HB := n3_
              clear n0_ n1_ n2_ n3_
              (try clear hb)
              (try clear hb2)
              (try clear hk)
              (try clear hi)
              refine hK.out _ _ ⟨(blk_cell BK504.out 0).trans rfl, (blk_cell BK504.out 1).trans rfl, (blk_cell BK504.out 2).trans rfl, (blk_cell BK504.out 3).trans rfl, ((HB.out.cell (World.block_lt_of_cell? w _ hw507_0)).trans hw507_0), ((HB.out.cell (World.block_lt_of_cell? w _ hw507_1)).trans hw507_1)⟩ (fun hHeld => ?_)
              clear hK K
              refine norm_ (a' := ?_) ?_ ?_
              rotate_left
              ·show Act.put _ (some 36) _ = _
               simp only [Act.put, List.setIfInBounds_toArray, List.set_cons_zero, List.set_cons_succ, i64_w, i32_w]
               rfl
              refine pure_ (i := 8) (N := some 28) (v := ?_) (a' := ?_) #[T,T,T,T,T,T,T,T,T,F,F,F,T,F,F] rfl rfl (zO HT_) (fun _ _ _ h => h) (Or.inl ⟨by rfl, ?_⟩) ?_ ?_
              rotate_left
              ·intro w'
               go_simp
               with_reducible rfl
              rotate_left
              ·exact zP i64_w i32_w
              refine pure_ (i := 9) (N := some 37) (v := ?_) (a' := ?_) #[T,T,T,T,T,T,T,T,T,T,F,F,T,F,F] rfl rfl (zO HT_) (fun _ _ _ h => h) (Or.inl ⟨by rfl, ?_⟩) ?_ ?_
              rotate_left
              ·intro w'
               go_simp
               with_reducible rfl
              rotate_left
              ·exact zP i64_w i32_w
              refine pure_ (i := 10) (N := some 38) (v := ?_) (a' := ?_) #[T,T,T,T,T,T,T,T,T,T,T,F,T,F,F] rfl rfl (zO HT_) (fun _ _ _ h => h) (Or.inl ⟨by rfl, ?_⟩) ?_ ?_
              rotate_left
              ·intro w'
               go_simp
               with_reducible rfl
              rotate_left
              ·exact zP i64_w i32_w
              exact norm_ (by first | (simp only [putAll, Act.put, List.setIfInBounds_toArray, List.set_cons_zero, List.set_cons_succ]; done) | (simp only [putAll, Act.put, List.setIfInBounds_toArray, List.set_cons_zero, List.set_cons_succ]; rfl)) (hJ7_12 (gb515) _ ⟨hHeld, (zR HO_7.out), (zL BK504.out), (zL BK515.out), GW515.out, GE515.out, NB504_515.out, NB515_504.out, (zG2 HB GE504 GE515)⟩)
             ·skip
              refine box_step ?hg (N := 10) ?hd (cs := #[.int .i64 0, .int .i64 0, .int .i64 0, .int .i64 0]) (t := 23) ?hr ?_; (case hd => rfl); (case hg => rfl); (case hr => first | (go_simp; done) | (go_simp; rfl))
              intro gb514 hg w18 hbox hb
              have n0_ := am (Kd.R_below (zR HO_7.out) hb)
              have n1_ := am (blk_below (g := gb504) (o := .cells #[.int .i64 x505000_1, .int .i64 x505001_1, .int .i64 x505002_1, .int .i64 x505003_1] 23 (0, 0)) (zL BK504.out) hb)
              have n2_ := am (blk_below (g := gb515) (o := .cells #[.int .i64 0, .int .i64 0] 25 (0, 0)) (zL BK515.out) hb)
              have n3_ := am (below_step (zG2 HB GE504 GE515) hb)
              have n4_ := am (hbox)
              have n5_ := am ((by rw [hg]; exact (below_size (zG2 HB GE504 GE515)) : w.heap.size ≤ gb514))
              have n6_ := am ((by rw [hg]; exact (below_size (zG2 HB GE504 GE515)) : w.heap.size ≤ gb514))
              have n7_ := am ((by rw [hg]; exact Nat.ne_of_lt (blk_lt (g := gb504) (o := .cells #[.int .i64 x505000_1, .int .i64 x505001_1, .int .i64 x505002_1, .int .i64 x505003_1] 23 (0, 0)) (zL BK504.out)) : gb504 ≠ gb514))
              have n8_ := am ((by rw [hg]; exact Nat.ne_of_gt (blk_lt (g := gb504) (o := .cells #[.int .i64 x505000_1, .int .i64 x505001_1, .int .i64 x505002_1, .int .i64 x505003_1] 23 (0, 0)) (zL BK504.out)) : gb514 ≠ gb504))
              have n9_ := am ((by rw [hg]; exact Nat.ne_of_lt (blk_lt (g := gb515) (o := .cells #[.int .i64 0, .int .i64 0] 25 (0, 0)) (zL BK515.out)) : gb515 ≠ gb514))
              have n10_ := am ((by rw [hg]; exact Nat.ne_of_gt (blk_lt (g := gb515) (o := .cells #[.int .i64 0, .int .i64 0] 25 (0, 0)) (zL BK515.out)) : gb514 ≠ gb515))
              clear HO_7
              clear BK504
              clear BK515
              clear HB
              have HO_7 := n0_
              have BK504 := n1_
              have BK515 := n2_
              have HB := n3_
              have BK514 := n4_
              have GW514 := n5_
              have GE514 := n6_
              have NB504_514 := n7_
              have NB514_504 := n8_
              have NB515_514 := n9_
              have NB514_515 := n10_
              clear n0_ n1_ n2_ n3_ n4_ n5_ n6_ n7_ n8_ n9_ n10_
              clear hb hbox hg
              refine hK.out _ _ ⟨(blk_cell BK504.out 0).trans rfl, (blk_cell BK504.out 1).trans rfl, (blk_cell BK504.out 2).trans rfl, (blk_cell BK504.out 3).trans rfl, ((HB.out.cell (World.block_lt_of_cell? w _ hw507_0)).trans hw507_0), ((HB.out.cell (World.block_lt_of_cell? w _ hw507_1)).trans hw507_1)⟩ (fun hHeld => ?_)
              clear hK K
              refine norm_ (a' := ?_) ?_ ?_
              rotate_left
              ·show Act.put _ (some 10) _ = _
               simp only [Act.put, List.setIfInBounds_toArray, List.set_cons_zero, List.set_cons_succ, i64_w, i32_w]
               rfl
              exact norm_ (by first | (simp only [putAll, Act.put, List.setIfInBounds_toArray, List.set_cons_zero, List.set_cons_succ]; done) | (simp only [putAll, Act.put, List.setIfInBounds_toArray, List.set_cons_zero, List.set_cons_succ]; rfl)) (hJ11_12 (gb514, gb515) _ ⟨hHeld, (zR HO_7.out), (zL BK504.out), (zL BK514.out), (zL BK515.out), GW514.out, GE514.out, NB504_514.out, NB514_504.out, NB515_514.out, NB514_515.out, GW515.out, GE515.out, NB504_515.out, NB515_504.out, (zG3 HB GE504 GE515 GE514)⟩)
           ·skip
            rintro gb514 w17 ⟨hS_, h0_, h1_, h2_, h3_, h4_, h5_, h6_, h7_⟩
            have n0_ : Aside0 (Kd.R k25 25 w17 w.heap.size (fun _ => True) u7 x7_1) := ⟨h0_⟩
            have n1_ : Aside0 (w17.heap[gb504]? = some (.cells #[.int .i64 x505000_1, .int .i64 x505001_1, .int .i64 x505002_1, .int .i64 x505003_1] 23 (0, 0))) := ⟨h1_⟩
            have n2_ : Aside0 (w17.heap[gb514]? = some (.cells #[.int .i64 0, .int .i64 0, .int .i64 0, .int .i64 0] 23 (0, 0))) := ⟨h2_⟩
            have n3_ : Aside0 (w.heap.size ≤ gb514) := ⟨h3_⟩
            have n4_ : Aside0 (w.heap.size ≤ gb514) := ⟨h4_⟩
            have n5_ : Aside0 (gb504 ≠ gb514) := ⟨h5_⟩
            have n6_ : Aside0 (gb514 ≠ gb504) := ⟨h6_⟩
            have n7_ : Aside0 (Below w.heap.size w w17) := ⟨h7_⟩
            clear HO_7
            clear BK504
            clear HB
            clear h0_ h1_ h2_ h3_ h4_ h5_ h6_ h7_
            have HO_7 := n0_
            have BK504 := n1_
            have BK514 := n2_
            have GW514 := n3_
            have GE514 := n4_
            have NB504_514 := n5_
            have NB514_504 := n6_
            have HB := n7_
            clear n0_ n1_ n2_ n3_ n4_ n5_ n6_ n7_
            have hHeld : w17.cell? ⟨gb504, 0, none⟩ = some (.int .i64 x505000_1) ∧ w17.cell? ⟨gb504, 1, none⟩ = some (.int .i64 x505001_1) ∧ w17.cell? ⟨gb504, 2, none⟩ = some (.int .i64 x505002_1) ∧ w17.cell? ⟨gb504, 3, none⟩ = some (.int .i64 x505003_1) ∧ w17.cell? (ad505.add ((x9_1).toNat * 2)) = some (.int .i64 ((rd_T25 l0 x9_1).f0)) ∧ w17.cell? ⟨(ad505.add ((x9_1).toNat * 2)).block, (ad505.add ((x9_1).toNat * 2)).off + 1, none⟩ = some (.int .i64 ((rd_T25 l0 x9_1).f1)) := hS_
            refine norm_ (a' := ?_) ?_ ?_
            rotate_left
            ·simp only [putAll, Act.put, List.setIfInBounds_toArray, List.set_cons_zero, List.set_cons_succ]
             rfl
            refine two_ (i := 7) (j := 12) (Ni := some 36) (Nj := some 11) #[T,T,T,T,T,T,T,T,F,F,F,T,F,F,F] #[T,T,T,T,T,T,T,F,F,F,F,T,T,F,F] rfl rfl rfl rfl (two_of HT_.out (by kernel_rfl)) (by decide) (by decide) (fun K hK => ?_) (fun K hK => ?_)
            ·skip
             refine goes_ Try.func11 (by kernel_rfl) rfl #[.agg #[.int .i64 x505000_1, .int .i64 x505001_1, .int .i64 x505002_1, .int .i64 x505003_1], .agg #[.int .i64 ((rd_T25 l0 x9_1).f0), .int .i64 ((rd_T25 l0 x9_1).f1)], .int .i64 a1, .int .i64 a2] (by rfl) rfl rfl zM ?_
             with_reducible refine (r36_Read.calls k1 x505000_1 x505001_1 x505002_1 x505003_1 ((rd_T25 l0 x9_1).f0) ((rd_T25 l0 x9_1).f1) a1 a2 t508 t509 t510 t511 t512 t513 _ A9.out).mono ?_
             rintro e w18 ⟨rfl, hb⟩
             refine ⟨_, rfl, ?_⟩
             have n0_ := am (Kd.R_below (zR HO_7.out) hb)
             have n1_ := am (blk_below (g := gb504) (o := .cells #[.int .i64 x505000_1, .int .i64 x505001_1, .int .i64 x505002_1, .int .i64 x505003_1] 23 (0, 0)) (zL BK504.out) hb)
             have n2_ := am (blk_below (g := gb514) (o := .cells #[.int .i64 0, .int .i64 0, .int .i64 0, .int .i64 0] 23 (0, 0)) (zL BK514.out) hb)
             have n3_ := am (below_step (zG2 HB GE504 GE514) hb)
             clear HO_7
             clear BK504
             clear BK514
             clear HB
             have HO_7 := n0_
             have BK504 := n1_
             have BK514 := n2_
             have HB := n3_
             clear n0_ n1_ n2_ n3_
             (try clear hb)
             (try clear hb2)
             (try clear hk)
             (try clear hi)
             refine hK.out _ _ ⟨(blk_cell BK504.out 0).trans rfl, (blk_cell BK504.out 1).trans rfl, (blk_cell BK504.out 2).trans rfl, (blk_cell BK504.out 3).trans rfl, ((HB.out.cell (World.block_lt_of_cell? w _ hw507_0)).trans hw507_0), ((HB.out.cell (World.block_lt_of_cell? w _ hw507_1)).trans hw507_1)⟩ (fun hHeld => ?_)
             clear hK K
             refine norm_ (a' := ?_) ?_ ?_
             rotate_left
             ·show Act.put _ (some 36) _ = _
              simp only [Act.put, List.setIfInBounds_toArray, List.set_cons_zero, List.set_cons_succ, i64_w, i32_w]
              rfl
             refine pure_ (i := 8) (N := some 28) (v := ?_) (a' := ?_) #[T,T,T,T,T,T,T,T,T,F,F,T,F,F,F] rfl rfl (zO HT_) (fun _ _ _ h => h) (Or.inl ⟨by rfl, ?_⟩) ?_ ?_
             rotate_left
             ·intro w'
              go_simp
              with_reducible rfl
             rotate_left
             ·exact zP i64_w i32_w
             refine pure_ (i := 9) (N := some 37) (v := ?_) (a' := ?_) #[T,T,T,T,T,T,T,T,T,T,F,T,F,F,F] rfl rfl (zO HT_) (fun _ _ _ h => h) (Or.inl ⟨by rfl, ?_⟩) ?_ ?_
             rotate_left
             ·intro w'
              go_simp
              with_reducible rfl
             rotate_left
             ·exact zP i64_w i32_w
             refine pure_ (i := 10) (N := some 38) (v := ?_) (a' := ?_) #[T,T,T,T,T,T,T,T,T,T,T,T,F,F,F] rfl rfl (zO HT_) (fun _ _ _ h => h) (Or.inl ⟨by rfl, ?_⟩) ?_ ?_
             rotate_left
             ·intro w'
              go_simp
              with_reducible rfl
             rotate_left
             ·exact zP i64_w i32_w
             exact norm_ (by first | (simp only [putAll, Act.put, List.setIfInBounds_toArray, List.set_cons_zero, List.set_cons_succ]; done) | (simp only [putAll, Act.put, List.setIfInBounds_toArray, List.set_cons_zero, List.set_cons_succ]; rfl)) (hJ7_11 (gb514) _ ⟨hHeld, (zR HO_7.out), (zL BK504.out), (zL BK514.out), GW514.out, GE514.out, NB504_514.out, NB514_504.out, (zG2 HB GE504 GE514)⟩)
            ·skip
             refine box_step ?hg (N := 11) ?hd (cs := #[.int .i64 0, .int .i64 0]) (t := 25) ?hr ?_; (case hd => rfl); (case hg => rfl); (case hr => first | (go_simp; done) | (go_simp; rfl))
             intro gb515 hg w18 hbox hb
             have n0_ := am (Kd.R_below (Kd.R_elderB (zR HO_7.out) gb515 (Nat.le_of_eq hg.symm)) hb)
             have n1_ := am (blk_below (g := gb504) (o := .cells #[.int .i64 x505000_1, .int .i64 x505001_1, .int .i64 x505002_1, .int .i64 x505003_1] 23 (0, 0)) (zL BK504.out) hb)
             have n2_ := am (blk_below (g := gb514) (o := .cells #[.int .i64 0, .int .i64 0, .int .i64 0, .int .i64 0] 23 (0, 0)) (zL BK514.out) hb)
             have n3_ := am (below_step (zG2 HB GE504 GE514) hb)
             have n4_ := am (hbox)
             have n5_ := am ((by rw [hg]; exact (below_size (zG2 HB GE504 GE514)) : w.heap.size ≤ gb515))
             have n6_ := am ((by rw [hg]; exact (below_size (zG2 HB GE504 GE514)) : w.heap.size ≤ gb515))
             have n7_ := am ((by rw [hg]; exact Nat.ne_of_lt (blk_lt (g := gb504) (o := .cells #[.int .i64 x505000_1, .int .i64 x505001_1, .int .i64 x505002_1, .int .i64 x505003_1] 23 (0, 0)) (zL BK504.out)) : gb504 ≠ gb515))
             have n8_ := am ((by rw [hg]; exact Nat.ne_of_gt (blk_lt (g := gb504) (o := .cells #[.int .i64 x505000_1, .int .i64 x505001_1, .int .i64 x505002_1, .int .i64 x505003_1] 23 (0, 0)) (zL BK504.out)) : gb515 ≠ gb504))
             have n9_ := am ((by rw [hg]; exact Nat.ne_of_lt (blk_lt (g := gb514) (o := .cells #[.int .i64 0, .int .i64 0, .int .i64 0, .int .i64 0] 23 (0, 0)) (zL BK514.out)) : gb514 ≠ gb515))
             have n10_ := am ((by rw [hg]; exact Nat.ne_of_gt (blk_lt (g := gb514) (o := .cells #[.int .i64 0, .int .i64 0, .int .i64 0, .int .i64 0] 23 (0, 0)) (zL BK514.out)) : gb515 ≠ gb514))
             clear HO_7
             clear BK504
             clear BK514
             clear HB
             have HO_7 := n0_
             have BK504 := n1_
             have BK514 := n2_
             have HB := n3_
             have BK515 := n4_
             have GW515 := n5_
             have GE515 := n6_
             have NB504_515 := n7_
             have NB515_504 := n8_
             have NB514_515 := n9_
             have NB515_514 := n10_
             clear n0_ n1_ n2_ n3_ n4_ n5_ n6_ n7_ n8_ n9_ n10_
             clear hb hbox hg
             refine hK.out _ _ ⟨(blk_cell BK504.out 0).trans rfl, (blk_cell BK504.out 1).trans rfl, (blk_cell BK504.out 2).trans rfl, (blk_cell BK504.out 3).trans rfl, ((HB.out.cell (World.block_lt_of_cell? w _ hw507_0)).trans hw507_0), ((HB.out.cell (World.block_lt_of_cell? w _ hw507_1)).trans hw507_1)⟩ (fun hHeld => ?_)
             clear hK K
             refine norm_ (a' := ?_) ?_ ?_
             rotate_left
             ·show Act.put _ (some 11) _ = _
              simp only [Act.put, List.setIfInBounds_toArray, List.set_cons_zero, List.set_cons_succ, i64_w, i32_w]
              rfl
             exact norm_ (by first | (simp only [putAll, Act.put, List.setIfInBounds_toArray, List.set_cons_zero, List.set_cons_succ]; done) | (simp only [putAll, Act.put, List.setIfInBounds_toArray, List.set_cons_zero, List.set_cons_succ]; rfl)) (hJ11_12 (gb514, gb515) _ ⟨hHeld, (by refine zR ?_; exact Kd.R_mono HO_7.out (fun _ hk => hk.2)), (zL BK504.out), (zL BK514.out), (zL BK515.out), GW514.out, GE514.out, NB504_514.out, NB514_504.out, NB515_514.out, NB514_515.out, GW515.out, GE515.out, NB504_515.out, NB515_504.out, (zG3 HB GE504 GE514 GE515)⟩)
          ·skip
           rintro _ w17 ⟨hS_, h0_, h1_, h2_⟩
           have n0_ : Aside0 (Kd.R k25 25 w17 w.heap.size (fun _ => True) u7 x7_1) := ⟨h0_⟩
           have n1_ : Aside0 (w17.heap[gb504]? = some (.cells #[.int .i64 x505000_1, .int .i64 x505001_1, .int .i64 x505002_1, .int .i64 x505003_1] 23 (0, 0))) := ⟨h1_⟩
           have n2_ : Aside0 (Below w.heap.size w w17) := ⟨h2_⟩
           clear HO_7
           clear BK504
           clear HB
           clear h0_ h1_ h2_
           have HO_7 := n0_
           have BK504 := n1_
           have HB := n2_
           clear n0_ n1_ n2_
           have hHeld : w17.cell? ⟨gb504, 0, none⟩ = some (.int .i64 x505000_1) ∧ w17.cell? ⟨gb504, 1, none⟩ = some (.int .i64 x505001_1) ∧ w17.cell? ⟨gb504, 2, none⟩ = some (.int .i64 x505002_1) ∧ w17.cell? ⟨gb504, 3, none⟩ = some (.int .i64 x505003_1) ∧ w17.cell? (ad505.add ((x9_1).toNat * 2)) = some (.int .i64 ((rd_T25 l0 x9_1).f0)) ∧ w17.cell? ⟨(ad505.add ((x9_1).toNat * 2)).block, (ad505.add ((x9_1).toNat * 2)).off + 1, none⟩ = some (.int .i64 ((rd_T25 l0 x9_1).f1)) := hS_
           refine norm_ (a' := ?_) ?_ ?_
           rotate_left
           ·simp only [putAll, Act.put, List.setIfInBounds_toArray, List.set_cons_zero, List.set_cons_succ]
            rfl
           refine two_ (i := 11) (j := 12) (Ni := some 10) (Nj := some 11) #[T,T,T,T,T,T,T,T,T,T,T,T,F,F,F] #[T,T,T,T,T,T,T,T,T,T,T,F,T,F,F] rfl rfl rfl rfl (two_of HT_.out (by kernel_rfl)) (by decide) (by decide) (fun K hK => ?_) (fun K hK => ?_)
           ·skip
            refine box_step ?hg (N := 10) ?hd (cs := #[.int .i64 0, .int .i64 0, .int .i64 0, .int .i64 0]) (t := 23) ?hr ?_; (case hd => rfl); (case hg => rfl); (case hr => first | (go_simp; done) | (go_simp; rfl))
            intro gb514 hg w18 hbox hb
            have n0_ := am (Kd.R_below (zR HO_7.out) hb)
            have n1_ := am (blk_below (g := gb504) (o := .cells #[.int .i64 x505000_1, .int .i64 x505001_1, .int .i64 x505002_1, .int .i64 x505003_1] 23 (0, 0)) (zL BK504.out) hb)
            have n2_ := am (below_step (zG HB GE504) hb)
            have n3_ := am (hbox)
            have n4_ := am ((by rw [hg]; exact (below_size (zG HB GE504)) : w.heap.size ≤ gb514))
            have n5_ := am ((by rw [hg]; exact (below_size (zG HB GE504)) : w.heap.size ≤ gb514))
            have n6_ := am ((by rw [hg]; exact Nat.ne_of_lt (blk_lt (g := gb504) (o := .cells #[.int .i64 x505000_1, .int .i64 x505001_1, .int .i64 x505002_1, .int .i64 x505003_1] 23 (0, 0)) (zL BK504.out)) : gb504 ≠ gb514))
            have n7_ := am ((by rw [hg]; exact Nat.ne_of_gt (blk_lt (g := gb504) (o := .cells #[.int .i64 x505000_1, .int .i64 x505001_1, .int .i64 x505002_1, .int .i64 x505003_1] 23 (0, 0)) (zL BK504.out)) : gb514 ≠ gb504))
            clear HO_7
            clear BK504
            clear HB
            have HO_7 := n0_
            have BK504 := n1_
            have HB := n2_
            have BK514 := n3_
            have GW514 := n4_
            have GE514 := n5_
            have NB504_514 := n6_
            have NB514_504 := n7_
            clear n0_ n1_ n2_ n3_ n4_ n5_ n6_ n7_
            clear hb hbox hg
            refine hK.out _ _ ⟨(blk_cell BK504.out 0).trans rfl, (blk_cell BK504.out 1).trans rfl, (blk_cell BK504.out 2).trans rfl, (blk_cell BK504.out 3).trans rfl, ((HB.out.cell (World.block_lt_of_cell? w _ hw507_0)).trans hw507_0), ((HB.out.cell (World.block_lt_of_cell? w _ hw507_1)).trans hw507_1)⟩ (fun hHeld => ?_)
            clear hK K
            refine norm_ (a' := ?_) ?_ ?_
            rotate_left
            ·show Act.put _ (some 10) _ = _
             simp only [Act.put, List.setIfInBounds_toArray, List.set_cons_zero, List.set_cons_succ, i64_w, i32_w]
             rfl
            exact norm_ (by first | (simp only [putAll, Act.put, List.setIfInBounds_toArray, List.set_cons_zero, List.set_cons_succ]; done) | (simp only [putAll, Act.put, List.setIfInBounds_toArray, List.set_cons_zero, List.set_cons_succ]; rfl)) (hJ7_11 (gb514) _ ⟨hHeld, (zR HO_7.out), (zL BK504.out), (zL BK514.out), GW514.out, GE514.out, NB504_514.out, NB514_504.out, (zG2 HB GE504 GE514)⟩)
           ·skip
            refine box_step ?hg (N := 11) ?hd (cs := #[.int .i64 0, .int .i64 0]) (t := 25) ?hr ?_; (case hd => rfl); (case hg => rfl); (case hr => first | (go_simp; done) | (go_simp; rfl))
            intro gb515 hg w18 hbox hb
            have n0_ := am (Kd.R_below (Kd.R_elderB (zR HO_7.out) gb515 (Nat.le_of_eq hg.symm)) hb)
            have n1_ := am (blk_below (g := gb504) (o := .cells #[.int .i64 x505000_1, .int .i64 x505001_1, .int .i64 x505002_1, .int .i64 x505003_1] 23 (0, 0)) (zL BK504.out) hb)
            have n2_ := am (below_step (zG HB GE504) hb)
            have n3_ := am (hbox)
            have n4_ := am ((by rw [hg]; exact (below_size (zG HB GE504)) : w.heap.size ≤ gb515))
            have n5_ := am ((by rw [hg]; exact (below_size (zG HB GE504)) : w.heap.size ≤ gb515))
            have n6_ := am ((by rw [hg]; exact Nat.ne_of_lt (blk_lt (g := gb504) (o := .cells #[.int .i64 x505000_1, .int .i64 x505001_1, .int .i64 x505002_1, .int .i64 x505003_1] 23 (0, 0)) (zL BK504.out)) : gb504 ≠ gb515))
            have n7_ := am ((by rw [hg]; exact Nat.ne_of_gt (blk_lt (g := gb504) (o := .cells #[.int .i64 x505000_1, .int .i64 x505001_1, .int .i64 x505002_1, .int .i64 x505003_1] 23 (0, 0)) (zL BK504.out)) : gb515 ≠ gb504))
            clear HO_7
            clear BK504
            clear HB
            have HO_7 := n0_
            have BK504 := n1_
            have HB := n2_
            have BK515 := n3_
            have GW515 := n4_
            have GE515 := n5_
            have NB504_515 := n6_
            have NB515_504 := n7_
            clear n0_ n1_ n2_ n3_ n4_ n5_ n6_ n7_
            clear hb hbox hg
            refine hK.out _ _ ⟨(blk_cell BK504.out 0).trans rfl, (blk_cell BK504.out 1).trans rfl, (blk_cell BK504.out 2).trans rfl, (blk_cell BK504.out 3).trans rfl, ((HB.out.cell (World.block_lt_of_cell? w _ hw507_0)).trans hw507_0), ((HB.out.cell (World.block_lt_of_cell? w _ hw507_1)).trans hw507_1)⟩ (fun hHeld => ?_)
            clear hK K
            refine norm_ (a' := ?_) ?_ ?_
            rotate_left
            ·show Act.put _ (some 11) _ = _
             simp only [Act.put, List.setIfInBounds_toArray, List.set_cons_zero, List.set_cons_succ, i64_w, i32_w]
             rfl
            exact norm_ (by first | (simp only [putAll, Act.put, List.setIfInBounds_toArray, List.set_cons_zero, List.set_cons_succ]; done) | (simp only [putAll, Act.put, List.setIfInBounds_toArray, List.set_cons_zero, List.set_cons_succ]; rfl)) (hJ7_12 (gb515) _ ⟨hHeld, (by refine zR ?_; exact Kd.R_mono HO_7.out (fun _ hk => hk.2)), (zL BK504.out), (zL BK515.out), GW515.out, GE515.out, NB504_515.out, NB515_504.out, (zG2 HB GE504 GE515)⟩)
         ·skip
          rintro ⟨gb514, gb515⟩ w18 ⟨hS_, h0_, h1_, h2_, h3_, h4_, h5_, h6_, h7_, h8_, h9_, h10_, h11_, h12_, h13_, h14_⟩
          have n0_ : Aside0 (Kd.R k25 25 w18 w.heap.size (fun k_ => k_ ≠ gb515) u7 x7_1) := ⟨h0_⟩
          have n1_ : Aside0 (w18.heap[gb504]? = some (.cells #[.int .i64 x505000_1, .int .i64 x505001_1, .int .i64 x505002_1, .int .i64 x505003_1] 23 (0, 0))) := ⟨h1_⟩
          have n2_ : Aside0 (w18.heap[gb514]? = some (.cells #[.int .i64 0, .int .i64 0, .int .i64 0, .int .i64 0] 23 (0, 0))) := ⟨h2_⟩
          have n3_ : Aside0 (w18.heap[gb515]? = some (.cells #[.int .i64 0, .int .i64 0] 25 (0, 0))) := ⟨h3_⟩
          have n4_ : Aside0 (w.heap.size ≤ gb514) := ⟨h4_⟩
          have n5_ : Aside0 (w.heap.size ≤ gb514) := ⟨h5_⟩
          have n6_ : Aside0 (gb504 ≠ gb514) := ⟨h6_⟩
          have n7_ : Aside0 (gb514 ≠ gb504) := ⟨h7_⟩
          have n8_ : Aside0 (gb515 ≠ gb514) := ⟨h8_⟩
          have n9_ : Aside0 (gb514 ≠ gb515) := ⟨h9_⟩
          have n10_ : Aside0 (w.heap.size ≤ gb515) := ⟨h10_⟩
          have n11_ : Aside0 (w.heap.size ≤ gb515) := ⟨h11_⟩
          have n12_ : Aside0 (gb504 ≠ gb515) := ⟨h12_⟩
          have n13_ : Aside0 (gb515 ≠ gb504) := ⟨h13_⟩
          have n14_ : Aside0 (Below w.heap.size w w18) := ⟨h14_⟩
          clear HO_7
          clear BK504
          clear HB
          clear h0_ h1_ h2_ h3_ h4_ h5_ h6_ h7_ h8_ h9_ h10_ h11_ h12_ h13_ h14_
          have HO_7 := n0_
          have BK504 := n1_
          have BK514 := n2_
          have BK515 := n3_
          have GW514 := n4_
          have GE514 := n5_
          have NB504_514 := n6_
          have NB514_504 := n7_
          have NB515_514 := n8_
          have NB514_515 := n9_
          have GW515 := n10_
          have GE515 := n11_
          have NB504_515 := n12_
          have NB515_504 := n13_
          have HB := n14_
          clear n0_ n1_ n2_ n3_ n4_ n5_ n6_ n7_ n8_ n9_ n10_ n11_ n12_ n13_ n14_
          have hHeld : w18.cell? ⟨gb504, 0, none⟩ = some (.int .i64 x505000_1) ∧ w18.cell? ⟨gb504, 1, none⟩ = some (.int .i64 x505001_1) ∧ w18.cell? ⟨gb504, 2, none⟩ = some (.int .i64 x505002_1) ∧ w18.cell? ⟨gb504, 3, none⟩ = some (.int .i64 x505003_1) ∧ w18.cell? (ad505.add ((x9_1).toNat * 2)) = some (.int .i64 ((rd_T25 l0 x9_1).f0)) ∧ w18.cell? ⟨(ad505.add ((x9_1).toNat * 2)).block, (ad505.add ((x9_1).toNat * 2)).off + 1, none⟩ = some (.int .i64 ((rd_T25 l0 x9_1).f1)) := hS_
          refine norm_ (a' := ?_) ?_ ?_
          rotate_left
          ·simp only [putAll, Act.put, List.setIfInBounds_toArray, List.set_cons_zero, List.set_cons_succ]
           rfl
          refine one_ (i := 7) (N := some 36) #[T,T,T,T,T,T,T,T,F,F,F,T,T,F,F] rfl rfl (one_of HT_.out (by kernel_rfl)) (by decide) (fun K hK => ?_)
          refine goes_ Try.func11 (by kernel_rfl) rfl #[.agg #[.int .i64 x505000_1, .int .i64 x505001_1, .int .i64 x505002_1, .int .i64 x505003_1], .agg #[.int .i64 ((rd_T25 l0 x9_1).f0), .int .i64 ((rd_T25 l0 x9_1).f1)], .int .i64 a1, .int .i64 a2] (by rfl) rfl rfl zM ?_
          with_reducible refine (r36_Read.calls k1 x505000_1 x505001_1 x505002_1 x505003_1 ((rd_T25 l0 x9_1).f0) ((rd_T25 l0 x9_1).f1) a1 a2 t508 t509 t510 t511 t512 t513 _ A9.out).mono ?_
          rintro e w19 ⟨rfl, hb⟩
          refine ⟨_, rfl, ?_⟩
          have n0_ := am (Kd.R_below (zR HO_7.out) hb)
          have n1_ := am (blk_below (g := gb504) (o := .cells #[.int .i64 x505000_1, .int .i64 x505001_1, .int .i64 x505002_1, .int .i64 x505003_1] 23 (0, 0)) (zL BK504.out) hb)
          have n2_ := am (blk_below (g := gb514) (o := .cells #[.int .i64 0, .int .i64 0, .int .i64 0, .int .i64 0] 23 (0, 0)) (zL BK514.out) hb)
          have n3_ := am (blk_below (g := gb515) (o := .cells #[.int .i64 0, .int .i64 0] 25 (0, 0)) (zL BK515.out) hb)
          have n4_ := am (below_step (zG3 HB GE504 GE514 GE515) hb)
          clear HO_7
          clear BK504
          clear BK514
          clear BK515
          clear HB
          have HO_7 := n0_
          have BK504 := n1_
          have BK514 := n2_
          have BK515 := n3_
          have HB := n4_
          clear n0_ n1_ n2_ n3_ n4_
          (try clear hb)
          (try clear hb2)
          (try clear hk)
          (try clear hi)
          refine hK.out _ _ ⟨(blk_cell BK504.out 0).trans rfl, (blk_cell BK504.out 1).trans rfl, (blk_cell BK504.out 2).trans rfl, (blk_cell BK504.out 3).trans rfl, ((HB.out.cell (World.block_lt_of_cell? w _ hw507_0)).trans hw507_0), ((HB.out.cell (World.block_lt_of_cell? w _ hw507_1)).trans hw507_1)⟩ (fun hHeld => ?_)
          clear hK K
          refine norm_ (a' := ?_) ?_ ?_
          rotate_left
          ·show Act.put _ (some 36) _ = _
           simp only [Act.put, List.setIfInBounds_toArray, List.set_cons_zero, List.set_cons_succ, i64_w, i32_w]
           rfl
          refine pure_ (i := 8) (N := some 28) (v := ?_) (a' := ?_) #[T,T,T,T,T,T,T,T,T,F,F,T,T,F,F] rfl rfl (zO HT_) (fun _ _ _ h => h) (Or.inl ⟨by rfl, ?_⟩) ?_ ?_
          rotate_left
          ·intro w'
           go_simp
           with_reducible rfl
          rotate_left
          ·exact zP i64_w i32_w
          refine pure_ (i := 9) (N := some 37) (v := ?_) (a' := ?_) #[T,T,T,T,T,T,T,T,T,T,F,T,T,F,F] rfl rfl (zO HT_) (fun _ _ _ h => h) (Or.inl ⟨by rfl, ?_⟩) ?_ ?_
          rotate_left
          ·intro w'
           go_simp
           with_reducible rfl
          rotate_left
          ·exact zP i64_w i32_w
          refine pure_ (i := 10) (N := some 38) (v := ?_) (a' := ?_) #[T,T,T,T,T,T,T,T,T,T,T,T,T,F,F] rfl rfl (zO HT_) (fun _ _ _ h => h) (Or.inl ⟨by rfl, ?_⟩) ?_ ?_
          rotate_left
          ·intro w'
           go_simp
           with_reducible rfl
          rotate_left
          ·exact zP i64_w i32_w
          exact norm_ (by first | (simp only [putAll, Act.put, List.setIfInBounds_toArray, List.set_cons_zero, List.set_cons_succ]; done) | (simp only [putAll, Act.put, List.setIfInBounds_toArray, List.set_cons_zero, List.set_cons_succ]; rfl)) (hJ7_11_12 (gb514, gb515) _ ⟨hHeld, (zR HO_7.out), (zL BK504.out), (zL BK514.out), (zL BK515.out), GW514.out, GE514.out, NB504_514.out, NB514_504.out, NB515_514.out, NB514_515.out, GW515.out, GE515.out, NB504_515.out, NB515_504.out, (zG3 HB GE504 GE514 GE515)⟩)
        ·skip
         rintro gb515 w18 ⟨hS_, h0_, h1_, h2_, h3_, h4_, h5_, h6_, h7_⟩
         have n0_ : Aside0 (Kd.R k25 25 w18 w.heap.size (fun k_ => k_ ≠ gb515) u7 x7_1) := ⟨h0_⟩
         have n1_ : Aside0 (w18.heap[gb504]? = some (.cells #[.int .i64 x505000_1, .int .i64 x505001_1, .int .i64 x505002_1, .int .i64 x505003_1] 23 (0, 0))) := ⟨h1_⟩
         have n2_ : Aside0 (w18.heap[gb515]? = some (.cells #[.int .i64 0, .int .i64 0] 25 (0, 0))) := ⟨h2_⟩
         have n3_ : Aside0 (w.heap.size ≤ gb515) := ⟨h3_⟩
         have n4_ : Aside0 (w.heap.size ≤ gb515) := ⟨h4_⟩
         have n5_ : Aside0 (gb504 ≠ gb515) := ⟨h5_⟩
         have n6_ : Aside0 (gb515 ≠ gb504) := ⟨h6_⟩
         have n7_ : Aside0 (Below w.heap.size w w18) := ⟨h7_⟩
         clear HO_7
         clear BK504
         clear HB
         clear h0_ h1_ h2_ h3_ h4_ h5_ h6_ h7_
         have HO_7 := n0_
         have BK504 := n1_
         have BK515 := n2_
         have GW515 := n3_
         have GE515 := n4_
         have NB504_515 := n5_
         have NB515_504 := n6_
         have HB := n7_
         clear n0_ n1_ n2_ n3_ n4_ n5_ n6_ n7_
         have hHeld : w18.cell? ⟨gb504, 0, none⟩ = some (.int .i64 x505000_1) ∧ w18.cell? ⟨gb504, 1, none⟩ = some (.int .i64 x505001_1) ∧ w18.cell? ⟨gb504, 2, none⟩ = some (.int .i64 x505002_1) ∧ w18.cell? ⟨gb504, 3, none⟩ = some (.int .i64 x505003_1) ∧ w18.cell? (ad505.add ((x9_1).toNat * 2)) = some (.int .i64 ((rd_T25 l0 x9_1).f0)) ∧ w18.cell? ⟨(ad505.add ((x9_1).toNat * 2)).block, (ad505.add ((x9_1).toNat * 2)).off + 1, none⟩ = some (.int .i64 ((rd_T25 l0 x9_1).f1)) := hS_
         refine norm_ (a' := ?_) ?_ ?_
         rotate_left
         ·simp only [putAll, Act.put, List.setIfInBounds_toArray, List.set_cons_zero, List.set_cons_succ]
          rfl
         refine one_ (i := 11) (N := some 10) #[T,T,T,T,T,T,T,T,T,T,T,T,T,F,F] rfl rfl (one_of HT_.out (by kernel_rfl)) (by decide) (fun K hK => ?_)
         refine box_step ?hg (N := 10) ?hd (cs := #[.int .i64 0, .int .i64 0, .int .i64 0, .int .i64 0]) (t := 23) ?hr ?_; (case hd => rfl); (case hg => rfl); (case hr => first | (go_simp; done) | (go_simp; rfl))
         intro gb514 hg w19 hbox hb
         have n0_ := am (Kd.R_below (zR HO_7.out) hb)
         have n1_ := am (blk_below (g := gb504) (o := .cells #[.int .i64 x505000_1, .int .i64 x505001_1, .int .i64 x505002_1, .int .i64 x505003_1] 23 (0, 0)) (zL BK504.out) hb)
         have n2_ := am (blk_below (g := gb515) (o := .cells #[.int .i64 0, .int .i64 0] 25 (0, 0)) (zL BK515.out) hb)
         have n3_ := am (below_step (zG2 HB GE504 GE515) hb)
         have n4_ := am (hbox)
         have n5_ := am ((by rw [hg]; exact (below_size (zG2 HB GE504 GE515)) : w.heap.size ≤ gb514))
         have n6_ := am ((by rw [hg]; exact (below_size (zG2 HB GE504 GE515)) : w.heap.size ≤ gb514))
         have n7_ := am ((by rw [hg]; exact Nat.ne_of_lt (blk_lt (g := gb504) (o := .cells #[.int .i64 x505000_1, .int .i64 x505001_1, .int .i64 x505002_1, .int .i64 x505003_1] 23 (0, 0)) (zL BK504.out)) : gb504 ≠ gb514))
         have n8_ := am ((by rw [hg]; exact Nat.ne_of_gt (blk_lt (g := gb504) (o := .cells #[.int .i64 x505000_1, .int .i64 x505001_1, .int .i64 x505002_1, .int .i64 x505003_1] 23 (0, 0)) (zL BK504.out)) : gb514 ≠ gb504))
         have n9_ := am ((by rw [hg]; exact Nat.ne_of_lt (blk_lt (g := gb515) (o := .cells #[.int .i64 0, .int .i64 0] 25 (0, 0)) (zL BK515.out)) : gb515 ≠ gb514))
         have n10_ := am ((by rw [hg]; exact Nat.ne_of_gt (blk_lt (g := gb515) (o := .cells #[.int .i64 0, .int .i64 0] 25 (0, 0)) (zL BK515.out)) : gb514 ≠ gb515))
         clear HO_7
         clear BK504
         clear BK515
         clear HB
         have HO_7 := n0_
         have BK504 := n1_
         have BK515 := n2_
         have HB := n3_
         have BK514 := n4_
         have GW514 := n5_
         have GE514 := n6_
         have NB504_514 := n7_
         have NB514_504 := n8_
         have NB515_514 := n9_
         have NB514_515 := n10_
         clear n0_ n1_ n2_ n3_ n4_ n5_ n6_ n7_ n8_ n9_ n10_
         clear hb hbox hg
         refine hK.out _ _ ⟨(blk_cell BK504.out 0).trans rfl, (blk_cell BK504.out 1).trans rfl, (blk_cell BK504.out 2).trans rfl, (blk_cell BK504.out 3).trans rfl, ((HB.out.cell (World.block_lt_of_cell? w _ hw507_0)).trans hw507_0), ((HB.out.cell (World.block_lt_of_cell? w _ hw507_1)).trans hw507_1)⟩ (fun hHeld => ?_)
         clear hK K
         refine norm_ (a' := ?_) ?_ ?_
         rotate_left
         ·show Act.put _ (some 10) _ = _
          simp only [Act.put, List.setIfInBounds_toArray, List.set_cons_zero, List.set_cons_succ, i64_w, i32_w]
          rfl
         exact norm_ (by first | (simp only [putAll, Act.put, List.setIfInBounds_toArray, List.set_cons_zero, List.set_cons_succ]; done) | (simp only [putAll, Act.put, List.setIfInBounds_toArray, List.set_cons_zero, List.set_cons_succ]; rfl)) (hJ7_11_12 (gb514, gb515) _ ⟨hHeld, (zR HO_7.out), (zL BK504.out), (zL BK514.out), (zL BK515.out), GW514.out, GE514.out, NB504_514.out, NB514_504.out, NB515_514.out, NB514_515.out, GW515.out, GE515.out, NB504_515.out, NB515_504.out, (zG3 HB GE504 GE515 GE514)⟩)
       ·skip
        rintro gb514 w18 ⟨hS_, h0_, h1_, h2_, h3_, h4_, h5_, h6_, h7_⟩
        have n0_ : Aside0 (Kd.R k25 25 w18 w.heap.size (fun _ => True) u7 x7_1) := ⟨h0_⟩
        have n1_ : Aside0 (w18.heap[gb504]? = some (.cells #[.int .i64 x505000_1, .int .i64 x505001_1, .int .i64 x505002_1, .int .i64 x505003_1] 23 (0, 0))) := ⟨h1_⟩
        have n2_ : Aside0 (w18.heap[gb514]? = some (.cells #[.int .i64 0, .int .i64 0, .int .i64 0, .int .i64 0] 23 (0, 0))) := ⟨h2_⟩
        have n3_ : Aside0 (w.heap.size ≤ gb514) := ⟨h3_⟩
        have n4_ : Aside0 (w.heap.size ≤ gb514) := ⟨h4_⟩
        have n5_ : Aside0 (gb504 ≠ gb514) := ⟨h5_⟩
        have n6_ : Aside0 (gb514 ≠ gb504) := ⟨h6_⟩
        have n7_ : Aside0 (Below w.heap.size w w18) := ⟨h7_⟩
        clear HO_7
        clear BK504
        clear HB
        clear h0_ h1_ h2_ h3_ h4_ h5_ h6_ h7_
        have HO_7 := n0_
        have BK504 := n1_
        have BK514 := n2_
        have GW514 := n3_
        have GE514 := n4_
        have NB504_514 := n5_
        have NB514_504 := n6_
        have HB := n7_
        clear n0_ n1_ n2_ n3_ n4_ n5_ n6_ n7_
        have hHeld : w18.cell? ⟨gb504, 0, none⟩ = some (.int .i64 x505000_1) ∧ w18.cell? ⟨gb504, 1, none⟩ = some (.int .i64 x505001_1) ∧ w18.cell? ⟨gb504, 2, none⟩ = some (.int .i64 x505002_1) ∧ w18.cell? ⟨gb504, 3, none⟩ = some (.int .i64 x505003_1) ∧ w18.cell? (ad505.add ((x9_1).toNat * 2)) = some (.int .i64 ((rd_T25 l0 x9_1).f0)) ∧ w18.cell? ⟨(ad505.add ((x9_1).toNat * 2)).block, (ad505.add ((x9_1).toNat * 2)).off + 1, none⟩ = some (.int .i64 ((rd_T25 l0 x9_1).f1)) := hS_
        refine norm_ (a' := ?_) ?_ ?_
        rotate_left
        ·simp only [putAll, Act.put, List.setIfInBounds_toArray, List.set_cons_zero, List.set_cons_succ]
         rfl
        refine one_ (i := 12) (N := some 11) #[T,T,T,T,T,T,T,T,T,T,T,T,T,F,F] rfl rfl (one_of HT_.out (by kernel_rfl)) (by decide) (fun K hK => ?_)
        refine box_step ?hg (N := 11) ?hd (cs := #[.int .i64 0, .int .i64 0]) (t := 25) ?hr ?_; (case hd => rfl); (case hg => rfl); (case hr => first | (go_simp; done) | (go_simp; rfl))
        intro gb515 hg w19 hbox hb
        have n0_ := am (Kd.R_below (Kd.R_elderB (zR HO_7.out) gb515 (Nat.le_of_eq hg.symm)) hb)
        have n1_ := am (blk_below (g := gb504) (o := .cells #[.int .i64 x505000_1, .int .i64 x505001_1, .int .i64 x505002_1, .int .i64 x505003_1] 23 (0, 0)) (zL BK504.out) hb)
        have n2_ := am (blk_below (g := gb514) (o := .cells #[.int .i64 0, .int .i64 0, .int .i64 0, .int .i64 0] 23 (0, 0)) (zL BK514.out) hb)
        have n3_ := am (below_step (zG2 HB GE504 GE514) hb)
        have n4_ := am (hbox)
        have n5_ := am ((by rw [hg]; exact (below_size (zG2 HB GE504 GE514)) : w.heap.size ≤ gb515))
        have n6_ := am ((by rw [hg]; exact (below_size (zG2 HB GE504 GE514)) : w.heap.size ≤ gb515))
        have n7_ := am ((by rw [hg]; exact Nat.ne_of_lt (blk_lt (g := gb504) (o := .cells #[.int .i64 x505000_1, .int .i64 x505001_1, .int .i64 x505002_1, .int .i64 x505003_1] 23 (0, 0)) (zL BK504.out)) : gb504 ≠ gb515))
        have n8_ := am ((by rw [hg]; exact Nat.ne_of_gt (blk_lt (g := gb504) (o := .cells #[.int .i64 x505000_1, .int .i64 x505001_1, .int .i64 x505002_1, .int .i64 x505003_1] 23 (0, 0)) (zL BK504.out)) : gb515 ≠ gb504))
        have n9_ := am ((by rw [hg]; exact Nat.ne_of_lt (blk_lt (g := gb514) (o := .cells #[.int .i64 0, .int .i64 0, .int .i64 0, .int .i64 0] 23 (0, 0)) (zL BK514.out)) : gb514 ≠ gb515))
        have n10_ := am ((by rw [hg]; exact Nat.ne_of_gt (blk_lt (g := gb514) (o := .cells #[.int .i64 0, .int .i64 0, .int .i64 0, .int .i64 0] 23 (0, 0)) (zL BK514.out)) : gb515 ≠ gb514))
        clear HO_7
        clear BK504
        clear BK514
        clear HB
        have HO_7 := n0_
        have BK504 := n1_
        have BK514 := n2_
        have HB := n3_
        have BK515 := n4_
        have GW515 := n5_
        have GE515 := n6_
        have NB504_515 := n7_
        have NB515_504 := n8_
        have NB514_515 := n9_
        have NB515_514 := n10_
        clear n0_ n1_ n2_ n3_ n4_ n5_ n6_ n7_ n8_ n9_ n10_
        clear hb hbox hg
        refine hK.out _ _ ⟨(blk_cell BK504.out 0).trans rfl, (blk_cell BK504.out 1).trans rfl, (blk_cell BK504.out 2).trans rfl, (blk_cell BK504.out 3).trans rfl, ((HB.out.cell (World.block_lt_of_cell? w _ hw507_0)).trans hw507_0), ((HB.out.cell (World.block_lt_of_cell? w _ hw507_1)).trans hw507_1)⟩ (fun hHeld => ?_)
        clear hK K
        refine norm_ (a' := ?_) ?_ ?_
        rotate_left
        ·show Act.put _ (some 11) _ = _
         simp only [Act.put, List.setIfInBounds_toArray, List.set_cons_zero, List.set_cons_succ, i64_w, i32_w]
         rfl
        exact norm_ (by first | (simp only [putAll, Act.put, List.setIfInBounds_toArray, List.set_cons_zero, List.set_cons_succ]; done) | (simp only [putAll, Act.put, List.setIfInBounds_toArray, List.set_cons_zero, List.set_cons_succ]; rfl)) (hJ7_11_12 (gb514, gb515) _ ⟨hHeld, (by refine zR ?_; exact Kd.R_mono HO_7.out (fun _ hk => hk.2)), (zL BK504.out), (zL BK514.out), (zL BK515.out), GW514.out, GE514.out, NB504_514.out, NB514_504.out, NB515_514.out, NB514_515.out, GW515.out, GE515.out, NB504_515.out, NB515_504.out, (zG3 HB GE504 GE514 GE515)⟩)
      rintro ⟨gb514, gb515⟩ w19 ⟨hS_, h0_, h1_, h2_, h3_, h4_, h5_, h6_, h7_, h8_, h9_, h10_, h11_, h12_, h13_, h14_⟩
      have n0_ : Aside0 (Kd.R k25 25 w19 w.heap.size (fun k_ => k_ ≠ gb515) u7 x7_1) := ⟨h0_⟩
      have n1_ : Aside0 (w19.heap[gb504]? = some (.cells #[.int .i64 x505000_1, .int .i64 x505001_1, .int .i64 x505002_1, .int .i64 x505003_1] 23 (0, 0))) := ⟨h1_⟩
      have n2_ : Aside0 (w19.heap[gb514]? = some (.cells #[.int .i64 0, .int .i64 0, .int .i64 0, .int .i64 0] 23 (0, 0))) := ⟨h2_⟩
      have n3_ : Aside0 (w19.heap[gb515]? = some (.cells #[.int .i64 0, .int .i64 0] 25 (0, 0))) := ⟨h3_⟩
      have n4_ : Aside0 (w.heap.size ≤ gb514) := ⟨h4_⟩
      have n5_ : Aside0 (w.heap.size ≤ gb514) := ⟨h5_⟩
      have n6_ : Aside0 (gb504 ≠ gb514) := ⟨h6_⟩
      have n7_ : Aside0 (gb514 ≠ gb504) := ⟨h7_⟩
      have n8_ : Aside0 (gb515 ≠ gb514) := ⟨h8_⟩
      have n9_ : Aside0 (gb514 ≠ gb515) := ⟨h9_⟩
      have n10_ : Aside0 (w.heap.size ≤ gb515) := ⟨h10_⟩
      have n11_ : Aside0 (w.heap.size ≤ gb515) := ⟨h11_⟩
      have n12_ : Aside0 (gb504 ≠ gb515) := ⟨h12_⟩
      have n13_ : Aside0 (gb515 ≠ gb504) := ⟨h13_⟩
      have n14_ : Aside0 (Below w.heap.size w w19) := ⟨h14_⟩
      clear HO_7
      clear BK504
      clear HB
      clear h0_ h1_ h2_ h3_ h4_ h5_ h6_ h7_ h8_ h9_ h10_ h11_ h12_ h13_ h14_
      have HO_7 := n0_
      have BK504 := n1_
      have BK514 := n2_
      have BK515 := n3_
      have GW514 := n4_
      have GE514 := n5_
      have NB504_514 := n6_
      have NB514_504 := n7_
      have NB515_514 := n8_
      have NB514_515 := n9_
      have GW515 := n10_
      have GE515 := n11_
      have NB504_515 := n12_
      have NB515_504 := n13_
      have HB := n14_
      clear n0_ n1_ n2_ n3_ n4_ n5_ n6_ n7_ n8_ n9_ n10_ n11_ n12_ n13_ n14_
      have hHeld : w19.cell? ⟨gb504, 0, none⟩ = some (.int .i64 x505000_1) ∧ w19.cell? ⟨gb504, 1, none⟩ = some (.int .i64 x505001_1) ∧ w19.cell? ⟨gb504, 2, none⟩ = some (.int .i64 x505002_1) ∧ w19.cell? ⟨gb504, 3, none⟩ = some (.int .i64 x505003_1) ∧ w19.cell? (ad505.add ((x9_1).toNat * 2)) = some (.int .i64 ((rd_T25 l0 x9_1).f0)) ∧ w19.cell? ⟨(ad505.add ((x9_1).toNat * 2)).block, (ad505.add ((x9_1).toNat * 2)).off + 1, none⟩ = some (.int .i64 ((rd_T25 l0 x9_1).f1)) := hS_
      refine norm_ (a' := ?_) ?_ ?_
      rotate_left
      ·simp only [putAll, Act.put, List.setIfInBounds_toArray, List.set_cons_zero, List.set_cons_succ]
       rfl
      refine one_ (i := 13) (N := none) #[T,T,T,T,T,T,T,T,T,T,T,T,T,T,F] rfl rfl (one_of HT_.out (by kernel_rfl)) (by decide) (fun K hK => ?_)
      have hs20 : w19.cell? ⟨gb514, 0, none⟩ = some (.int .i64 0) := (blk_cell BK514.out 0).trans rfl
      have hfs20 := blk_frozen BK514.out 0
      have hns20_0 := NB504_514.out
      have hns20_2 := NB515_514.out
      have hms20_0 := NB514_504.out
      have hms20_2 := NB514_515.out
      have hs21 : w19.cell? ⟨gb514, 1, none⟩ = some (.int .i64 0) := (blk_cell BK514.out 1).trans rfl
      have hfs21 := blk_frozen BK514.out 1
      have hns21_0 := NB504_514.out
      have hns21_2 := NB515_514.out
      have hms21_0 := NB514_504.out
      have hms21_2 := NB514_515.out
      have hs22 : w19.cell? ⟨gb514, 2, none⟩ = some (.int .i64 0) := (blk_cell BK514.out 2).trans rfl
      have hfs22 := blk_frozen BK514.out 2
      have hns22_0 := NB504_514.out
      have hns22_2 := NB515_514.out
      have hms22_0 := NB514_504.out
      have hms22_2 := NB514_515.out
      have hs23 : w19.cell? ⟨gb514, 3, none⟩ = some (.int .i64 0) := (blk_cell BK514.out 3).trans rfl
      have hfs23 := blk_frozen BK514.out 3
      have hns23_0 := NB504_514.out
      have hns23_2 := NB515_514.out
      have hms23_0 := NB514_504.out
      have hms23_2 := NB514_515.out
      refine skip_ (w1 := ?_) (by rfl) rfl ?_ ?_
      rotate_left
      ·go_simp
       rfl
      refine hK.out _ _ ⟨((cell_far (p := ⟨gb514, _, none⟩) NB504_514.out _).trans (((cell_far (p := ⟨gb514, _, none⟩) NB504_514.out _).trans (((cell_far (p := ⟨gb514, _, none⟩) NB504_514.out _).trans (((cell_far (p := ⟨gb514, _, none⟩) NB504_514.out _).trans (hHeld.1)))))))), ((cell_far (p := ⟨gb514, _, none⟩) NB504_514.out _).trans (((cell_far (p := ⟨gb514, _, none⟩) NB504_514.out _).trans (((cell_far (p := ⟨gb514, _, none⟩) NB504_514.out _).trans (((cell_far (p := ⟨gb514, _, none⟩) NB504_514.out _).trans (hHeld.2.1)))))))), ((cell_far (p := ⟨gb514, _, none⟩) NB504_514.out _).trans (((cell_far (p := ⟨gb514, _, none⟩) NB504_514.out _).trans (((cell_far (p := ⟨gb514, _, none⟩) NB504_514.out _).trans (((cell_far (p := ⟨gb514, _, none⟩) NB504_514.out _).trans (hHeld.2.2.1)))))))), ((cell_far (p := ⟨gb514, _, none⟩) NB504_514.out _).trans (((cell_far (p := ⟨gb514, _, none⟩) NB504_514.out _).trans (((cell_far (p := ⟨gb514, _, none⟩) NB504_514.out _).trans (((cell_far (p := ⟨gb514, _, none⟩) NB504_514.out _).trans (hHeld.2.2.2.1)))))))), ((cell_far (p := ⟨gb514, _, none⟩) (by first | exact Nat.ne_of_lt (Nat.lt_of_lt_of_le (by have := World.block_lt_of_cell? _ _ hw507_0; first | rwa [add_block] at this | exact this) GW514.out) | (rw [add_block]; exact Nat.ne_of_lt (Nat.lt_of_lt_of_le (by have := World.block_lt_of_cell? _ _ hw507_0; first | rwa [add_block] at this | exact this) GW514.out)) | (show (Addr.add _ _).block ≠ _; rw [add_block]; exact Nat.ne_of_lt (Nat.lt_of_lt_of_le (by have := World.block_lt_of_cell? _ _ hw507_0; first | rwa [add_block] at this | exact this) GW514.out)) | (dsimp only; exact Nat.ne_of_lt (Nat.lt_of_lt_of_le (by have := World.block_lt_of_cell? _ _ hw507_0; first | rwa [add_block] at this | exact this) GW514.out))) _).trans (((cell_far (p := ⟨gb514, _, none⟩) (by first | exact Nat.ne_of_lt (Nat.lt_of_lt_of_le (by have := World.block_lt_of_cell? _ _ hw507_0; first | rwa [add_block] at this | exact this) GW514.out) | (rw [add_block]; exact Nat.ne_of_lt (Nat.lt_of_lt_of_le (by have := World.block_lt_of_cell? _ _ hw507_0; first | rwa [add_block] at this | exact this) GW514.out)) | (show (Addr.add _ _).block ≠ _; rw [add_block]; exact Nat.ne_of_lt (Nat.lt_of_lt_of_le (by have := World.block_lt_of_cell? _ _ hw507_0; first | rwa [add_block] at this | exact this) GW514.out)) | (dsimp only; exact Nat.ne_of_lt (Nat.lt_of_lt_of_le (by have := World.block_lt_of_cell? _ _ hw507_0; first | rwa [add_block] at this | exact this) GW514.out))) _).trans (((cell_far (p := ⟨gb514, _, none⟩) (by first | exact Nat.ne_of_lt (Nat.lt_of_lt_of_le (by have := World.block_lt_of_cell? _ _ hw507_0; first | rwa [add_block] at this | exact this) GW514.out) | (rw [add_block]; exact Nat.ne_of_lt (Nat.lt_of_lt_of_le (by have := World.block_lt_of_cell? _ _ hw507_0; first | rwa [add_block] at this | exact this) GW514.out)) | (show (Addr.add _ _).block ≠ _; rw [add_block]; exact Nat.ne_of_lt (Nat.lt_of_lt_of_le (by have := World.block_lt_of_cell? _ _ hw507_0; first | rwa [add_block] at this | exact this) GW514.out)) | (dsimp only; exact Nat.ne_of_lt (Nat.lt_of_lt_of_le (by have := World.block_lt_of_cell? _ _ hw507_0; first | rwa [add_block] at this | exact this) GW514.out))) _).trans (((cell_far (p := ⟨gb514, _, none⟩) (by first | exact Nat.ne_of_lt (Nat.lt_of_lt_of_le (by have := World.block_lt_of_cell? _ _ hw507_0; first | rwa [add_block] at this | exact this) GW514.out) | (rw [add_block]; exact Nat.ne_of_lt (Nat.lt_of_lt_of_le (by have := World.block_lt_of_cell? _ _ hw507_0; first | rwa [add_block] at this | exact this) GW514.out)) | (show (Addr.add _ _).block ≠ _; rw [add_block]; exact Nat.ne_of_lt (Nat.lt_of_lt_of_le (by have := World.block_lt_of_cell? _ _ hw507_0; first | rwa [add_block] at this | exact this) GW514.out)) | (dsimp only; exact Nat.ne_of_lt (Nat.lt_of_lt_of_le (by have := World.block_lt_of_cell? _ _ hw507_0; first | rwa [add_block] at this | exact this) GW514.out))) _).trans (hHeld.2.2.2.2.1)))))))), ((cell_far (p := ⟨gb514, _, none⟩) (by first | exact Nat.ne_of_lt (Nat.lt_of_lt_of_le (by have := World.block_lt_of_cell? _ _ hw507_1; first | rwa [add_block] at this | exact this) GW514.out) | (rw [add_block]; exact Nat.ne_of_lt (Nat.lt_of_lt_of_le (by have := World.block_lt_of_cell? _ _ hw507_1; first | rwa [add_block] at this | exact this) GW514.out)) | (show (Addr.add _ _).block ≠ _; rw [add_block]; exact Nat.ne_of_lt (Nat.lt_of_lt_of_le (by have := World.block_lt_of_cell? _ _ hw507_1; first | rwa [add_block] at this | exact this) GW514.out)) | (dsimp only; exact Nat.ne_of_lt (Nat.lt_of_lt_of_le (by have := World.block_lt_of_cell? _ _ hw507_1; first | rwa [add_block] at this | exact this) GW514.out))) _).trans (((cell_far (p := ⟨gb514, _, none⟩) (by first | exact Nat.ne_of_lt (Nat.lt_of_lt_of_le (by have := World.block_lt_of_cell? _ _ hw507_1; first | rwa [add_block] at this | exact this) GW514.out) | (rw [add_block]; exact Nat.ne_of_lt (Nat.lt_of_lt_of_le (by have := World.block_lt_of_cell? _ _ hw507_1; first | rwa [add_block] at this | exact this) GW514.out)) | (show (Addr.add _ _).block ≠ _; rw [add_block]; exact Nat.ne_of_lt (Nat.lt_of_lt_of_le (by have := World.block_lt_of_cell? _ _ hw507_1; first | rwa [add_block] at this | exact this) GW514.out)) | (dsimp only; exact Nat.ne_of_lt (Nat.lt_of_lt_of_le (by have := World.block_lt_of_cell? _ _ hw507_1; first | rwa [add_block] at this | exact this) GW514.out))) _).trans (((cell_far (p := ⟨gb514, _, none⟩) (by first | exact Nat.ne_of_lt (Nat.lt_of_lt_of_le (by have := World.block_lt_of_cell? _ _ hw507_1; first | rwa [add_block] at this | exact this) GW514.out) | (rw [add_block]; exact Nat.ne_of_lt (Nat.lt_of_lt_of_le (by have := World.block_lt_of_cell? _ _ hw507_1; first | rwa [add_block] at this | exact this) GW514.out)) | (show (Addr.add _ _).block ≠ _; rw [add_block]; exact Nat.ne_of_lt (Nat.lt_of_lt_of_le (by have := World.block_lt_of_cell? _ _ hw507_1; first | rwa [add_block] at this | exact this) GW514.out)) | (dsimp only; exact Nat.ne_of_lt (Nat.lt_of_lt_of_le (by have := World.block_lt_of_cell? _ _ hw507_1; first | rwa [add_block] at this | exact this) GW514.out))) _).trans (((cell_far (p := ⟨gb514, _, none⟩) (by first | exact Nat.ne_of_lt (Nat.lt_of_lt_of_le (by have := World.block_lt_of_cell? _ _ hw507_1; first | rwa [add_block] at this | exact this) GW514.out) | (rw [add_block]; exact Nat.ne_of_lt (Nat.lt_of_lt_of_le (by have := World.block_lt_of_cell? _ _ hw507_1; first | rwa [add_block] at this | exact this) GW514.out)) | (show (Addr.add _ _).block ≠ _; rw [add_block]; exact Nat.ne_of_lt (Nat.lt_of_lt_of_le (by have := World.block_lt_of_cell? _ _ hw507_1; first | rwa [add_block] at this | exact this) GW514.out)) | (dsimp only; exact Nat.ne_of_lt (Nat.lt_of_lt_of_le (by have := World.block_lt_of_cell? _ _ hw507_1; first | rwa [add_block] at this | exact this) GW514.out))) _).trans (hHeld.2.2.2.2.2))))))))⟩ (fun hHeld => ?_)
      clear hK K
      refine one_ (i := 14) (N := none) #[T,T,T,T,T,T,T,T,T,T,T,T,T,T,T] rfl rfl (one_of HT_.out (by kernel_rfl)) (by decide) (fun K hK => ?_)
      have hs24 : w19.cell? ⟨gb515, 0, none⟩ = some (.int .i64 0) := (blk_cell BK515.out 0).trans rfl
      have hfs24 := blk_frozen BK515.out 0
      have hns24_0 := NB504_515.out
      have hns24_1 := NB514_515.out
      have hms24_0 := NB515_504.out
      have hms24_1 := NB515_514.out
      have hs25 : w19.cell? ⟨gb515, 1, none⟩ = some (.int .i64 0) := (blk_cell BK515.out 1).trans rfl
      have hfs25 := blk_frozen BK515.out 1
      have hns25_0 := NB504_515.out
      have hns25_1 := NB514_515.out
      have hms25_0 := NB515_504.out
      have hms25_1 := NB515_514.out
      refine skip_ (w1 := ?_) (by rfl) rfl ?_ ?_
      rotate_left
      ·go_simp
       rfl
      refine hK.out _ _ ⟨((cell_far (p := ⟨gb515, _, none⟩) NB504_515.out _).trans (((cell_far (p := ⟨gb515, _, none⟩) NB504_515.out _).trans (hHeld.1)))), ((cell_far (p := ⟨gb515, _, none⟩) NB504_515.out _).trans (((cell_far (p := ⟨gb515, _, none⟩) NB504_515.out _).trans (hHeld.2.1)))), ((cell_far (p := ⟨gb515, _, none⟩) NB504_515.out _).trans (((cell_far (p := ⟨gb515, _, none⟩) NB504_515.out _).trans (hHeld.2.2.1)))), ((cell_far (p := ⟨gb515, _, none⟩) NB504_515.out _).trans (((cell_far (p := ⟨gb515, _, none⟩) NB504_515.out _).trans (hHeld.2.2.2.1)))), ((cell_far (p := ⟨gb515, _, none⟩) (by first | exact Nat.ne_of_lt (Nat.lt_of_lt_of_le (by have := World.block_lt_of_cell? _ _ hw507_0; first | rwa [add_block] at this | exact this) GW515.out) | (rw [add_block]; exact Nat.ne_of_lt (Nat.lt_of_lt_of_le (by have := World.block_lt_of_cell? _ _ hw507_0; first | rwa [add_block] at this | exact this) GW515.out)) | (show (Addr.add _ _).block ≠ _; rw [add_block]; exact Nat.ne_of_lt (Nat.lt_of_lt_of_le (by have := World.block_lt_of_cell? _ _ hw507_0; first | rwa [add_block] at this | exact this) GW515.out)) | (dsimp only; exact Nat.ne_of_lt (Nat.lt_of_lt_of_le (by have := World.block_lt_of_cell? _ _ hw507_0; first | rwa [add_block] at this | exact this) GW515.out))) _).trans (((cell_far (p := ⟨gb515, _, none⟩) (by first | exact Nat.ne_of_lt (Nat.lt_of_lt_of_le (by have := World.block_lt_of_cell? _ _ hw507_0; first | rwa [add_block] at this | exact this) GW515.out) | (rw [add_block]; exact Nat.ne_of_lt (Nat.lt_of_lt_of_le (by have := World.block_lt_of_cell? _ _ hw507_0; first | rwa [add_block] at this | exact this) GW515.out)) | (show (Addr.add _ _).block ≠ _; rw [add_block]; exact Nat.ne_of_lt (Nat.lt_of_lt_of_le (by have := World.block_lt_of_cell? _ _ hw507_0; first | rwa [add_block] at this | exact this) GW515.out)) | (dsimp only; exact Nat.ne_of_lt (Nat.lt_of_lt_of_le (by have := World.block_lt_of_cell? _ _ hw507_0; first | rwa [add_block] at this | exact this) GW515.out))) _).trans (hHeld.2.2.2.2.1)))), ((cell_far (p := ⟨gb515, _, none⟩) (by first | exact Nat.ne_of_lt (Nat.lt_of_lt_of_le (by have := World.block_lt_of_cell? _ _ hw507_1; first | rwa [add_block] at this | exact this) GW515.out) | (rw [add_block]; exact Nat.ne_of_lt (Nat.lt_of_lt_of_le (by have := World.block_lt_of_cell? _ _ hw507_1; first | rwa [add_block] at this | exact this) GW515.out)) | (show (Addr.add _ _).block ≠ _; rw [add_block]; exact Nat.ne_of_lt (Nat.lt_of_lt_of_le (by have := World.block_lt_of_cell? _ _ hw507_1; first | rwa [add_block] at this | exact this) GW515.out)) | (dsimp only; exact Nat.ne_of_lt (Nat.lt_of_lt_of_le (by have := World.block_lt_of_cell? _ _ hw507_1; first | rwa [add_block] at this | exact this) GW515.out))) _).trans (((cell_far (p := ⟨gb515, _, none⟩) (by first | exact Nat.ne_of_lt (Nat.lt_of_lt_of_le (by have := World.block_lt_of_cell? _ _ hw507_1; first | rwa [add_block] at this | exact this) GW515.out) | (rw [add_block]; exact Nat.ne_of_lt (Nat.lt_of_lt_of_le (by have := World.block_lt_of_cell? _ _ hw507_1; first | rwa [add_block] at this | exact this) GW515.out)) | (show (Addr.add _ _).block ≠ _; rw [add_block]; exact Nat.ne_of_lt (Nat.lt_of_lt_of_le (by have := World.block_lt_of_cell? _ _ hw507_1; first | rwa [add_block] at this | exact this) GW515.out)) | (dsimp only; exact Nat.ne_of_lt (Nat.lt_of_lt_of_le (by have := World.block_lt_of_cell? _ _ hw507_1; first | rwa [add_block] at this | exact this) GW515.out))) _).trans (hHeld.2.2.2.2.2))))⟩ (fun hHeld => ?_)
      clear hK K
      refine done_ (done_of HT_.out (by kernel_rfl)) ?_
      have hnb26 := NB514_504.out
      have hnc26 := NB504_514.out
      have hnb27 := NB514_515.out
      have hnc27 := NB515_514.out
      have hcz28_0 : w19.cell? ⟨gb514, 0, none⟩ = some (.int .i64 0) := (blk_cell BK514.out 0).trans rfl
      have hcz28_1 : w19.cell? ⟨gb514, 1, none⟩ = some (.int .i64 0) := (blk_cell BK514.out 1).trans rfl
      have hcz28_2 : w19.cell? ⟨gb514, 2, none⟩ = some (.int .i64 0) := (blk_cell BK514.out 2).trans rfl
      have hcz28_3 : w19.cell? ⟨gb514, 3, none⟩ = some (.int .i64 0) := (blk_cell BK514.out 3).trans rfl
      have hfz28_0 := blk_frozen BK514.out 0
      have hfz28_1 := blk_frozen BK514.out 1
      have hfz28_2 := blk_frozen BK514.out 2
      have hfz28_3 := blk_frozen BK514.out 3
      have hnb29 := NB504_515.out
      have hnc29 := NB515_504.out
      have hcz30_0 : w19.cell? ⟨gb504, 0, none⟩ = some (.int .i64 x505000_1) := (blk_cell BK504.out 0).trans rfl
      have hcz30_1 : w19.cell? ⟨gb504, 1, none⟩ = some (.int .i64 x505001_1) := (blk_cell BK504.out 1).trans rfl
      have hcz30_2 : w19.cell? ⟨gb504, 2, none⟩ = some (.int .i64 x505002_1) := (blk_cell BK504.out 2).trans rfl
      have hcz30_3 : w19.cell? ⟨gb504, 3, none⟩ = some (.int .i64 x505003_1) := (blk_cell BK504.out 3).trans rfl
      have hfz30_0 := blk_frozen BK504.out 0
      have hfz30_1 := blk_frozen BK504.out 1
      have hfz30_2 := blk_frozen BK504.out 2
      have hfz30_3 := blk_frozen BK504.out 3
      have p516 : 0 ≤ (x9_1 : Int) := of_decide_eq_true zA
      have q516 : x9_1 < (l0.length : Int) := of_decide_eq_true zA
      obtain ⟨ad516, e516, hx516_0, hx516_1⟩ := at_T25 HR0.out x9_1 p516 q516
      obtain rfl : ad505 = ad516 := (by injection e516)
      have hn516_0 : ad505.block ≠ gb514 := Nat.ne_of_lt (Nat.lt_of_lt_of_le (by have := World.block_lt_of_cell? _ _ hx516_0; first | rwa [add_block] at this | exact this) GW514.out)
      have hn516_1 : ad505.block ≠ gb514 := Nat.ne_of_lt (Nat.lt_of_lt_of_le (by have := World.block_lt_of_cell? _ _ hx516_0; first | rwa [add_block] at this | exact this) GW514.out)
      have hn516_2 : ad505.block ≠ gb514 := Nat.ne_of_lt (Nat.lt_of_lt_of_le (by have := World.block_lt_of_cell? _ _ hx516_0; first | rwa [add_block] at this | exact this) GW514.out)
      have hn516_3 : ad505.block ≠ gb514 := Nat.ne_of_lt (Nat.lt_of_lt_of_le (by have := World.block_lt_of_cell? _ _ hx516_0; first | rwa [add_block] at this | exact this) GW514.out)
      have hn516_4 : ad505.block ≠ gb515 := Nat.ne_of_lt (Nat.lt_of_lt_of_le (by have := World.block_lt_of_cell? _ _ hx516_0; first | rwa [add_block] at this | exact this) GW515.out)
      have hn516_5 : ad505.block ≠ gb515 := Nat.ne_of_lt (Nat.lt_of_lt_of_le (by have := World.block_lt_of_cell? _ _ hx516_0; first | rwa [add_block] at this | exact this) GW515.out)
      have hn516_6 : ad505.block ≠ gb504 := Nat.ne_of_lt (Nat.lt_of_lt_of_le (by have := World.block_lt_of_cell? _ _ hx516_0; first | rwa [add_block] at this | exact this) GW504.out)
      have hn516_7 : ad505.block ≠ gb504 := Nat.ne_of_lt (Nat.lt_of_lt_of_le (by have := World.block_lt_of_cell? _ _ hx516_0; first | rwa [add_block] at this | exact this) GW504.out)
      have hn516_8 : ad505.block ≠ gb504 := Nat.ne_of_lt (Nat.lt_of_lt_of_le (by have := World.block_lt_of_cell? _ _ hx516_0; first | rwa [add_block] at this | exact this) GW504.out)
      have hn516_9 : ad505.block ≠ gb504 := Nat.ne_of_lt (Nat.lt_of_lt_of_le (by have := World.block_lt_of_cell? _ _ hx516_0; first | rwa [add_block] at this | exact this) GW504.out)
      replace hx516_0 := (HB.out.cell (World.block_lt_of_cell? w _ hx516_0)).trans hx516_0
      replace hx516_1 := (HB.out.cell (World.block_lt_of_cell? w _ hx516_1)).trans hx516_1
      replace hx516_0 := (cell_far (p := ⟨gb514, 0, none⟩) (by first | (rw [add_block]; exact hn516_0) | (show (Addr.add _ _).block ≠ _; rw [add_block]; exact hn516_0) | exact hn516_0) (.int .i64 t508)).trans hx516_0
      replace hx516_1 := (cell_far (p := ⟨gb514, 0, none⟩) (by first | (rw [add_block]; exact hn516_0) | (show (Addr.add _ _).block ≠ _; rw [add_block]; exact hn516_0) | exact hn516_0) (.int .i64 t508)).trans hx516_1
      replace hx516_0 := (cell_far (p := ⟨gb514, 1, none⟩) (by first | (rw [add_block]; exact hn516_1) | (show (Addr.add _ _).block ≠ _; rw [add_block]; exact hn516_1) | exact hn516_1) (.int .i64 t509)).trans hx516_0
      replace hx516_1 := (cell_far (p := ⟨gb514, 1, none⟩) (by first | (rw [add_block]; exact hn516_1) | (show (Addr.add _ _).block ≠ _; rw [add_block]; exact hn516_1) | exact hn516_1) (.int .i64 t509)).trans hx516_1
      replace hx516_0 := (cell_far (p := ⟨gb514, 2, none⟩) (by first | (rw [add_block]; exact hn516_2) | (show (Addr.add _ _).block ≠ _; rw [add_block]; exact hn516_2) | exact hn516_2) (.int .i64 t510)).trans hx516_0
      replace hx516_1 := (cell_far (p := ⟨gb514, 2, none⟩) (by first | (rw [add_block]; exact hn516_2) | (show (Addr.add _ _).block ≠ _; rw [add_block]; exact hn516_2) | exact hn516_2) (.int .i64 t510)).trans hx516_1
      replace hx516_0 := (cell_far (p := ⟨gb514, 3, none⟩) (by first | (rw [add_block]; exact hn516_3) | (show (Addr.add _ _).block ≠ _; rw [add_block]; exact hn516_3) | exact hn516_3) (.int .i64 t511)).trans hx516_0
      replace hx516_1 := (cell_far (p := ⟨gb514, 3, none⟩) (by first | (rw [add_block]; exact hn516_3) | (show (Addr.add _ _).block ≠ _; rw [add_block]; exact hn516_3) | exact hn516_3) (.int .i64 t511)).trans hx516_1
      replace hx516_0 := (cell_far (p := ⟨gb515, 0, none⟩) (by first | (rw [add_block]; exact hn516_4) | (show (Addr.add _ _).block ≠ _; rw [add_block]; exact hn516_4) | exact hn516_4) (.int .i64 t512)).trans hx516_0
      replace hx516_1 := (cell_far (p := ⟨gb515, 0, none⟩) (by first | (rw [add_block]; exact hn516_4) | (show (Addr.add _ _).block ≠ _; rw [add_block]; exact hn516_4) | exact hn516_4) (.int .i64 t512)).trans hx516_1
      replace hx516_0 := (cell_far (p := ⟨gb515, 1, none⟩) (by first | (rw [add_block]; exact hn516_5) | (show (Addr.add _ _).block ≠ _; rw [add_block]; exact hn516_5) | exact hn516_5) (.int .i64 t513)).trans hx516_0
      replace hx516_1 := (cell_far (p := ⟨gb515, 1, none⟩) (by first | (rw [add_block]; exact hn516_5) | (show (Addr.add _ _).block ≠ _; rw [add_block]; exact hn516_5) | exact hn516_5) (.int .i64 t513)).trans hx516_1
      replace hx516_0 := (cell_far (p := ⟨gb504, 0, none⟩) (by first | (rw [add_block]; exact hn516_6) | (show (Addr.add _ _).block ≠ _; rw [add_block]; exact hn516_6) | exact hn516_6) (.int .i64 t508)).trans hx516_0
      replace hx516_1 := (cell_far (p := ⟨gb504, 0, none⟩) (by first | (rw [add_block]; exact hn516_6) | (show (Addr.add _ _).block ≠ _; rw [add_block]; exact hn516_6) | exact hn516_6) (.int .i64 t508)).trans hx516_1
      replace hx516_0 := (cell_far (p := ⟨gb504, 1, none⟩) (by first | (rw [add_block]; exact hn516_7) | (show (Addr.add _ _).block ≠ _; rw [add_block]; exact hn516_7) | exact hn516_7) (.int .i64 t509)).trans hx516_0
      replace hx516_1 := (cell_far (p := ⟨gb504, 1, none⟩) (by first | (rw [add_block]; exact hn516_7) | (show (Addr.add _ _).block ≠ _; rw [add_block]; exact hn516_7) | exact hn516_7) (.int .i64 t509)).trans hx516_1
      replace hx516_0 := (cell_far (p := ⟨gb504, 2, none⟩) (by first | (rw [add_block]; exact hn516_8) | (show (Addr.add _ _).block ≠ _; rw [add_block]; exact hn516_8) | exact hn516_8) (.int .i64 t510)).trans hx516_0
      replace hx516_1 := (cell_far (p := ⟨gb504, 2, none⟩) (by first | (rw [add_block]; exact hn516_8) | (show (Addr.add _ _).block ≠ _; rw [add_block]; exact hn516_8) | exact hn516_8) (.int .i64 t510)).trans hx516_1
      replace hx516_0 := (cell_far (p := ⟨gb504, 3, none⟩) (by first | (rw [add_block]; exact hn516_9) | (show (Addr.add _ _).block ≠ _; rw [add_block]; exact hn516_9) | exact hn516_9) (.int .i64 t511)).trans hx516_0
      replace hx516_1 := (cell_far (p := ⟨gb504, 3, none⟩) (by first | (rw [add_block]; exact hn516_9) | (show (Addr.add _ _).block ≠ _; rw [add_block]; exact hn516_9) | exact hn516_9) (.int .i64 t511)).trans hx516_1
      clear hn516_0
      clear hn516_1
      clear hn516_2
      clear hn516_3
      clear hn516_4
      clear hn516_5
      clear hn516_6
      clear hn516_7
      clear hn516_8
      clear hn516_9
      replace p516 := eq_true p516
      replace q516 := eq_true q516
      try go_wp2_with (first | ((with_reducible refine gate_dst (N := 44) rfl ?_); refine Kd.R_lit k25 _ 25 ?hg (N := 44) ?hd (xs := ([(⟨(rd_T25 l0 x9_1).f0, (rd_T25 l0 x9_1).f1⟩ : S25)] : List (S25))) (inner := [.int .i64 ((rd_T25 l0 x9_1).f0), .int .i64 ((rd_T25 l0 x9_1).f1)]) (ok := fun _ => True) (okp := fun _ => True) ?hr ?hp (fun _ hk => hk) trivial (Below.refl _ _) (Nat.le_refl _) (by simp) ?_; (case hd => rfl); (case hg => rfl); (case hr => first | (go_simp; done) | (go_simp; rfl)); (case hp => exact (Reps.c2 (show Kd.M k25 _ _ _ (⟨(rd_T25 l0 x9_1).f0, (rd_T25 l0 x9_1).f1⟩ : S25) [.int .i64 ((rd_T25 l0 x9_1).f0), .int .i64 ((rd_T25 l0 x9_1).f1)] from (k25_mkM _ _ _ (⟨(rd_T25 l0 x9_1).f0, (rd_T25 l0 x9_1).f1⟩ : S25) )) (Reps.none _ _))); intro v518 w31 ho32 hb hg_ hnew_; clear hg_ hnew_; (first | rw [← Ny517.out] at ho32 | (simp only [Int.reduceToNat] at ho32; rw [← Ny517.out] at ho32)); have n0_ := am (Kd.R_elder' (by refine zR ?_; exact (Kd.R_mono (Kd.R_mono (Kd.R_mono (Kd.R_far (p := ⟨gb504, 3, none⟩) (Kd.R_far (p := ⟨gb504, 2, none⟩) (Kd.R_far (p := ⟨gb504, 1, none⟩) (Kd.R_far (p := ⟨gb504, 0, none⟩) (Kd.R_far (p := ⟨gb515, 1, none⟩) (Kd.R_far (p := ⟨gb515, 0, none⟩) (Kd.R_far (p := ⟨gb514, 3, none⟩) (Kd.R_far (p := ⟨gb514, 2, none⟩) (Kd.R_far (p := ⟨gb514, 1, none⟩) (Kd.R_far (p := ⟨gb514, 0, none⟩) (Kd.R_types (Kd.R_mono (Kd.R_types HO_7.out BK514.out (by decide)) (fun k_ hk => (⟨hk, hk.1⟩ : _ ∧ k_ ≠ gb515))) BK504.out (by decide)) (fun _ hk => hk.1.1.2) (.int .i64 t508)) (fun _ hk => hk.1.1.2) (.int .i64 t509)) (fun _ hk => hk.1.1.2) (.int .i64 t510)) (fun _ hk => hk.1.1.2) (.int .i64 t511)) (fun _ hk => hk.1.2) (.int .i64 t512)) (fun _ hk => hk.1.2) (.int .i64 t513)) (fun _ hk => hk.2) (.int .i64 t508)) (fun _ hk => hk.2) (.int .i64 t509)) (fun _ hk => hk.2) (.int .i64 t510)) (fun _ hk => hk.2) (.int .i64 t511)) (fun _ h_ => h_.1)) (fun _ h_ => h_.1)) (fun _ h_ => h_.1))) (Kd.R_base ho32) hb); have n1_ := am (Kd.R_lower (Kd.R_newB (Kd.R_new' ho32 (Kd.R_lt (by refine zR ?_; exact (Kd.R_mono (Kd.R_mono (Kd.R_mono (Kd.R_far (p := ⟨gb504, 3, none⟩) (Kd.R_far (p := ⟨gb504, 2, none⟩) (Kd.R_far (p := ⟨gb504, 1, none⟩) (Kd.R_far (p := ⟨gb504, 0, none⟩) (Kd.R_far (p := ⟨gb515, 1, none⟩) (Kd.R_far (p := ⟨gb515, 0, none⟩) (Kd.R_far (p := ⟨gb514, 3, none⟩) (Kd.R_far (p := ⟨gb514, 2, none⟩) (Kd.R_far (p := ⟨gb514, 1, none⟩) (Kd.R_far (p := ⟨gb514, 0, none⟩) (Kd.R_types (Kd.R_mono (Kd.R_types HO_7.out BK514.out (by decide)) (fun k_ hk => (⟨hk, hk.1⟩ : _ ∧ k_ ≠ gb515))) BK504.out (by decide)) (fun _ hk => hk.1.1.2) (.int .i64 t508)) (fun _ hk => hk.1.1.2) (.int .i64 t509)) (fun _ hk => hk.1.1.2) (.int .i64 t510)) (fun _ hk => hk.1.1.2) (.int .i64 t511)) (fun _ hk => hk.1.2) (.int .i64 t512)) (fun _ hk => hk.1.2) (.int .i64 t513)) (fun _ hk => hk.2) (.int .i64 t508)) (fun _ hk => hk.2) (.int .i64 t509)) (fun _ hk => hk.2) (.int .i64 t510)) (fun _ hk => hk.2) (.int .i64 t511)) (fun _ h_ => h_.1)) (fun _ h_ => h_.1)) (fun _ h_ => h_.1))))) (g := gb515) (o := .cells #[.int .i64 t512, .int .i64 t513] 25 (0, 0)) (by refine zL ?_; refine blk_far ?_ NB515_504.out _; refine zL ?_; refine blk_far ?_ NB515_504.out _; refine zL ?_; refine blk_far ?_ NB515_504.out _; refine zL ?_; refine blk_far ?_ NB515_504.out _; refine zL ?_; refine blk_put (cs := #[.int .i64 t512, .int .i64 0]) ?_ 1 _ rfl; refine zL ?_; refine blk_put (cs := #[.int .i64 0, .int .i64 0]) ?_ 0 _ rfl; refine zL ?_; refine blk_far ?_ NB515_514.out _; refine zL ?_; refine blk_far ?_ NB515_514.out _; refine zL ?_; refine blk_far ?_ NB515_514.out _; refine zL ?_; refine blk_far ?_ NB515_514.out _; refine zL ?_; exact BK515.out)) (below_size (zG3 HB GE504 GE514 GE515))); have n2_ := am (blk_below (g := gb504) (o := .cells #[.int .i64 t508, .int .i64 t509, .int .i64 t510, .int .i64 t511] 23 (0, 0)) (by refine zL ?_; refine blk_put (cs := #[.int .i64 t508, .int .i64 t509, .int .i64 t510, .int .i64 x505003_1]) ?_ 3 _ rfl; refine zL ?_; refine blk_put (cs := #[.int .i64 t508, .int .i64 t509, .int .i64 x505002_1, .int .i64 x505003_1]) ?_ 2 _ rfl; refine zL ?_; refine blk_put (cs := #[.int .i64 t508, .int .i64 x505001_1, .int .i64 x505002_1, .int .i64 x505003_1]) ?_ 1 _ rfl; refine zL ?_; refine blk_put (cs := #[.int .i64 x505000_1, .int .i64 x505001_1, .int .i64 x505002_1, .int .i64 x505003_1]) ?_ 0 _ rfl; refine zL ?_; refine blk_far ?_ NB504_515.out _; refine zL ?_; refine blk_far ?_ NB504_515.out _; refine zL ?_; refine blk_far ?_ NB504_514.out _; refine zL ?_; refine blk_far ?_ NB504_514.out _; refine zL ?_; refine blk_far ?_ NB504_514.out _; refine zL ?_; refine blk_far ?_ NB504_514.out _; refine zL ?_; exact BK504.out) hb); have n3_ := am (blk_below (g := gb514) (o := .cells #[.int .i64 t508, .int .i64 t509, .int .i64 t510, .int .i64 t511] 23 (0, 0)) (by refine zL ?_; refine blk_far ?_ NB514_504.out _; refine zL ?_; refine blk_far ?_ NB514_504.out _; refine zL ?_; refine blk_far ?_ NB514_504.out _; refine zL ?_; refine blk_far ?_ NB514_504.out _; refine zL ?_; refine blk_far ?_ NB514_515.out _; refine zL ?_; refine blk_far ?_ NB514_515.out _; refine zL ?_; refine blk_put (cs := #[.int .i64 t508, .int .i64 t509, .int .i64 t510, .int .i64 0]) ?_ 3 _ rfl; refine zL ?_; refine blk_put (cs := #[.int .i64 t508, .int .i64 t509, .int .i64 0, .int .i64 0]) ?_ 2 _ rfl; refine zL ?_; refine blk_put (cs := #[.int .i64 t508, .int .i64 0, .int .i64 0, .int .i64 0]) ?_ 1 _ rfl; refine zL ?_; refine blk_put (cs := #[.int .i64 0, .int .i64 0, .int .i64 0, .int .i64 0]) ?_ 0 _ rfl; refine zL ?_; exact BK514.out) hb); have n4_ := am (blk_below (g := gb515) (o := .cells #[.int .i64 t512, .int .i64 t513] 25 (0, 0)) (by refine zL ?_; refine blk_far ?_ NB515_504.out _; refine zL ?_; refine blk_far ?_ NB515_504.out _; refine zL ?_; refine blk_far ?_ NB515_504.out _; refine zL ?_; refine blk_far ?_ NB515_504.out _; refine zL ?_; refine blk_put (cs := #[.int .i64 t512, .int .i64 0]) ?_ 1 _ rfl; refine zL ?_; refine blk_put (cs := #[.int .i64 0, .int .i64 0]) ?_ 0 _ rfl; refine zL ?_; refine blk_far ?_ NB515_514.out _; refine zL ?_; refine blk_far ?_ NB515_514.out _; refine zL ?_; refine blk_far ?_ NB515_514.out _; refine zL ?_; refine blk_far ?_ NB515_514.out _; refine zL ?_; exact BK515.out) hb); have n5_ := am (below_step (zG3 HB GE504 GE514 GE515) hb); clear HO_7; clear BK504; clear BK514; clear BK515; clear HB; have HO_7 := n0_; have HO519 := n1_; have BK504 := n2_; have BK514 := n3_; have BK515 := n4_; have HB := n5_; clear n0_ n1_ n2_ n3_ n4_ n5_; clear hb ho32; obtain ⟨Ao33, co33, eo33⟩ := Kd.R_slice HO519.out; subst eo33; obtain ⟨Ao34, co34, eo34⟩ := Kd.R_slice HO_7.out; subst eo34) | ((with_reducible refine gate_callee (f := 24) rfl ?_); refine goesL_ (some 46) rfl rfl Try.func24 (by kernel_rfl) rfl #[.slice Ao33 y517.length co33, .slice Ao34 x7_1.length co34] rfl zM ?_; (with_reducible refine (r34_Subtract.calls k1 _ _ y517 _ _ x7_1 t520 _ ?side1 ?side2 ?side3 ?side4 A10.out).mono ?_); (case side1 => exact zC (Kd.R_reads' HO519.out).2.2); (case side2 => exact (Kd.R_reads' HO519.out).2.1); (case side3 => exact zC (Kd.R_reads' HO_7.out).2.2); (case side4 => exact (Kd.R_reads' HO_7.out).2.1); rintro e w35 ⟨v521, rfl, ho0, hb⟩; refine ⟨_, rfl, ?_⟩; have n0_ := am (Kd.R_elder' (zR HO_7.out) (Kd.R_base ho0) hb); have n1_ := am (Kd.R_elder' (zR HO519.out) (Kd.R_base ho0) hb); have n2_ := am (Kd.R_lower (Kd.R_newB (Kd.R_new' (Kd.R_new' ho0 (Kd.R_lt (zR HO_7.out))) (Kd.R_lt (zR HO519.out))) (g := gb515) (o := .cells #[.int .i64 t512, .int .i64 t513] 25 (0, 0)) (zL BK515.out)) (below_size (zG3 HB GE504 GE514 GE515))); have n3_ := am (blk_below (g := gb504) (o := .cells #[.int .i64 t508, .int .i64 t509, .int .i64 t510, .int .i64 t511] 23 (0, 0)) (zL BK504.out) hb); have n4_ := am (blk_below (g := gb514) (o := .cells #[.int .i64 t508, .int .i64 t509, .int .i64 t510, .int .i64 t511] 23 (0, 0)) (zL BK514.out) hb); have n5_ := am (blk_below (g := gb515) (o := .cells #[.int .i64 t512, .int .i64 t513] 25 (0, 0)) (zL BK515.out) hb); have n6_ := am (below_step (zG3 HB GE504 GE514 GE515) hb); clear HO_7; clear HO519; clear BK504; clear BK514; clear BK515; clear HB; have HO_7 := n0_; have HO519 := n1_; have HO522 := n2_; have BK504 := n3_; have BK514 := n4_; have BK515 := n5_; have HB := n6_; clear n0_ n1_ n2_ n3_ n4_ n5_ n6_; (try clear hb); (try clear hb2); (try clear hk); (try clear hi); (try clear ho0); have hcz36_0 : w35.cell? ⟨gb515, 0, none⟩ = some (.int .i64 t512) := (blk_cell BK515.out 0).trans rfl; have hcz36_1 : w35.cell? ⟨gb515, 1, none⟩ = some (.int .i64 t513) := (blk_cell BK515.out 1).trans rfl; have hfz36_0 := blk_frozen BK515.out 0; have hfz36_1 := blk_frozen BK515.out 1; obtain ⟨Ao37, co37, eo37⟩ := Kd.R_slice HO522.out; subst eo37) | ((with_reducible refine gate_callee (f := 15) rfl ?_); refine goesL_ (some 51) rfl rfl Try.func15 (by kernel_rfl) rfl #[.slice Ao37 t520.length co37, .agg #[.int .i64 t512, .int .i64 t513], .int .i64 a1, .int .i64 0] rfl zM ?_; (with_reducible refine (r36_Requests.calls k1 _ _ t520 t512 t513 a1 0 t523 _ ?side1 ?side2 A11.out).mono ?_); (case side1 => exact zC (Kd.R_reads' HO522.out).2.2); (case side2 => exact (Kd.R_reads' HO522.out).2.1); rintro e w38 ⟨v524, rfl, ho0, hb⟩; refine ⟨_, rfl, ?_⟩; have n0_ := am (Kd.R_elder' (zR HO_7.out) (Kd.R_base ho0) hb); have n1_ := am (Kd.R_elder' (zR HO519.out) (Kd.R_base ho0) hb); have n2_ := am (Kd.R_elder' (zR HO522.out) (Kd.R_base ho0) hb); have n3_ := am (Kd.R_lower (Kd.R_newB (Kd.R_new' (Kd.R_new' (Kd.R_new' ho0 (Kd.R_lt (zR HO_7.out))) (Kd.R_lt (zR HO519.out))) (Kd.R_lt (zR HO522.out))) (g := gb515) (o := .cells #[.int .i64 t512, .int .i64 t513] 25 (0, 0)) (zL BK515.out)) (below_size (zG3 HB GE504 GE514 GE515))); have n4_ := am (blk_below (g := gb504) (o := .cells #[.int .i64 t508, .int .i64 t509, .int .i64 t510, .int .i64 t511] 23 (0, 0)) (zL BK504.out) hb); have n5_ := am (blk_below (g := gb514) (o := .cells #[.int .i64 t508, .int .i64 t509, .int .i64 t510, .int .i64 t511] 23 (0, 0)) (zL BK514.out) hb); have n6_ := am (blk_below (g := gb515) (o := .cells #[.int .i64 t512, .int .i64 t513] 25 (0, 0)) (zL BK515.out) hb); have n7_ := am (below_step (zG3 HB GE504 GE514 GE515) hb); clear HO_7; clear HO519; clear HO522; clear BK504; clear BK514; clear BK515; clear HB; have HO_7 := n0_; have HO519 := n1_; have HO522 := n2_; have HO525 := n3_; have BK504 := n4_; have BK514 := n5_; have BK515 := n6_; have HB := n7_; clear n0_ n1_ n2_ n3_ n4_ n5_ n6_ n7_; (try clear hb); (try clear hb2); (try clear hk); (try clear hi); (try clear ho0); obtain ⟨Ao39, co39, eo39⟩ := Kd.R_slice HO525.out; subst eo39) | ((with_reducible refine gate_callee (f := 30) rfl ?_); refine goesL_ (some 52) rfl rfl Try.func30 (by kernel_rfl) rfl #[.slice Ao34 x7_1.length co34, .slice Ao39 t523.length co39] rfl zM ?_; (with_reducible refine (r34_Union.calls k1 _ _ x7_1 _ _ t523 t526 _ ?side1 ?side2 ?side3 ?side4 A12.out).mono ?_); (case side1 => exact zC (Kd.R_reads' HO_7.out).2.2); (case side2 => exact (Kd.R_reads' HO_7.out).2.1); (case side3 => exact zC (Kd.R_reads' HO525.out).2.2); (case side4 => exact (Kd.R_reads' HO525.out).2.1); rintro e w40 ⟨v527, rfl, ho0, hb⟩; refine ⟨_, rfl, ?_⟩; have n0_ := am (Kd.R_elder' (zR HO_7.out) (Kd.R_base ho0) hb); have n1_ := am (Kd.R_elder' (zR HO519.out) (Kd.R_base ho0) hb); have n2_ := am (Kd.R_elder' (zR HO522.out) (Kd.R_base ho0) hb); have n3_ := am (Kd.R_elder' (zR HO525.out) (Kd.R_base ho0) hb); have n4_ := am (Kd.R_lower (Kd.R_newB (Kd.R_new' (Kd.R_new' (Kd.R_new' (Kd.R_new' ho0 (Kd.R_lt (zR HO_7.out))) (Kd.R_lt (zR HO519.out))) (Kd.R_lt (zR HO522.out))) (Kd.R_lt (zR HO525.out))) (g := gb515) (o := .cells #[.int .i64 t512, .int .i64 t513] 25 (0, 0)) (zL BK515.out)) (below_size (zG3 HB GE504 GE514 GE515))); have n5_ := am (blk_below (g := gb504) (o := .cells #[.int .i64 t508, .int .i64 t509, .int .i64 t510, .int .i64 t511] 23 (0, 0)) (zL BK504.out) hb); have n6_ := am (blk_below (g := gb514) (o := .cells #[.int .i64 t508, .int .i64 t509, .int .i64 t510, .int .i64 t511] 23 (0, 0)) (zL BK514.out) hb); have n7_ := am (blk_below (g := gb515) (o := .cells #[.int .i64 t512, .int .i64 t513] 25 (0, 0)) (zL BK515.out) hb); have n8_ := am (below_step (zG3 HB GE504 GE514 GE515) hb); clear HO_7; clear HO519; clear HO522; clear HO525; clear BK504; clear BK514; clear BK515; clear HB; have HO_7 := n0_; have HO519 := n1_; have HO522 := n2_; have HO525 := n3_; have HO528 := n4_; have BK504 := n5_; have BK514 := n6_; have BK515 := n7_; have HB := n8_; clear n0_ n1_ n2_ n3_ n4_ n5_ n6_ n7_ n8_; (try clear hb); (try clear hb2); (try clear hk); (try clear hi); (try clear ho0)))
      go_roundg k1
      case measure => have := HK1.out; omega
      case rel => exact ⟨(t526), (wrap64 (x9_1 + 1)), (t508), (t509), (t510), (t511), zS, H', ⟨by have := HK1.out; omega⟩, ⟨by refine zR ?_; exact Kd.R_mono HO528.out (fun _ hk => trivial)⟩, ⟨by refine zL ?_; exact BK504.out⟩, ⟨zG3 HB GE504 GE514 GE515⟩⟩
     ·replace c8 := Bool.eq_false_iff.mpr c8
      subst c8
      have H1 : (r36_Replay.l0 k1 l0 a1 a2 x7_1 (wrap64 (x9_1 + 1)) x505000_1 x505001_1 x505002_1 x505003_1) = some r := by rw [if_neg (show ¬ (false = true) by decide)] at H; exact H
      clear H
      have H := H1
      clear H1
      have H' := am H
      clear H
      try go_wp2
      have n0_ := am (Kd.R_drew HO_7.out)
      have n1_ := am (blk_drew BK504.out)
      have n2_ := am (below_drew1 HB.out)
      clear HO_7
      clear BK504
      clear HB
      have HO_7 := n0_
      have BK504 := n1_
      have HB := n2_
      clear n0_ n1_ n2_
      have p505 : 0 ≤ (x9_1 : Int) := of_decide_eq_true zA
      have q505 : x9_1 < (l0.length : Int) := of_decide_eq_true zA
      obtain ⟨ad505, e505, hx505_0, hx505_1⟩ := at_T25 HR0.out x9_1 p505 q505
      have hw505_1 := hx505_1
      have hw505_0 := hx505_0
      cases e505
      replace hx505_0 := (HB.out.cell (World.block_lt_of_cell? w _ hx505_0)).trans hx505_0
      replace hx505_1 := (HB.out.cell (World.block_lt_of_cell? w _ hx505_1)).trans hx505_1
      replace p505 := eq_true p505
      replace q505 := eq_true q505
      refine start_ (n := 9) (S := fun w' => w'.cell? ⟨gb504, 0, none⟩ = some (.int .i64 x505000_1) ∧ w'.cell? ⟨gb504, 1, none⟩ = some (.int .i64 x505001_1) ∧ w'.cell? ⟨gb504, 2, none⟩ = some (.int .i64 x505002_1) ∧ w'.cell? ⟨gb504, 3, none⟩ = some (.int .i64 x505003_1) ∧ w'.cell? (ad505.add ((x9_1).toNat * 2)) = some (.int .i64 ((rd_T25 l0 x9_1).f0)) ∧ w'.cell? ⟨(ad505.add ((x9_1).toNat * 2)).block, (ad505.add ((x9_1).toNat * 2)).off + 1, none⟩ = some (.int .i64 ((rd_T25 l0 x9_1).f1))) (ds := []) #[F,F,F,F,F,F,F,F,F] (by kernel_rfl) rfl rfl ⟨(blk_cell BK504.out 0).trans rfl, (blk_cell BK504.out 1).trans rfl, (blk_cell BK504.out 2).trans rfl, (blk_cell BK504.out 3).trans rfl, ((HB.out.cell (World.block_lt_of_cell? w _ hw505_0)).trans hw505_0), ((HB.out.cell (World.block_lt_of_cell? w _ hw505_1)).trans hw505_1)⟩ (fun hHeld => ?_); refine with_tabW r36_Replay.tab6 r36_Replay.bits6 (fun HT_ HW_ => ?_)
      generalize wr.drew = w41 at HO_7 BK504 HB hx505_0 hx505_1 hHeld ⊢
      refine pure_ (i := 1) (N := some 20) (v := ?_) (a' := ?_) #[F,T,F,F,F,F,F,F,F] rfl rfl (zO HT_) (fun _ _ _ h => h) (Or.inl ⟨by rfl, ?_⟩) ?_ ?_
      rotate_left
      ·intro w'
       go_simp
       with_reducible rfl
      rotate_left
      ·exact zP i64_w i32_w
      refine pure_ (i := 2) (N := some 21) (v := ?_) (a' := ?_) #[F,T,T,F,F,F,F,F,F] rfl rfl (zO HT_) (fun _ _ _ h => h) (Or.inl ⟨by rfl, ?_⟩) ?_ ?_
      rotate_left
      ·intro w'
       go_simp
       with_reducible rfl
      rotate_left
      ·exact zP i64_w i32_w
      refine pure_ (i := 3) (N := some 22) (v := ?_) (a' := ?_) #[F,T,T,T,F,F,F,F,F] rfl rfl (zO HT_) (fun _ _ _ h => h) (Or.inl ⟨by rfl, ?_⟩) ?_ ?_
      rotate_left
      ·intro w'
       go_simp
       with_reducible rfl
      rotate_left
      ·exact zP i64_w i32_w
      refine pure_ (i := 5) (N := some 24) (v := ?_) (a' := ?_) #[F,T,T,T,F,T,F,F,F] rfl rfl (zO HT_) (fun _ _ _ h => h) (Or.inl ⟨by rfl, ?_⟩) ?_ ?_
      rotate_left
      ·intro w'
       go_simp
       with_reducible rfl
      rotate_left
      ·exact zP i64_w i32_w
      refine pure_ (i := 6) (N := some 25) (v := ?_) (a' := ?_) #[F,T,T,T,F,T,T,F,F] rfl rfl (zO HT_) (fun _ _ _ h => h) (Or.inl ⟨by rfl, ?_⟩) ?_ ?_
      rotate_left
      ·intro w'
       go_simp
       with_reducible rfl
      rotate_left
      ·exact zP i64_w i32_w
      refine take_ (i := 0) (N := some 19) (v := ?_) (a' := ?_) #[T,T,T,T,F,T,T,F,F] rfl rfl (take_ofW HT_.out HW_.out (by kernel_rfl)) (fun _ _ _ h => h) (Or.inl ⟨by rfl, ?_⟩) hHeld ?_ ?_
      rotate_left
      ·rintro w' ⟨s0, s1, s2, s3, s4, s5⟩
       go_simp
       with_reducible rfl
      rotate_left
      ·exact zP i64_w i32_w
      refine take_ (i := 4) (N := some 23) (v := ?_) (a' := ?_) #[T,T,T,T,T,T,T,F,F] rfl rfl (take_ofW HT_.out HW_.out (by kernel_rfl)) (fun _ _ _ h => h) (Or.inl ⟨by rfl, ?_⟩) hHeld ?_ ?_
      rotate_left
      ·rintro w' ⟨s0, s1, s2, s3, s4, s5⟩
       go_simp
       with_reducible rfl
      rotate_left
      ·exact zP i64_w i32_w
      refine one_ (i := 7) (N := some 26) #[T,T,T,T,T,T,T,T,F] rfl rfl (one_of HT_.out (by kernel_rfl)) (by decide) (fun K hK => ?_)
      refine goes_ Try.func21 (by kernel_rfl) rfl #[.agg #[.int .i64 x505000_1, .int .i64 x505001_1, .int .i64 x505002_1, .int .i64 x505003_1], .agg #[.int .i64 ((rd_T25 l0 x9_1).f0), .int .i64 ((rd_T25 l0 x9_1).f1)], .int .i64 a1, .int .i64 a2] (by rfl) rfl rfl zM ?_
      with_reducible refine (r36_Valid.calls k1 x505000_1 x505001_1 x505002_1 x505003_1 ((rd_T25 l0 x9_1).f0) ((rd_T25 l0 x9_1).f1) a1 a2 false _ A7.out).mono ?_
      rintro e w42 ⟨rfl, hb⟩
      refine ⟨_, rfl, ?_⟩
      have n0_ := am (Kd.R_below (zR HO_7.out) hb)
      have n1_ := am (blk_below (g := gb504) (o := .cells #[.int .i64 x505000_1, .int .i64 x505001_1, .int .i64 x505002_1, .int .i64 x505003_1] 23 (0, 0)) (zL BK504.out) hb)
      have n2_ := am (below_step (zG HB GE504) hb)
      clear HO_7
      clear BK504
      clear HB
      have HO_7 := n0_
      have BK504 := n1_
      have HB := n2_
      clear n0_ n1_ n2_
      (try clear hb)
      (try clear hb2)
      (try clear hk)
      (try clear hi)
      refine hK.out _ _ ⟨(blk_cell BK504.out 0).trans rfl, (blk_cell BK504.out 1).trans rfl, (blk_cell BK504.out 2).trans rfl, (blk_cell BK504.out 3).trans rfl, ((HB.out.cell (World.block_lt_of_cell? w _ hw505_0)).trans hw505_0), ((HB.out.cell (World.block_lt_of_cell? w _ hw505_1)).trans hw505_1)⟩ (fun hHeld => ?_)
      clear hK K
      refine norm_ (a' := ?_) ?_ ?_
      rotate_left
      ·show Act.put _ (some 26) _ = _
       simp only [Act.put, List.setIfInBounds_toArray, List.set_cons_zero, List.set_cons_succ, i64_w, i32_w]
       rfl
      refine pure_ (i := 8) (N := some 27) (v := ?_) (a' := ?_) #[T,T,T,T,T,T,T,T,T] rfl rfl (zO HT_) (fun _ _ _ h => h) (Or.inl ⟨by rfl, ?_⟩) ?_ ?_
      rotate_left
      ·intro w'
       go_simp
       with_reducible rfl
      rotate_left
      ·exact zP i64_w i32_w
      refine done_ (done_of HT_.out (by kernel_rfl)) ?_
      try go_wp2
      go_roundg k1
      case measure => have := HK1.out; omega
      case rel => exact ⟨(x7_1), (wrap64 (x9_1 + 1)), (x505000_1), (x505001_1), (x505002_1), (x505003_1), zS, H', ⟨by have := HK1.out; omega⟩, ⟨zR HO_7.out⟩, ⟨by refine zL ?_; exact BK504.out⟩, ⟨zG HB GE504⟩⟩
    ·rw [if_neg c6] at H
     exact absurd H (by simp)
   ·rw [if_neg c5] at H
    have c5b0 : decide (x9_1 < (l0.length : Int)) = false := decide_eq_false c5
    clear c5
    obtain rfl := Option.some.inj H
    go_wp2
    go_ret
    exact ⟨_, by first | rfl | (simp [errW_none, errW_some] <;> rfl) | (simp [*, errW_none, errW_some] <;> rfl), by refine zR ?_; exact HO_7.out, zG HB GE504⟩

end
end Go.Proofs.Ytapbmkcncjkanaa.P
