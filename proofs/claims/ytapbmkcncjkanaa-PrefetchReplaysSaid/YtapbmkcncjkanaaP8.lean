-- Written by this session's wip/tools/px.py out of the translation. Lean checks it.
import Derived.Test.YtapbmkcncjkanaaP0
import Derived.Test.YtapbmkcncjkanaaExtE
namespace Go.Proofs.Ytapbmkcncjkanaa.P
noncomputable section
open Go.RowKit Go.Proofs.YtapbmkcncjkanaaW.PrintWords Go.Proofs.YtapbmkcncjkanaaW.PrintLast Go.Proofs.YtapbmkcncjkanaaW.PrintMore
attribute [local go_sem] max2_int min2_int max_two min_two max_three min_three max_four min_four   -- for this text's walks alone
set_option linter.unusedVariables false
set_option linter.unusedSimpArgs false

/-! ### extent_Gaps: function 28 -/
mutual
def extent_Gaps.l0 : Nat → Int → List (S25) → List (S25) → Int → Int → Option ((List (S25)))
 | 0, _, _, _, _, _ => none
 | k + 1, x1, x5, x10, x11, x12 => if x12 < x11 then (if 0 ≤ x12 then (if x12 < (x10.length : Int) then (if (wrap64 ((x5.length : Int) - 1)) ≥ 0 then (if 0 ≤ (wrap64 ((x5.length : Int) - 1)) then (if (wrap64 ((x5.length : Int) - 1)) < (x5.length : Int) then (extent_Gaps.j1 k x1 x5 (wrap64 ((x5.length : Int) - 1)) x10 x11 x12 (decide ((wrap64 (((rd_T25 x10 x12).f0) - (wrap64 (((rd_T25 x5 (wrap64 ((x5.length : Int) - 1))).f0) + ((rd_T25 x5 (wrap64 ((x5.length : Int) - 1))).f1))))) ≤ x1)) ((rd_T25 x10 x12).f0) ((rd_T25 x10 x12).f1)) else (none)) else (none)) else (extent_Gaps.j1 k x1 x5 (wrap64 ((x5.length : Int) - 1)) x10 x11 x12 false ((rd_T25 x10 x12).f0) ((rd_T25 x10 x12).f1))) else (none)) else (none)) else (some x5)
def extent_Gaps.j1 : Nat → Int → List (S25) → Int → List (S25) → Int → Int → Bool → Int → Int → Option ((List (S25)))
 | 0, _, _, _, _, _, _, _, _, _ => none
 | k + 1, x1, x5, x8, x10, x11, x12, x38, x189000, x189001 => if x38 = true then (if 0 ≤ x8 then (if x8 < (x5.length : Int) then (extent_Gaps.l0 k x1 (x5.set (x8 : Int).toNat (⟨(rd_T25 x5 x8).f0, wrap64 ((wrap64 (x189000 + x189001)) - ((rd_T25 x5 x8).f0))⟩ : S25)) x10 x11 (wrap64 (x12 + 1))) else (none)) else (none)) else (if x5.length < 8796093022208 then (extent_Gaps.l0 k x1 (x5 ++ [(⟨x189000, x189001⟩ : S25)]) x10 x11 (wrap64 (x12 + 1))) else (none))
end
def extent_Gaps.f (k : Nat) (l0 : List (S25)) (a1 : Int) : Option ((List (S25))) := (extent_Normal.f l0).bind fun t184 => (extent_Gaps.l0 k a1 ([] : List (S25)) t184 (t184.length : Int) 0)
theorem extent_Gaps.mono_l : ∀ k, (∀ y0 y1 y2 y3 y4, LeO (extent_Gaps.l0 k y0 y1 y2 y3 y4) (extent_Gaps.l0 (k + 1) y0 y1 y2 y3 y4)) ∧ (∀ y0 y1 y2 y3 y4 y5 y6 y7 y8, LeO (extent_Gaps.j1 k y0 y1 y2 y3 y4 y5 y6 y7 y8) (extent_Gaps.j1 (k + 1) y0 y1 y2 y3 y4 y5 y6 y7 y8))
 | 0 => ⟨fun _ _ _ _ _ r h => by simp [extent_Gaps.l0] at h, fun _ _ _ _ _ _ _ _ _ r h => by simp [extent_Gaps.j1] at h⟩
 | k + 1 => by
  obtain ⟨ih0, ih1⟩ := extent_Gaps.mono_l k
  refine ⟨?_, ?_⟩
  ·intro y0 y1 y2 y3 y4
   unfold extent_Gaps.l0
   repeat' first
   | (with_reducible exact ih0 _ _ _ _ _)
   | (with_reducible exact ih1 _ _ _ _ _ _ _ _ _)
   | (with_reducible exact LeO.refl _)
   | (with_reducible exact LeO.none _)
   | (with_reducible refine LeO.ite ?_ ?_)
   | (with_reducible refine LeO.bind ?_ (fun _ => ?_))
   | exact ih0 _ _ _ _ _
   | exact ih1 _ _ _ _ _ _ _ _ _
   | exact LeO.none _
   | refine LeO.ite ?_ ?_
   | refine LeO.bind ?_ (fun _ => ?_)
  ·intro y0 y1 y2 y3 y4 y5 y6 y7 y8
   unfold extent_Gaps.j1
   repeat' first
   | (with_reducible exact ih0 _ _ _ _ _)
   | (with_reducible exact ih1 _ _ _ _ _ _ _ _ _)
   | (with_reducible exact LeO.refl _)
   | (with_reducible exact LeO.none _)
   | (with_reducible refine LeO.ite ?_ ?_)
   | (with_reducible refine LeO.bind ?_ (fun _ => ?_))
   | exact ih0 _ _ _ _ _
   | exact ih1 _ _ _ _ _ _ _ _ _
   | exact LeO.none _
   | refine LeO.ite ?_ ?_
   | refine LeO.bind ?_ (fun _ => ?_)
theorem extent_Gaps.mono : ∀ a0 a1 k, LeO (extent_Gaps.f k a0 a1) (extent_Gaps.f (k + 1) a0 a1) := by
 intro a0 a1 k
 obtain ⟨ih0, ih1⟩ := extent_Gaps.mono_l k
 unfold extent_Gaps.f
 repeat' first
   | (with_reducible exact ih0 _ _ _ _ _)
   | (with_reducible exact ih1 _ _ _ _ _ _ _ _ _)
   | (with_reducible exact LeO.refl _)
   | (with_reducible exact LeO.none _)
   | (with_reducible refine LeO.ite ?_ ?_)
   | (with_reducible refine LeO.bind ?_ (fun _ => ?_))
   | exact ih0 _ _ _ _ _
   | exact ih1 _ _ _ _ _ _ _ _ _
   | exact LeO.none _
   | refine LeO.ite ?_ ?_
   | refine LeO.bind ?_ (fun _ => ?_)
def extent_Gaps.T6 : Bool × List (List Nat × List Nat) := (true, [([], []), ([0], [0]), ([1], [1]), ([2], [2]), ([3, 2], [2, 3]), ([2], [2]), ([2], [2]), ([5, 6, 2], [2, 5, 6]), ([7, 2], [2, 7]), ([8, 2], [2, 8]), ([2], [2]), ([2], [2]), ([10, 11, 2], [2, 10, 11]), ([12, 2], [2, 12]), ([13, 2], [2, 13]), ([9, 14, 2], [2, 9, 14]), ([4, 15, 2], [2, 4, 15]), ([2], [2]), ([16, 17, 2], [2, 16, 17]), ([2, 18], [2, 18])])
def extent_Gaps.B6 : List Nat := [0, 1, 3, 7, 15, 7, 7, 103, 231, 487, 7, 7, 3079, 7175, 15367, 32743, 65535, 7, 262143, 524287]
theorem extent_Gaps.tab6 : rtab .any (opsOf Try.f28 6) = extent_Gaps.T6 := by kernel_rfl
theorem extent_Gaps.bits6 : waitsOk extent_Gaps.T6.2 extent_Gaps.B6 = true := by kernel_rfl
def extent_Gaps.T7 : Bool × List (List Nat × List Nat) := (true, [([], []), ([], []), ([], []), ([2], [2]), ([], []), ([4], [4]), ([3, 5], [3, 5]), ([], []), ([], []), ([7, 8], [7, 8]), ([9], [9]), ([10], [10]), ([6, 11], [6, 11]), ([0, 1, 0, 1, 2, 3, 4, 5, 6, 7, 8, 9, 10, 11, 12], [0, 1]), ([13, 0, 1, 2, 3, 4, 5, 6, 7, 8, 9, 10, 11, 12], [13]), ([14, 12, 0, 1, 2, 3, 4, 5, 6, 7, 8, 9, 10, 11, 12], [12, 14])])
def extent_Gaps.B7 : List Nat := [0, 0, 0, 4, 0, 16, 60, 0, 0, 384, 896, 1920, 4092, 8191, 16383, 32767]
theorem extent_Gaps.tab7 : rtab .any (opsOf Try.f28 7) = extent_Gaps.T7 := by kernel_rfl
theorem extent_Gaps.bits7 : waitsOk extent_Gaps.T7.2 extent_Gaps.B7 = true := by kernel_rfl
set_option maxHeartbeats 8000000 in
set_option maxRecDepth 100000 in
theorem extent_Gaps.calls (k : Nat) (A0 : Option Addr) (c0 : Nat) (l0 : List (S25)) (a1 : Int) (r : List (S25)) (w : World) (hr0 : Kd.C k25 w A0 l0.length l0) (hc0 : l0.length ≤ c0) (h : extent_Gaps.f k l0 a1 = some r) :
  Calls Try.prog 28 #[.slice A0 l0.length c0, .int .i64 a1] w fun e w' => ∃ v0_ : Value, e = .returned (v0_) ∧ Kd.R k25 25 w' w.heap.size (fun _ => True) v0_ r ∧ Below w.heap.size w w' := by
 have hu25 := Try.underlying25
 have HR0 := am hr0
 have HC0 := am hc0
 clear hr0 hc0
 have HB := am (Below.refl w.heap.size w)
 have H : ((extent_Normal.f l0).bind fun t184 => (extent_Gaps.l0 k a1 ([] : List (S25)) t184 (t184.length : Int) 0)) = some r := h
 clear h
 replace H := Option.bind_eq_some_iff.mp H
 obtain ⟨t184, A30, H⟩ := H
 replace H : (extent_Gaps.l0 k a1 ([] : List (S25)) t184 (t184.length : Int) 0) = some r := H
 have A3 := am A30
 clear A30
 have H' := am H
 clear H
 go_enter Try.func28, Try.ntmps28
 go_wp2_with (first | ((with_reducible refine gate_callee (f := 41) rfl ?_); refine goesL_ (some 10) rfl rfl Try.func41 (by kernel_rfl) rfl #[.slice A0 l0.length c0] rfl zM ?_; (with_reducible refine (extent_Normal.calls _ _ l0 t184 _ ?side1 ?side2 A3.out).mono ?_); (case side1 => repeat (first | exact HR0.out | (with_reducible refine Kd.C_alloc ?_ _) | (with_reducible refine Kd.C_drewN ?_ _) | (with_reducible refine Kd.C_drew ?_))); (case side2 => exact HC0.out); rintro e w4 ⟨v185, rfl, ho0, hb⟩; refine ⟨_, rfl, ?_⟩; have n0_ := am (Kd.R_lower ho0 (below_size (zB HB))); have n1_ := am (below_step (zB HB) hb); clear HB; have HO186 := n0_; have HB := n1_; clear n0_ n1_; (try clear hb); (try clear hb2); (try clear hk); (try clear hi); (try clear ho0); obtain ⟨Ao5, co5, eo5⟩ := Kd.R_slice HO186.out; subst eo5))
 go_loopg [5, 12] k (fun kq v5 v12 w' => ∃ (x5_1 : List (S25)) (x10_1 : List (S25)) (x12_1 : Int), v12 = .int .i64 x12_1 ∧ Aside0 (extent_Gaps.l0 kq a1 x5_1 x10_1 (t184.length : Int) x12_1 = some r) ∧ Aside0 (kq ≤ k) ∧ Aside0 (Kd.R k25 25 w' w.heap.size (fun k_ => some k_ ≠ ((.slice Ao5 t184.length co5) : Value).ownBlock) v5 x5_1) ∧ Aside0 (Kd.R k25 25 w' w.heap.size (fun k_ => some k_ ≠ (v5 : Value).ownBlock) (.slice Ao5 t184.length co5) x10_1) ∧ Aside0 (Below w.heap.size w w'))
 case atStart => exact ⟨(([] : List (S25))), (t184), (0), zS, H', ⟨Nat.le_refl _⟩, ⟨by first | exact Kd.R_nil _ _ _ _ _ | exact Kd.N_nil _ _ _ _ _ | exact Kd.V_nil _ _ _ _ _ | exact Kd.Q_nil _ _ _ _ _ | exact Kd.S_nil _ _ _ _ _⟩, ⟨by refine zR ?_; exact Kd.R_mono HO186.out (fun _ hk => (by simp [Value.ownBlock]))⟩, ⟨zB HB⟩⟩
 case round =>
  clear H'
  try clear c2
  try clear p2
  try clear c4
  obtain ⟨x5_1, x10_1, x12_1, rfl, HA, HK1, HO_5, HO_10, HB⟩ := hrel
  have hl10_1 := (Kd.R_reads' HO_10.out).1
  rw [hl10_1] at HO_10
  (try simp only [hl10_1])
  (try simp only [hl10_1] at HO_5)
  cases gk with
  | zero => exact absurd HA.out (by simp [extent_Gaps.l0])
  | succ k1 =>
   have H := HA.out
   clear HA
   simp only [extent_Gaps.l0] at H
   by_cases c6 : x12_1 < (t184.length : Int)
   ·rw [if_pos c6] at H
    have c6b0 : decide (x12_1 < (t184.length : Int)) = true := decide_eq_true c6
    (try (have c6g_hl10_1 := c6b0; simp only [hl10_1] at c6g_hl10_1))
    clear c6
    by_cases c7 : 0 ≤ x12_1
    ·rw [if_pos c7] at H
     have c7b0 : decide (0 ≤ x12_1) = true := decide_eq_true c7
     clear c7
     by_cases c8 : x12_1 < (x10_1.length : Int)
     ·rw [if_pos c8] at H
      have c8b0 : decide (x12_1 < (x10_1.length : Int)) = true := decide_eq_true c8
      (try (have c8g_hl10_1 := c8b0; simp only [hl10_1] at c8g_hl10_1))
      clear c8
      have HC9 := am H
      clear H
      have p187 : 0 ≤ (x12_1 : Int) := of_decide_eq_true zA
      have q187 : x12_1 < (x10_1.length : Int) := of_decide_eq_true zA
      obtain ⟨ad187, e187, hx187_0, hx187_1⟩ := at_T25 (Kd.R_reads' HO_10.out).2.2 x12_1 p187 q187
      cases e187
      replace p187 := eq_true p187
      replace q187 := eq_true q187
      go_upto_region 6 with (first | ((with_reducible refine gate_dst (N := 7) rfl ?_); refine box_event ?hg (N := 7) ?hd (cs := #[.int .i64 0, .int .i64 0]) (t := 25) ?hr ?_; (case hd => rfl); (case hg => rfl); (case hr => first | (go_simp; done) | (go_simp; rfl)); intro gb188 hg w10 hbox hb; have n0_ := am (Kd.R_below (Kd.R_elderB (zR HO_5.out) gb188 (Nat.le_of_eq hg.symm)) hb); have n1_ := am (Kd.R_below (Kd.R_elderB (zR HO_10.out) gb188 (Nat.le_of_eq hg.symm)) hb); have n2_ := am (below_step (zB HB) hb); have n3_ := am (hbox); have n4_ := am ((by rw [hg]; exact (below_size (zB HB)) : w.heap.size ≤ gb188)); have n5_ := am ((by rw [hg]; exact (below_size (zB HB)) : w.heap.size ≤ gb188)); clear HO_5; clear HO_10; clear HB; have HO_5 := n0_; have HO_10 := n1_; have HB := n2_; have BK188 := n3_; have GW188 := n4_; have GE188 := n5_; clear n0_ n1_ n2_ n3_ n4_ n5_; clear hb hbox hg; have hcz11_0 : w10.cell? ⟨gb188, 0, none⟩ = some (.int .i64 0) := (blk_cell BK188.out 0).trans rfl; have hcz11_1 : w10.cell? ⟨gb188, 1, none⟩ = some (.int .i64 0) := (blk_cell BK188.out 1).trans rfl; have hfz11_0 := blk_frozen BK188.out 0; have hfz11_1 := blk_frozen BK188.out 1; obtain ⟨Ao12, co12, eo12⟩ := Kd.R_slice HO_5.out; subst eo12))
      (try simp only [Act.put, List.setIfInBounds_toArray, List.set_cons_zero, List.set_cons_succ])
      go_cut [38] (fun v38 wc => ∃ (kq : Nat) (x38_8 : Bool), v38 = .bool x38_8 ∧ Aside0 (extent_Gaps.j1 kq a1 x5_1 (wrap64 ((x5_1.length : Int) - 1)) x10_1 (t184.length : Int) x12_1 x38_8 ((rd_T25 x10_1 x12_1).f0) ((rd_T25 x10_1 x12_1).f1) = some r) ∧ Aside0 (kq ≤ k1) ∧ Aside0 (Kd.R k25 25 wc w.heap.size (fun k_ => some k_ ≠ ((.slice (some ad187) x10_1.length co5) : Value).ownBlock ∧ k_ ≠ gb188) (.slice Ao12 x5_1.length co12) x5_1) ∧ Aside0 (Kd.R k25 25 wc w.heap.size (fun k_ => some k_ ≠ ((.slice Ao12 x5_1.length co12) : Value).ownBlock ∧ k_ ≠ gb188) (.slice (some ad187) x10_1.length co5) x10_1) ∧ Aside0 (wc.heap[gb188]? = some (.cells #[.int .i64 ((rd_T25 x10_1 x12_1).f0), .int .i64 ((rd_T25 x10_1 x12_1).f1)] 25 (0, 0))) ∧ Aside0 (Below w.heap.size w wc))
      case first =>
       have H := HC9.out
       clear HC9
       by_cases c13 : (wrap64 ((x5_1.length : Int) - 1)) ≥ 0
       ·rw [if_pos c13] at H
        have c13b0 : decide (0 ≤ (wrap64 ((x5_1.length : Int) - 1))) = true := decide_eq_true c13
        (try (have c13g_hl10_1 := c13b0; simp only [hl10_1] at c13g_hl10_1))
        clear c13
        (first | rw [c13b0] | (simp only [i64_w, i32_w]; rw [c13b0]) | skip)
        obtain ⟨ji14, hji14⟩ : ∃ j_ : Int, (wrap64 ((x5_1.length : Int) - 1)) = j_ := ⟨_, rfl⟩
        replace H : (if 0 ≤ (ji14) then (if (ji14) < (x5_1.length : Int) then (extent_Gaps.j1 k1 a1 x5_1 ji14 x10_1 (t184.length : Int) x12_1 (decide ((wrap64 (((rd_T25 x10_1 x12_1).f0) - (wrap64 (((rd_T25 x5_1 (ji14)).f0) + ((rd_T25 x5_1 (ji14)).f1))))) ≤ a1)) ((rd_T25 x10_1 x12_1).f0) ((rd_T25 x10_1 x12_1).f1)) else (none)) else (none)) = some r := by first | (rw [hji14] at H; exact H) | (simp only [hji14] at H ⊢; exact H)
        (try rw [hji14] at c13b0)
        have hji14w : (IntKind.i64.wrap ((x5_1.length : Int) - 1)) = ji14 := (i64_w _).trans hji14
        by_cases c15 : 0 ≤ (ji14)
        ·rw [if_pos c15] at H
         have c15b0 : decide (0 ≤ (ji14)) = true := decide_eq_true c15
         clear c15
         by_cases c16 : (ji14) < (x5_1.length : Int)
         ·rw [if_pos c16] at H
          have c16b0 : decide ((ji14) < (x5_1.length : Int)) = true := decide_eq_true c16
          (try (have c16g_hl10_1 := c16b0; simp only [hl10_1] at c16g_hl10_1))
          clear c16
          have H' := am H
          clear H
          try go_wp2
          have n0_ : Aside0 (Kd.R k25 25 ((w10.setCell ⟨gb188, 0, none⟩ (.int .i64 ((rd_T25 x10_1 x12_1).f0))).setCell ⟨gb188, 1, none⟩ (.int .i64 ((rd_T25 x10_1 x12_1).f1))) w.heap.size (fun k_ => some k_ ≠ (.slice (some ad187) x10_1.length co5 : Value).ownBlock ∧ k_ ≠ gb188) (.slice Ao12 x5_1.length co12) x5_1) := ⟨by refine zR ?_; exact Kd.R_mono (Kd.R_far (p := ⟨gb188, 1, none⟩) (Kd.R_far (p := ⟨gb188, 0, none⟩) (Kd.R_mono HO_5.out (fun k_ hk => (⟨hk, hk.2⟩ : _ ∧ k_ ≠ gb188))) (fun _ hk => hk.2) (.int .i64 ((rd_T25 x10_1 x12_1).f0))) (fun _ hk => hk.2) (.int .i64 ((rd_T25 x10_1 x12_1).f1))) (fun _ hk => ⟨hk.1.1, hk.1.2⟩)⟩
          have n1_ : Aside0 (Kd.R k25 25 ((w10.setCell ⟨gb188, 0, none⟩ (.int .i64 ((rd_T25 x10_1 x12_1).f0))).setCell ⟨gb188, 1, none⟩ (.int .i64 ((rd_T25 x10_1 x12_1).f1))) w.heap.size (fun k_ => some k_ ≠ (.slice Ao12 x5_1.length co12 : Value).ownBlock ∧ k_ ≠ gb188) (.slice (some ad187) x10_1.length co5) x10_1) := ⟨by refine zR ?_; exact Kd.R_mono (Kd.R_far (p := ⟨gb188, 1, none⟩) (Kd.R_far (p := ⟨gb188, 0, none⟩) (Kd.R_mono HO_10.out (fun k_ hk => (⟨hk, hk.2⟩ : _ ∧ k_ ≠ gb188))) (fun _ hk => hk.2) (.int .i64 ((rd_T25 x10_1 x12_1).f0))) (fun _ hk => hk.2) (.int .i64 ((rd_T25 x10_1 x12_1).f1))) (fun _ hk => ⟨hk.1.1, hk.1.2⟩)⟩
          have n2_ : Aside0 (((w10.setCell ⟨gb188, 0, none⟩ (.int .i64 ((rd_T25 x10_1 x12_1).f0))).setCell ⟨gb188, 1, none⟩ (.int .i64 ((rd_T25 x10_1 x12_1).f1))).heap[gb188]? = some (.cells #[.int .i64 ((rd_T25 x10_1 x12_1).f0), .int .i64 ((rd_T25 x10_1 x12_1).f1)] 25 (0, 0))) := ⟨by refine zL ?_; refine blk_put (cs := #[.int .i64 ((rd_T25 x10_1 x12_1).f0), .int .i64 0]) ?_ 1 _ rfl; refine zL ?_; refine blk_put (cs := #[.int .i64 0, .int .i64 0]) ?_ 0 _ rfl; refine zL ?_; exact BK188.out⟩
          have n3_ : Aside0 (Below w.heap.size w ((w10.setCell ⟨gb188, 0, none⟩ (.int .i64 ((rd_T25 x10_1 x12_1).f0))).setCell ⟨gb188, 1, none⟩ (.int .i64 ((rd_T25 x10_1 x12_1).f1)))) := ⟨zG HB GE188⟩
          (try clear HO_5)
          (try clear HO_10)
          (try clear BK188)
          (try clear HB)
          generalize ((w10.setCell ⟨gb188, 0, none⟩ (.int .i64 ((rd_T25 x10_1 x12_1).f0))).setCell ⟨gb188, 1, none⟩ (.int .i64 ((rd_T25 x10_1 x12_1).f1))) = w17 at n0_ n1_ n2_ n3_ ⊢
          have HO_5 := n0_
          have HO_10 := n1_
          have BK188 := n2_
          have HB := n3_
          clear n0_ n1_ n2_ n3_
          have n0_ := am (Kd.R_drew HO_5.out)
          have n1_ := am (Kd.R_drew HO_10.out)
          have n2_ := am (blk_drew BK188.out)
          have n3_ := am (below_drew1 HB.out)
          clear HO_5
          clear HO_10
          clear BK188
          clear HB
          have HO_5 := n0_
          have HO_10 := n1_
          have BK188 := n2_
          have HB := n3_
          clear n0_ n1_ n2_ n3_
          have p189 : 0 ≤ ((ji14) : Int) := of_decide_eq_true zA
          have q189 : (ji14) < (x5_1.length : Int) := of_decide_eq_true zA
          obtain ⟨ad189, e189, hx189_0, hx189_1⟩ := at_T25 (Kd.R_reads' HO_5.out).2.2 (ji14) p189 q189
          cases e189
          replace p189 := eq_true p189
          replace q189 := eq_true q189
          have p190 : 0 ≤ ((ji14) : Int) := of_decide_eq_true zA
          have q190 : (ji14) < (x5_1.length : Int) := of_decide_eq_true zA
          obtain ⟨ad190, e190, hx190_0, hx190_1⟩ := at_T25 (Kd.R_reads' HO_5.out).2.2 (ji14) p190 q190
          obtain rfl : ad189 = ad190 := (by injection e190)
          replace p190 := eq_true p190
          replace q190 := eq_true q190
          refine start_ (n := 20) (S := fun w' => w'.cell? ⟨gb188, 0, none⟩ = some (.int .i64 ((rd_T25 x10_1 x12_1).f0)) ∧ w'.cell? ⟨gb188, 1, none⟩ = some (.int .i64 ((rd_T25 x10_1 x12_1).f1)) ∧ w'.cell? (ad189.add (((ji14)).toNat * 2)) = some (.int .i64 ((rd_T25 x5_1 (ji14)).f0)) ∧ w'.cell? ⟨(ad189.add (((ji14)).toNat * 2)).block, (ad189.add (((ji14)).toNat * 2)).off + 1, none⟩ = some (.int .i64 ((rd_T25 x5_1 (ji14)).f1)) ∧ w'.cell? (ad189.add (((ji14)).toNat * 2)) = some (.int .i64 ((rd_T25 x5_1 (ji14)).f0)) ∧ w'.cell? ⟨(ad189.add (((ji14)).toNat * 2)).block, (ad189.add (((ji14)).toNat * 2)).off + 1, none⟩ = some (.int .i64 ((rd_T25 x5_1 (ji14)).f1))) (ds := []) #[F,F,F,F,F,F,F,F,F,F,F,F,F,F,F,F,F,F,F,F] (by kernel_rfl) rfl rfl ⟨(blk_cell BK188.out 0).trans rfl, (blk_cell BK188.out 1).trans rfl, hx189_0, hx189_1, hx190_0, hx190_1⟩ (fun hHeld => ?_); refine with_tabW extent_Gaps.tab6 extent_Gaps.bits6 (fun HT_ HW_ => ?_)
          generalize w17.drew = w18 at HO_5 HO_10 BK188 HB hx189_0 hx189_1 hx190_0 hx190_1 hHeld ⊢
          refine pure_ (i := 0) (N := some 19) (v := ?_) (a' := ?_) #[T,F,F,F,F,F,F,F,F,F,F,F,F,F,F,F,F,F,F,F] rfl rfl (zO HT_) (fun _ _ _ h => h) (Or.inl ⟨by rfl, ?_⟩) ?_ ?_
          rotate_left
          ·intro w'
           go_simp
           with_reducible rfl
          rotate_left
          ·exact zP i64_w i32_w
          refine pure_ (i := 1) (N := some 20) (v := ?_) (a' := ?_) #[T,T,F,F,F,F,F,F,F,F,F,F,F,F,F,F,F,F,F,F] rfl rfl (zO HT_) (fun _ _ _ h => h) (Or.inl ⟨by rfl, ?_⟩) ?_ ?_
          rotate_left
          ·intro w'
           go_simp
           with_reducible rfl
          rotate_left
          ·exact zP i64_w i32_w
          refine pure_ (i := 2) (N := some 21) (v := ?_) (a' := ?_) #[T,T,T,F,F,F,F,F,F,F,F,F,F,F,F,F,F,F,F,F] rfl rfl (zO HT_) (fun _ _ _ h => h) (Or.inl ⟨by rfl, ?_⟩) ?_ ?_
          rotate_left
          ·intro w'
           go_simp
           with_reducible rfl
          rotate_left
          ·exact zP i64_w i32_w
          refine pure_ (i := 3) (N := some 22) (v := ?_) (a' := ?_) #[T,T,T,T,F,F,F,F,F,F,F,F,F,F,F,F,F,F,F,F] rfl rfl (zO HT_) (fun _ _ _ h => h) (Or.inl ⟨by rfl, ?_⟩) ?_ ?_
          rotate_left
          ·intro w'
           go_simp
           with_reducible rfl
          rotate_left
          ·exact zP i64_w i32_w
          refine pure_ (i := 5) (N := some 24) (v := ?_) (a' := ?_) #[T,T,T,T,F,T,F,F,F,F,F,F,F,F,F,F,F,F,F,F] rfl rfl (zO HT_) (fun _ _ _ h => h) (Or.inl ⟨by rfl, ?_⟩) ?_ ?_
          rotate_left
          ·intro w'
           go_simp
           with_reducible rfl
          rotate_left
          ·exact zP i64_w i32_w
          refine pure_ (i := 6) (N := some 25) (v := ?_) (a' := ?_) #[T,T,T,T,F,T,T,F,F,F,F,F,F,F,F,F,F,F,F,F] rfl rfl (zO HT_) (fun _ _ _ h => h) (Or.inl ⟨by rfl, ?_⟩) ?_ ?_
          rotate_left
          ·intro w'
           go_simp
           with_reducible rfl
          rotate_left
          ·exact zP i64_w i32_w
          refine pure_ (i := 7) (N := some 26) (v := ?_) (a' := ?_) #[T,T,T,T,F,T,T,T,F,F,F,F,F,F,F,F,F,F,F,F] rfl rfl (zO HT_) (fun _ _ _ h => h) (Or.inl ⟨by rfl, ?_⟩) ?_ ?_
          rotate_left
          ·intro w'
           go_simp
           with_reducible rfl
          rotate_left
          ·exact zP i64_w i32_w
          refine pure_ (i := 8) (N := some 27) (v := ?_) (a' := ?_) #[T,T,T,T,F,T,T,T,T,F,F,F,F,F,F,F,F,F,F,F] rfl rfl (zO HT_) (fun _ _ _ h => h) (Or.inl ⟨by rfl, ?_⟩) ?_ ?_
          rotate_left
          ·intro w'
           go_simp
           with_reducible rfl
          rotate_left
          ·exact zP i64_w i32_w
          refine pure_ (i := 10) (N := some 29) (v := ?_) (a' := ?_) #[T,T,T,T,F,T,T,T,T,F,T,F,F,F,F,F,F,F,F,F] rfl rfl (zO HT_) (fun _ _ _ h => h) (Or.inl ⟨by rfl, ?_⟩) ?_ ?_
          rotate_left
          ·intro w'
           go_simp
           with_reducible rfl
          rotate_left
          ·exact zP i64_w i32_w
          refine pure_ (i := 11) (N := some 30) (v := ?_) (a' := ?_) #[T,T,T,T,F,T,T,T,T,F,T,T,F,F,F,F,F,F,F,F] rfl rfl (zO HT_) (fun _ _ _ h => h) (Or.inl ⟨by rfl, ?_⟩) ?_ ?_
          rotate_left
          ·intro w'
           go_simp
           with_reducible rfl
          rotate_left
          ·exact zP i64_w i32_w
          refine pure_ (i := 12) (N := some 31) (v := ?_) (a' := ?_) #[T,T,T,T,F,T,T,T,T,F,T,T,T,F,F,F,F,F,F,F] rfl rfl (zO HT_) (fun _ _ _ h => h) (Or.inl ⟨by rfl, ?_⟩) ?_ ?_
          rotate_left
          ·intro w'
           go_simp
           with_reducible rfl
          rotate_left
          ·exact zP i64_w i32_w
          refine pure_ (i := 13) (N := some 32) (v := ?_) (a' := ?_) #[T,T,T,T,F,T,T,T,T,F,T,T,T,T,F,F,F,F,F,F] rfl rfl (zO HT_) (fun _ _ _ h => h) (Or.inl ⟨by rfl, ?_⟩) ?_ ?_
          rotate_left
          ·intro w'
           go_simp
           with_reducible rfl
          rotate_left
          ·exact zP i64_w i32_w
          refine pure_ (i := 17) (N := some 36) (v := ?_) (a' := ?_) #[T,T,T,T,F,T,T,T,T,F,T,T,T,T,F,F,F,T,F,F] rfl rfl (zO HT_) (fun _ _ _ h => h) (Or.inl ⟨by rfl, ?_⟩) ?_ ?_
          rotate_left
          ·intro w'
           go_simp
           with_reducible rfl
          rotate_left
          ·exact zP i64_w i32_w
          refine take_ (i := 4) (N := some 23) (v := ?_) (a' := ?_) #[T,T,T,T,T,T,T,T,T,F,T,T,T,T,F,F,F,T,F,F] rfl rfl (take_ofW HT_.out HW_.out (by kernel_rfl)) (fun _ _ _ h => h) (Or.inl ⟨by rfl, ?_⟩) hHeld ?_ ?_
          rotate_left
          ·rintro w' ⟨s0, s1, s2, s3, s4, s5⟩
           go_simp
           with_reducible rfl
          rotate_left
          ·exact zP i64_w i32_w
          refine take_ (i := 9) (N := some 28) (v := ?_) (a' := ?_) #[T,T,T,T,T,T,T,T,T,T,T,T,T,T,F,F,F,T,F,F] rfl rfl (take_ofW HT_.out HW_.out (by kernel_rfl)) (fun _ _ _ h => h) (Or.inl ⟨by rfl, ?_⟩) hHeld ?_ ?_
          rotate_left
          ·rintro w' ⟨s0, s1, s2, s3, s4, s5⟩
           go_simp
           with_reducible rfl
          rotate_left
          ·exact zP i64_w i32_w
          refine take_ (i := 14) (N := some 33) (v := ?_) (a' := ?_) #[T,T,T,T,T,T,T,T,T,T,T,T,T,T,T,F,F,T,F,F] rfl rfl (take_ofW HT_.out HW_.out (by kernel_rfl)) (fun _ _ _ h => h) (Or.inl ⟨by rfl, ?_⟩) hHeld ?_ ?_
          rotate_left
          ·rintro w' ⟨s0, s1, s2, s3, s4, s5⟩
           go_simp
           with_reducible rfl
          rotate_left
          ·exact zP i64_w i32_w
          refine pure_ (i := 15) (N := some 34) (v := ?_) (a' := ?_) #[T,T,T,T,T,T,T,T,T,T,T,T,T,T,T,T,F,T,F,F] rfl rfl (zO HT_) (fun _ _ _ h => h) (Or.inl ⟨by rfl, ?_⟩) ?_ ?_
          rotate_left
          ·intro w'
           go_simp
           with_reducible rfl
          rotate_left
          ·exact zP i64_w i32_w
          refine pure_ (i := 16) (N := some 35) (v := ?_) (a' := ?_) #[T,T,T,T,T,T,T,T,T,T,T,T,T,T,T,T,T,T,F,F] rfl rfl (zO HT_) (fun _ _ _ h => h) (Or.inl ⟨by rfl, ?_⟩) ?_ ?_
          rotate_left
          ·intro w'
           go_simp
           with_reducible rfl
          rotate_left
          ·exact zP i64_w i32_w
          refine pure_ (i := 18) (N := some 37) (v := ?_) (a' := ?_) #[T,T,T,T,T,T,T,T,T,T,T,T,T,T,T,T,T,T,T,F] rfl rfl (zO HT_) (fun _ _ _ h => h) (Or.inl ⟨by rfl, ?_⟩) ?_ ?_
          rotate_left
          ·intro w'
           go_simp
           with_reducible rfl
          rotate_left
          ·exact zP i64_w i32_w
          refine pure_ (i := 19) (N := some 38) (v := ?_) (a' := ?_) #[T,T,T,T,T,T,T,T,T,T,T,T,T,T,T,T,T,T,T,T] rfl rfl (zO HT_) (fun _ _ _ h => h) (Or.inl ⟨by rfl, ?_⟩) ?_ ?_
          rotate_left
          ·intro w'
           go_simp
           with_reducible rfl
          rotate_left
          ·exact zP i64_w i32_w
          refine done_ (done_of HT_.out (by kernel_rfl)) ?_
          try go_wp2
          (try simp only [show (Value.int .i64 ji14) = .int .i64 (wrap64 ((x5_1.length : Int) - 1)) from by rw [hji14]])
          go_meet
          case rel => exact ⟨k1, (decide ((wrap64 (((rd_T25 x10_1 x12_1).f0) - (wrap64 (((rd_T25 x5_1 (ji14)).f0) + ((rd_T25 x5_1 (ji14)).f1))))) ≤ a1)), (by first | rfl | (simp; done) | (simp only [← hji14] <;> (first | rfl | simp)) | (simp [*]; done)), (by first | exact H' | (rw [hji14]; exact H') | (simp only [hji14]; exact H')), ⟨by have := HK1.out; first | omega | exact Nat.le_refl _⟩, ⟨by (try simp only [hl10_1]); refine zR ?_; exact HO_5.out⟩, ⟨by (try simp only [hl10_1]); refine zR ?_; exact HO_10.out⟩, ⟨by (try simp only [hl10_1]); refine zL ?_; exact BK188.out⟩, ⟨zG HB GE188⟩⟩
         ·rw [if_neg c16] at H
          exact absurd H (by simp)
        ·rw [if_neg c15] at H
         exact absurd H (by simp)
       ·rw [if_neg c13] at H
        have c13b0 : decide (0 ≤ (wrap64 ((x5_1.length : Int) - 1))) = false := decide_eq_false c13
        (try (have c13g_hl10_1 := c13b0; simp only [hl10_1] at c13g_hl10_1))
        clear c13
        (first | rw [c13b0] | (simp only [i64_w, i32_w]; rw [c13b0]) | skip)
        have H' := am H
        clear H
        try go_wp2
        have n0_ : Aside0 (Kd.R k25 25 ((w10.setCell ⟨gb188, 0, none⟩ (.int .i64 ((rd_T25 x10_1 x12_1).f0))).setCell ⟨gb188, 1, none⟩ (.int .i64 ((rd_T25 x10_1 x12_1).f1))) w.heap.size (fun k_ => some k_ ≠ (.slice (some ad187) x10_1.length co5 : Value).ownBlock ∧ k_ ≠ gb188) (.slice Ao12 x5_1.length co12) x5_1) := ⟨by refine zR ?_; exact Kd.R_mono (Kd.R_far (p := ⟨gb188, 1, none⟩) (Kd.R_far (p := ⟨gb188, 0, none⟩) (Kd.R_mono HO_5.out (fun k_ hk => (⟨hk, hk.2⟩ : _ ∧ k_ ≠ gb188))) (fun _ hk => hk.2) (.int .i64 ((rd_T25 x10_1 x12_1).f0))) (fun _ hk => hk.2) (.int .i64 ((rd_T25 x10_1 x12_1).f1))) (fun _ hk => ⟨hk.1.1, hk.1.2⟩)⟩
        have n1_ : Aside0 (Kd.R k25 25 ((w10.setCell ⟨gb188, 0, none⟩ (.int .i64 ((rd_T25 x10_1 x12_1).f0))).setCell ⟨gb188, 1, none⟩ (.int .i64 ((rd_T25 x10_1 x12_1).f1))) w.heap.size (fun k_ => some k_ ≠ (.slice Ao12 x5_1.length co12 : Value).ownBlock ∧ k_ ≠ gb188) (.slice (some ad187) x10_1.length co5) x10_1) := ⟨by refine zR ?_; exact Kd.R_mono (Kd.R_far (p := ⟨gb188, 1, none⟩) (Kd.R_far (p := ⟨gb188, 0, none⟩) (Kd.R_mono HO_10.out (fun k_ hk => (⟨hk, hk.2⟩ : _ ∧ k_ ≠ gb188))) (fun _ hk => hk.2) (.int .i64 ((rd_T25 x10_1 x12_1).f0))) (fun _ hk => hk.2) (.int .i64 ((rd_T25 x10_1 x12_1).f1))) (fun _ hk => ⟨hk.1.1, hk.1.2⟩)⟩
        have n2_ : Aside0 (((w10.setCell ⟨gb188, 0, none⟩ (.int .i64 ((rd_T25 x10_1 x12_1).f0))).setCell ⟨gb188, 1, none⟩ (.int .i64 ((rd_T25 x10_1 x12_1).f1))).heap[gb188]? = some (.cells #[.int .i64 ((rd_T25 x10_1 x12_1).f0), .int .i64 ((rd_T25 x10_1 x12_1).f1)] 25 (0, 0))) := ⟨by refine zL ?_; refine blk_put (cs := #[.int .i64 ((rd_T25 x10_1 x12_1).f0), .int .i64 0]) ?_ 1 _ (by first | rfl | (simp only [hji14]; done) | (simp only [hji14]; rfl)); refine zL ?_; refine blk_put (cs := #[.int .i64 0, .int .i64 0]) ?_ 0 _ (by first | rfl | (simp only [hji14]; done) | (simp only [hji14]; rfl)); refine zL ?_; exact BK188.out⟩
        have n3_ : Aside0 (Below w.heap.size w ((w10.setCell ⟨gb188, 0, none⟩ (.int .i64 ((rd_T25 x10_1 x12_1).f0))).setCell ⟨gb188, 1, none⟩ (.int .i64 ((rd_T25 x10_1 x12_1).f1)))) := ⟨zG HB GE188⟩
        (try clear HO_5)
        (try clear HO_10)
        (try clear BK188)
        (try clear HB)
        generalize ((w10.setCell ⟨gb188, 0, none⟩ (.int .i64 ((rd_T25 x10_1 x12_1).f0))).setCell ⟨gb188, 1, none⟩ (.int .i64 ((rd_T25 x10_1 x12_1).f1))) = w19 at n0_ n1_ n2_ n3_ ⊢
        have HO_5 := n0_
        have HO_10 := n1_
        have BK188 := n2_
        have HB := n3_
        clear n0_ n1_ n2_ n3_
        have n0_ := am (Kd.R_drew HO_5.out)
        have n1_ := am (Kd.R_drew HO_10.out)
        have n2_ := am (blk_drew BK188.out)
        have n3_ := am (below_drew1 HB.out)
        clear HO_5
        clear HO_10
        clear BK188
        clear HB
        have HO_5 := n0_
        have HO_10 := n1_
        have BK188 := n2_
        have HB := n3_
        clear n0_ n1_ n2_ n3_
        refine start_ (n := 20) (S := fun w' => True) (ds := []) #[F,F,F,F,F,F,F,F,F,F,F,F,F,F,F,F,F,F,F,F] (by kernel_rfl) rfl rfl trivial (fun hHeld => ?_); refine with_tabW extent_Gaps.tab6 extent_Gaps.bits6 (fun HT_ HW_ => ?_)
        generalize w19.drew = w20 at HO_5 HO_10 BK188 HB hHeld ⊢
        refine pure_ (i := 0) (N := some 19) (v := ?_) (a' := ?_) #[T,F,F,F,F,F,F,F,F,F,F,F,F,F,F,F,F,F,F,F] rfl rfl (zO HT_) (fun _ _ _ h => h) (Or.inl ⟨by rfl, ?_⟩) ?_ ?_
        rotate_left
        ·intro w'
         go_simp
         with_reducible rfl
        rotate_left
        ·exact zP i64_w i32_w
        refine pure_ (i := 1) (N := some 20) (v := ?_) (a' := ?_) #[T,T,F,F,F,F,F,F,F,F,F,F,F,F,F,F,F,F,F,F] rfl rfl (zO HT_) (fun _ _ _ h => h) (Or.inl ⟨by rfl, ?_⟩) ?_ ?_
        rotate_left
        ·intro w'
         go_simp
         with_reducible rfl
        rotate_left
        ·exact zP i64_w i32_w
        refine pure_ (i := 2) (N := some 21) (v := ?_) (a' := ?_) #[T,T,T,F,F,F,F,F,F,F,F,F,F,F,F,F,F,F,F,F] rfl rfl (zO HT_) (fun _ _ _ h => h) (Or.inl ⟨by rfl, ?_⟩) ?_ ?_
        rotate_left
        ·intro w'
         go_simp
         with_reducible rfl
        rotate_left
        ·exact zP i64_w i32_w
        refine pure_ (i := 3) (N := some 22) (v := undef) (a' := ?_) #[T,T,T,T,F,F,F,F,F,F,F,F,F,F,F,F,F,F,F,F] rfl rfl (zO HT_) (fun _ _ _ h => h) (Or.inr ⟨by rfl, rfl⟩) ?_ ?_
        rotate_left
        ·exact zP i64_w i32_w
        refine pure_ (i := 4) (N := some 23) (v := undef) (a' := ?_) #[T,T,T,T,T,F,F,F,F,F,F,F,F,F,F,F,F,F,F,F] rfl rfl (zO HT_) (fun _ _ _ h => h) (Or.inr ⟨by rfl, rfl⟩) ?_ ?_
        rotate_left
        ·exact zP i64_w i32_w
        refine pure_ (i := 5) (N := some 24) (v := undef) (a' := ?_) #[T,T,T,T,T,T,F,F,F,F,F,F,F,F,F,F,F,F,F,F] rfl rfl (zO HT_) (fun _ _ _ h => h) (Or.inr ⟨by rfl, rfl⟩) ?_ ?_
        rotate_left
        ·exact zP i64_w i32_w
        refine pure_ (i := 6) (N := some 25) (v := undef) (a' := ?_) #[T,T,T,T,T,T,T,F,F,F,F,F,F,F,F,F,F,F,F,F] rfl rfl (zO HT_) (fun _ _ _ h => h) (Or.inr ⟨by rfl, rfl⟩) ?_ ?_
        rotate_left
        ·exact zP i64_w i32_w
        refine pure_ (i := 7) (N := some 26) (v := undef) (a' := ?_) #[T,T,T,T,T,T,T,T,F,F,F,F,F,F,F,F,F,F,F,F] rfl rfl (zO HT_) (fun _ _ _ h => h) (Or.inr ⟨by rfl, rfl⟩) ?_ ?_
        rotate_left
        ·exact zP i64_w i32_w
        refine pure_ (i := 8) (N := some 27) (v := undef) (a' := ?_) #[T,T,T,T,T,T,T,T,T,F,F,F,F,F,F,F,F,F,F,F] rfl rfl (zO HT_) (fun _ _ _ h => h) (Or.inr ⟨by rfl, rfl⟩) ?_ ?_
        rotate_left
        ·exact zP i64_w i32_w
        refine pure_ (i := 9) (N := some 28) (v := undef) (a' := ?_) #[T,T,T,T,T,T,T,T,T,T,F,F,F,F,F,F,F,F,F,F] rfl rfl (zO HT_) (fun _ _ _ h => h) (Or.inr ⟨by rfl, rfl⟩) ?_ ?_
        rotate_left
        ·exact zP i64_w i32_w
        refine pure_ (i := 10) (N := some 29) (v := undef) (a' := ?_) #[T,T,T,T,T,T,T,T,T,T,T,F,F,F,F,F,F,F,F,F] rfl rfl (zO HT_) (fun _ _ _ h => h) (Or.inr ⟨by rfl, rfl⟩) ?_ ?_
        rotate_left
        ·exact zP i64_w i32_w
        refine pure_ (i := 11) (N := some 30) (v := undef) (a' := ?_) #[T,T,T,T,T,T,T,T,T,T,T,T,F,F,F,F,F,F,F,F] rfl rfl (zO HT_) (fun _ _ _ h => h) (Or.inr ⟨by rfl, rfl⟩) ?_ ?_
        rotate_left
        ·exact zP i64_w i32_w
        refine pure_ (i := 12) (N := some 31) (v := undef) (a' := ?_) #[T,T,T,T,T,T,T,T,T,T,T,T,T,F,F,F,F,F,F,F] rfl rfl (zO HT_) (fun _ _ _ h => h) (Or.inr ⟨by rfl, rfl⟩) ?_ ?_
        rotate_left
        ·exact zP i64_w i32_w
        refine pure_ (i := 13) (N := some 32) (v := undef) (a' := ?_) #[T,T,T,T,T,T,T,T,T,T,T,T,T,T,F,F,F,F,F,F] rfl rfl (zO HT_) (fun _ _ _ h => h) (Or.inr ⟨by rfl, rfl⟩) ?_ ?_
        rotate_left
        ·exact zP i64_w i32_w
        refine pure_ (i := 14) (N := some 33) (v := undef) (a' := ?_) #[T,T,T,T,T,T,T,T,T,T,T,T,T,T,T,F,F,F,F,F] rfl rfl (zO HT_) (fun _ _ _ h => h) (Or.inr ⟨by rfl, rfl⟩) ?_ ?_
        rotate_left
        ·exact zP i64_w i32_w
        refine pure_ (i := 15) (N := some 34) (v := undef) (a' := ?_) #[T,T,T,T,T,T,T,T,T,T,T,T,T,T,T,T,F,F,F,F] rfl rfl (zO HT_) (fun _ _ _ h => h) (Or.inr ⟨by rfl, rfl⟩) ?_ ?_
        rotate_left
        ·exact zP i64_w i32_w
        refine pure_ (i := 16) (N := some 35) (v := undef) (a' := ?_) #[T,T,T,T,T,T,T,T,T,T,T,T,T,T,T,T,T,F,F,F] rfl rfl (zO HT_) (fun _ _ _ h => h) (Or.inr ⟨by rfl, rfl⟩) ?_ ?_
        rotate_left
        ·exact zP i64_w i32_w
        refine pure_ (i := 17) (N := some 36) (v := undef) (a' := ?_) #[T,T,T,T,T,T,T,T,T,T,T,T,T,T,T,T,T,T,F,F] rfl rfl (zO HT_) (fun _ _ _ h => h) (Or.inr ⟨by rfl, rfl⟩) ?_ ?_
        rotate_left
        ·exact zP i64_w i32_w
        refine pure_ (i := 18) (N := some 37) (v := undef) (a' := ?_) #[T,T,T,T,T,T,T,T,T,T,T,T,T,T,T,T,T,T,T,F] rfl rfl (zO HT_) (fun _ _ _ h => h) (Or.inr ⟨by rfl, rfl⟩) ?_ ?_
        rotate_left
        ·exact zP i64_w i32_w
        refine pure_ (i := 19) (N := some 38) (v := ?_) (a' := ?_) #[T,T,T,T,T,T,T,T,T,T,T,T,T,T,T,T,T,T,T,T] rfl rfl (zO HT_) (fun _ _ _ h => h) (Or.inl ⟨by rfl, ?_⟩) ?_ ?_
        rotate_left
        ·intro w'
         go_simp
         with_reducible rfl
        rotate_left
        ·exact zP i64_w i32_w
        refine done_ (done_of HT_.out (by kernel_rfl)) ?_
        try go_wp2
        go_meet
        case rel => exact ⟨_, (false), zS, H', ⟨by have := HK1.out; first | omega | exact Nat.le_refl _⟩, ⟨by (try simp only [hl10_1]); refine zR ?_; exact HO_5.out⟩, ⟨by (try simp only [hl10_1]); refine zR ?_; exact HO_10.out⟩, ⟨by (try simp only [hl10_1]); refine zL ?_; exact BK188.out⟩, ⟨zG HB GE188⟩⟩
      case rest =>
       clear HC9
       try clear c1
       try clear p1
       try clear q1
       try clear hx1
       try clear c2
       try clear p2
       try clear c4
       try clear c6
       try clear c6b0
       try clear p6
       try clear c7
       try clear c7b0
       try clear c8
       try clear c8b0
       try clear c13
       try clear c13b0
       try clear c15
       try clear c15b0
       try clear c16
       try clear c16b0
       try clear p18
       try clear q18
       try clear hx18
       try clear p19
       try clear q19
       try clear hx19
       try clear hcz11_0
       try clear hcz11_1
       try clear hfz11_0
       try clear hfz11_1
       try clear hx187_0
       try clear hx187_1
       try clear hx189_0
       try clear hx189_1
       try clear hx190_0
       try clear hx190_1
       try clear p187
       try clear p189
       try clear p190
       try clear p2
       try clear q187
       try clear q189
       try clear q190
       obtain ⟨kq, x38_8, rfl, HA, HJ8, HO_5, HO_10, BK188, HB⟩ := hcut
       cases kq with
       | zero => exact absurd HA.out (by simp [extent_Gaps.j1])
       | succ kj8 =>
        have H := HA.out
        clear HA
        simp only [extent_Gaps.j1] at H
        by_cases c21 : x38_8 = true
        ·subst c21
         have H1 : (if 0 ≤ (wrap64 ((x5_1.length : Int) - 1)) then (if (wrap64 ((x5_1.length : Int) - 1)) < (x5_1.length : Int) then (extent_Gaps.l0 kj8 a1 (x5_1.set ((wrap64 ((x5_1.length : Int) - 1)) : Int).toNat (⟨(rd_T25 x5_1 (wrap64 ((x5_1.length : Int) - 1))).f0, wrap64 ((wrap64 (((rd_T25 x10_1 x12_1).f0) + ((rd_T25 x10_1 x12_1).f1))) - ((rd_T25 x5_1 (wrap64 ((x5_1.length : Int) - 1))).f0))⟩ : S25)) x10_1 (t184.length : Int) (wrap64 (x12_1 + 1))) else (none)) else (none)) = some r := by rw [if_pos rfl] at H; exact H
         clear H
         have H := H1
         clear H1
         obtain ⟨ji22, hji22⟩ : ∃ j_ : Int, (wrap64 ((x5_1.length : Int) - 1)) = j_ := ⟨_, rfl⟩
         replace H : (if 0 ≤ (ji22) then (if (ji22) < (x5_1.length : Int) then (extent_Gaps.l0 kj8 a1 (x5_1.set ((ji22) : Int).toNat (⟨(rd_T25 x5_1 (ji22)).f0, wrap64 ((wrap64 (((rd_T25 x10_1 x12_1).f0) + ((rd_T25 x10_1 x12_1).f1))) - ((rd_T25 x5_1 (ji22)).f0))⟩ : S25)) x10_1 (t184.length : Int) (wrap64 (x12_1 + 1))) else (none)) else (none)) = some r := by first | (rw [hji22] at H; exact H) | (simp only [hji22] at H ⊢; exact H)
         have hji22w : (IntKind.i64.wrap ((x5_1.length : Int) - 1)) = ji22 := (i64_w _).trans hji22
         by_cases c23 : 0 ≤ (ji22)
         ·rw [if_pos c23] at H
          have c23b0 : decide (0 ≤ (ji22)) = true := decide_eq_true c23
          clear c23
          by_cases c24 : (ji22) < (x5_1.length : Int)
          ·rw [if_pos c24] at H
           have c24b0 : decide ((ji22) < (x5_1.length : Int)) = true := decide_eq_true c24
           (try (have c24g_hl10_1 := c24b0; simp only [hl10_1] at c24g_hl10_1))
           clear c24
           obtain ⟨y192, hy192⟩ : ∃ y_ : List (S25), y_ = (x5_1.set ((ji22) : Int).toNat (⟨(rd_T25 x5_1 (ji22)).f0, wrap64 ((wrap64 (((rd_T25 x10_1 x12_1).f0) + ((rd_T25 x10_1 x12_1).f1))) - ((rd_T25 x5_1 (ji22)).f0))⟩ : S25)) := ⟨_, rfl⟩
           replace H : (extent_Gaps.l0 kj8 a1 y192 x10_1 (t184.length : Int) (wrap64 (x12_1 + 1))) = some r := by first | (rw [hy192]; with_reducible exact H) | (have H2_ := (Option.bind_some _ _).symm.trans H; rw [hy192]; with_reducible exact H2_) | (have H2_ := (Option.bind_some _ _).symm.trans H; with_reducible exact H2_) | with_reducible exact H | (rw [hy192]; exact H) | exact H
           have Ny192 := am hy192
           clear hy192
           have H' := am H
           clear H
           try go_wp2
           have n0_ := am (Kd.R_drew HO_5.out)
           have n1_ := am (Kd.R_drew HO_10.out)
           have n2_ := am (blk_drew BK188.out)
           have n3_ := am (below_drew1 HB.out)
           clear HO_5
           clear HO_10
           clear BK188
           clear HB
           have HO_5 := n0_
           have HO_10 := n1_
           have BK188 := n2_
           have HB := n3_
           clear n0_ n1_ n2_ n3_
           have p191 : 0 ≤ ((ji22) : Int) := of_decide_eq_true zA
           have q191 : (ji22) < (x5_1.length : Int) := of_decide_eq_true zA
           obtain ⟨ad191, e191, hx191_0, hx191_1⟩ := at_T25 (Kd.R_reads' HO_5.out).2.2 (ji22) p191 q191
           cases e191
           replace p191 := eq_true p191
           replace q191 := eq_true q191
           have p25 : 0 ≤ ((ji22) : Int) := of_decide_eq_true zA
           have q25 : ((ji22) : Int) < ((x5_1.length : Int) : Int) := of_decide_eq_true zA
           obtain ⟨go25, co25, eo25, gb25, gl25, cl25, HG25⟩ := Kd.R_form HO_5.out (by omega)
           (first | cases eo25 | (injection eo25 with ea_ en_ ec_; (first | subst ea_ | (injection ea_ with ea_; subst ea_)); subst ec_; clear en_))
           have GB25 := am gb25
           have GG25 := am HG25
           clear gb25 gl25 HG25
           (first | simp only [add_plain] at hx191_0 | skip)
           (first | simp only [add_plain] at hx191_1 | skip)
           obtain ⟨ce25, hcl25, hM25, hcc25, hfr25⟩ := Kd.R_elem HO_5.out z25 ((ji22) : Int) p25 q25
           obtain rfl := k25_openM hM25
           have hx25_0 : World.cell? _ ⟨go25, ((ji22) : Int).toNat * 2, none⟩ = some (.int .i64 ((rd_T25 x5_1 (ji22)).f0)) := hcc25 0 _ rfl
           have hx25_1 : World.cell? _ ⟨go25, ((ji22) : Int).toNat * 2 + 1, none⟩ = some (.int .i64 ((rd_T25 x5_1 (ji22)).f1)) := hcc25 1 _ rfl
           have hf25_0 : World.frozen? _ ⟨go25, ((ji22) : Int).toNat * 2, none⟩ = false := hfr25 0
           have hf25_1 : World.frozen? _ ⟨go25, ((ji22) : Int).toNat * 2 + 1, none⟩ = false := hfr25 1
           clear hcl25 hcc25 hfr25 hM25
           replace p25 := eq_true p25
           replace q25 := eq_true q25
           obtain ⟨ce27, hcl27, hM27, hcc27, hfr27⟩ := Kd.R_elem HO_5.out z25 ((ji22) : Int) (of_decide_eq_true zA) (by have h_ : ((ji22) : Int) < ((x5_1.length : Int) : Int) := of_decide_eq_true zA; first | exact h_ | (have e_ := (Kd.R_reads' HO_5.out).1; omega) | simpa using h_)
           obtain rfl := k25_openM hM27
           have HP27 := (Kd.R_seg HO_5.out ((ji22) : Int) (of_decide_eq_true zA) (by have h_ : ((ji22) : Int) < ((x5_1.length : Int) : Int) := of_decide_eq_true zA; first | exact h_ | (have e_ := (Kd.R_reads' HO_5.out).1; omega) | simpa using h_) (seg := [.int .i64 (wrap64 ((wrap64 (((rd_T25 x10_1 x12_1).f0) + ((rd_T25 x10_1 x12_1).f1))) - ((rd_T25 x5_1 (ji22)).f0)))]) (j := 1) hcl27 hcc27 (show 2 ≤ 2 from by decide) (x' := (⟨(rd_T25 x5_1 (ji22)).f0, wrap64 ((wrap64 (((rd_T25 x10_1 x12_1).f0) + ((rd_T25 x10_1 x12_1).f1))) - ((rd_T25 x5_1 (ji22)).f0))⟩ : S25)) (k25_mkM _ _ _ (⟨(rd_T25 x5_1 (ji22)).f0, wrap64 ((wrap64 (((rd_T25 x10_1 x12_1).f0) + ((rd_T25 x10_1 x12_1).f1))) - ((rd_T25 x5_1 (ji22)).f0))⟩ : S25) ) (fun _ hk => hk)).1
           rw [← Ny192.out] at HP27
           have HQ27 := am HP27
           clear hcl27 hcc27 hfr27 hM27 HP27
           refine start_ (n := 16) (S := fun w' => w'.cell? ⟨gb188, 0, none⟩ = some (.int .i64 ((rd_T25 x10_1 x12_1).f0)) ∧ w'.cell? ⟨gb188, 1, none⟩ = some (.int .i64 ((rd_T25 x10_1 x12_1).f1)) ∧ w'.cell? ⟨go25, (((ji22)).toNat * 2), none⟩ = some (.int .i64 ((rd_T25 x5_1 (ji22)).f0)) ∧ w'.cell? ⟨go25, (((ji22)).toNat * 2) + 1, none⟩ = some (.int .i64 ((rd_T25 x5_1 (ji22)).f1))) (ds := [15]) #[F,F,F,F,F,F,F,F,F,F,F,F,F,F,F,F] (by kernel_rfl) rfl rfl ⟨(blk_cell BK188.out 0).trans rfl, (blk_cell BK188.out 1).trans rfl, hx191_0, hx191_1⟩ (fun hHeld => ?_); refine with_tabW extent_Gaps.tab7 extent_Gaps.bits7 (fun HT_ HW_ => ?_)
           generalize wc.drew = w26 at HO_5 HO_10 BK188 HB GG25 HQ27 hf25_0 hf25_1 hx191_0 hx191_1 hx25_0 hx25_1 hHeld ⊢
           refine pure_ (i := 0) (N := some 39) (v := ?_) (a' := ?_) #[T,F,F,F,F,F,F,F,F,F,F,F,F,F,F,F] rfl rfl (zO HT_) (fun _ _ _ h => h) (Or.inl ⟨by rfl, ?_⟩) ?_ ?_
           rotate_left
           ·intro w'
            go_simp
            with_reducible rfl
           rotate_left
           ·exact zP i64_w i32_w
           refine pure_ (i := 1) (N := some 40) (v := ?_) (a' := ?_) #[T,T,F,F,F,F,F,F,F,F,F,F,F,F,F,F] rfl rfl (zO HT_) (fun _ _ _ h => h) (Or.inl ⟨by rfl, ?_⟩) ?_ ?_
           rotate_left
           ·intro w'
            go_simp
            with_reducible rfl
           rotate_left
           ·exact zP i64_w i32_w
           refine pure_ (i := 2) (N := some 41) (v := ?_) (a' := ?_) #[T,T,T,F,F,F,F,F,F,F,F,F,F,F,F,F] rfl rfl (zO HT_) (fun _ _ _ h => h) (Or.inl ⟨by rfl, ?_⟩) ?_ ?_
           rotate_left
           ·intro w'
            go_simp
            with_reducible rfl
           rotate_left
           ·exact zP i64_w i32_w
           refine pure_ (i := 4) (N := some 43) (v := ?_) (a' := ?_) #[T,T,T,F,T,F,F,F,F,F,F,F,F,F,F,F] rfl rfl (zO HT_) (fun _ _ _ h => h) (Or.inl ⟨by rfl, ?_⟩) ?_ ?_
           rotate_left
           ·intro w'
            go_simp
            with_reducible rfl
           rotate_left
           ·exact zP i64_w i32_w
           refine pure_ (i := 7) (N := some 46) (v := ?_) (a' := ?_) #[T,T,T,F,T,F,F,T,F,F,F,F,F,F,F,F] rfl rfl (zO HT_) (fun _ _ _ h => h) (Or.inl ⟨by rfl, ?_⟩) ?_ ?_
           rotate_left
           ·intro w'
            go_simp
            with_reducible rfl
           rotate_left
           ·exact zP i64_w i32_w
           refine pure_ (i := 8) (N := some 47) (v := ?_) (a' := ?_) #[T,T,T,F,T,F,F,T,T,F,F,F,F,F,F,F] rfl rfl (zO HT_) (fun _ _ _ h => h) (Or.inl ⟨by rfl, ?_⟩) ?_ ?_
           rotate_left
           ·intro w'
            go_simp
            with_reducible rfl
           rotate_left
           ·exact zP i64_w i32_w
           refine pure_ (i := 9) (N := some 48) (v := ?_) (a' := ?_) #[T,T,T,F,T,F,F,T,T,T,F,F,F,F,F,F] rfl rfl (zO HT_) (fun _ _ _ h => h) (Or.inl ⟨by rfl, ?_⟩) ?_ ?_
           rotate_left
           ·intro w'
            go_simp
            with_reducible rfl
           rotate_left
           ·exact zP i64_w i32_w
           refine pure_ (i := 10) (N := some 49) (v := ?_) (a' := ?_) #[T,T,T,F,T,F,F,T,T,T,T,F,F,F,F,F] rfl rfl (zO HT_) (fun _ _ _ h => h) (Or.inl ⟨by rfl, ?_⟩) ?_ ?_
           rotate_left
           ·intro w'
            go_simp
            with_reducible rfl
           rotate_left
           ·exact zP i64_w i32_w
           refine take_ (i := 3) (N := some 42) (v := ?_) (a' := ?_) #[T,T,T,T,T,F,F,T,T,T,T,F,F,F,F,F] rfl rfl (take_ofW HT_.out HW_.out (by kernel_rfl)) (fun _ _ _ h => h) (Or.inl ⟨by rfl, ?_⟩) hHeld ?_ ?_
           rotate_left
           ·rintro w' ⟨s0, s1, s2, s3⟩
            go_simp
            with_reducible rfl
           rotate_left
           ·exact zP i64_w i32_w
           refine take_ (i := 5) (N := some 44) (v := ?_) (a' := ?_) #[T,T,T,T,T,T,F,T,T,T,T,F,F,F,F,F] rfl rfl (take_ofW HT_.out HW_.out (by kernel_rfl)) (fun _ _ _ h => h) (Or.inl ⟨by rfl, ?_⟩) hHeld ?_ ?_
           rotate_left
           ·rintro w' ⟨s0, s1, s2, s3⟩
            go_simp
            with_reducible rfl
           rotate_left
           ·exact zP i64_w i32_w
           refine pure_ (i := 6) (N := some 45) (v := ?_) (a' := ?_) #[T,T,T,T,T,T,T,T,T,T,T,F,F,F,F,F] rfl rfl (zO HT_) (fun _ _ _ h => h) (Or.inl ⟨by rfl, ?_⟩) ?_ ?_
           rotate_left
           ·intro w'
            go_simp
            with_reducible rfl
           rotate_left
           ·exact zP i64_w i32_w
           refine take_ (i := 11) (N := some 50) (v := ?_) (a' := ?_) #[T,T,T,T,T,T,T,T,T,T,T,T,F,F,F,F] rfl rfl (take_ofW HT_.out HW_.out (by kernel_rfl)) (fun _ _ _ h => h) (Or.inl ⟨by rfl, ?_⟩) hHeld ?_ ?_
           rotate_left
           ·rintro w' ⟨s0, s1, s2, s3⟩
            go_simp
            with_reducible rfl
           rotate_left
           ·exact zP i64_w i32_w
           refine pure_ (i := 12) (N := some 51) (v := ?_) (a' := ?_) #[T,T,T,T,T,T,T,T,T,T,T,T,T,F,F,F] rfl rfl (zO HT_) (fun _ _ _ h => h) (Or.inl ⟨by rfl, ?_⟩) ?_ ?_
           rotate_left
           ·intro w'
            go_simp
            with_reducible rfl
           rotate_left
           ·exact zP i64_w i32_w
           refine pure_ (i := 13) (N := some 52) (v := ?_) (a' := ?_) #[T,T,T,T,T,T,T,T,T,T,T,T,T,T,F,F] rfl rfl (zO HT_) (fun _ _ _ h => h) (Or.inl ⟨by rfl, ?_⟩) ?_ ?_
           rotate_left
           ·intro w'
            go_simp
            with_reducible rfl
           rotate_left
           ·exact zP i64_w i32_w
           refine pure_ (i := 14) (N := some 53) (v := ?_) (a' := ?_) #[T,T,T,T,T,T,T,T,T,T,T,T,T,T,T,F] rfl rfl (zO HT_) (fun _ _ _ h => h) (Or.inl ⟨by rfl, ?_⟩) ?_ ?_
           rotate_left
           ·intro w'
            go_simp
            with_reducible rfl
           rotate_left
           ·exact zP i64_w i32_w
           refine last_ (i := 15) (N := none) #[T,T,T,T,T,T,T,T,T,T,T,T,T,T,T,T] rfl rfl (one_of HT_.out (by kernel_rfl)) (by decide) (fun K hK => ?_)
           refine skip_ (w1 := ?_) (by rfl) rfl ?_ ?_
           rotate_left
           ·go_simp
            rfl
           refine hK.out _ _ ?_
           clear hK K
           refine done_ (done_of HT_.out (by kernel_rfl)) ?_
           try go_wp2
           (try simp only [← hl10_1])
           go_roundg kj8
           case measure => have := HK1.out; have := HJ8.out; omega
           case rel => exact ⟨(y192), (x10_1), (wrap64 (x12_1 + 1)), zS, H', ⟨by have := HK1.out; have := HJ8.out; omega⟩, ⟨by (try simp only [hl10_1]); refine zR ?_; exact Kd.R_mono HQ27.out (fun _ hk => hk.1)⟩, ⟨by (try simp only [hl10_1]); refine zR ?_; exact Kd.R_mono (Kd.R_far (p := ⟨go25, ((ji22) : Int).toNat * 2 + 1, none⟩) (Kd.R_mono HO_10.out (fun k_ hk => (⟨hk, fun e_ => hk.1 (by rw [e_]; rfl)⟩ : _ ∧ k_ ≠ go25))) (fun _ hk => hk.2) (.int .i64 (wrap64 ((wrap64 (((rd_T25 x10_1 x12_1).f0) + ((rd_T25 x10_1 x12_1).f1))) - ((rd_T25 x5_1 (ji22)).f0))))) (fun _ hk => hk.1.1)⟩, ⟨by repeat (first | (with_reducible first | exact HB.out | apply below_alloc | apply pw_below_drewN | apply below_drew1 | refine below_set ?_ GB25.out | refine below_set ?_ GE188.out) | exact HB.out)⟩⟩
          ·rw [if_neg c24] at H
           exact absurd H (by simp)
         ·rw [if_neg c23] at H
          exact absurd H (by simp)
        ·replace c21 := Bool.eq_false_iff.mpr c21
         subst c21
         have H1 : (if x5_1.length < 8796093022208 then (extent_Gaps.l0 kj8 a1 (x5_1 ++ [(⟨((rd_T25 x10_1 x12_1).f0), ((rd_T25 x10_1 x12_1).f1)⟩ : S25)]) x10_1 (t184.length : Int) (wrap64 (x12_1 + 1))) else (none)) = some r := by rw [if_neg (show ¬ (false = true) by decide)] at H; exact H
         clear H
         have H := H1
         clear H1
         by_cases c28 : x5_1.length < 8796093022208
         ·rw [if_pos c28] at H
          have LMc28 := am c28
          clear c28
          obtain ⟨y193, hy193⟩ : ∃ y_ : List (S25), y_ = (x5_1 ++ [(⟨((rd_T25 x10_1 x12_1).f0), ((rd_T25 x10_1 x12_1).f1)⟩ : S25)]) := ⟨_, rfl⟩
          replace H : (extent_Gaps.l0 kj8 a1 y193 x10_1 (t184.length : Int) (wrap64 (x12_1 + 1))) = some r := by first | (rw [hy193]; with_reducible exact H) | (have H2_ := (Option.bind_some _ _).symm.trans H; rw [hy193]; with_reducible exact H2_) | (have H2_ := (Option.bind_some _ _).symm.trans H; with_reducible exact H2_) | with_reducible exact H | (rw [hy193]; exact H) | exact H
          have Ny193 := am hy193
          clear hy193
          have H' := am H
          clear H
          have hcz29_0 : wc.cell? ⟨gb188, 0, none⟩ = some (.int .i64 ((rd_T25 x10_1 x12_1).f0)) := (blk_cell BK188.out 0).trans rfl
          have hcz29_1 : wc.cell? ⟨gb188, 1, none⟩ = some (.int .i64 ((rd_T25 x10_1 x12_1).f1)) := (blk_cell BK188.out 1).trans rfl
          have hfz29_0 := blk_frozen BK188.out 0
          have hfz29_1 := blk_frozen BK188.out 1
          go_wp2_with (first | ((with_reducible refine gate_builtin (b := .append) (xs := #[.tmp 54, .tmp 56]) rfl ?_); at_builtin; refine Kd.R_append k25 (w0 := w) w.heap.size rfl (.tmp 54) (.tmp 56) 38 25 (.agg #[(.int .i64 0), (.int .i64 0)]) 16 rfl Try.underlying38 info25 rfl (by decide) (by omega) (.slice Ao12 x5_1.length co12) x5_1 (⟨((rd_T25 x10_1 x12_1).f0), ((rd_T25 x10_1 x12_1).f1)⟩ : S25) [.int .i64 ((rd_T25 x10_1 x12_1).f0), .int .i64 ((rd_T25 x10_1 x12_1).f1)] (fun k_ => some k_ ≠ (.slice (some ad187) x10_1.length co5 : Value).ownBlock ∧ k_ ≠ gb188) (fun _ => False) rfl rfl ?aP (fun _ hk => hk.elim) ?aF ?aO ?aB ?aS ?aL ?_; (case aP => exact k25_mkM _ _ _ (⟨((rd_T25 x10_1 x12_1).f0), ((rd_T25 x10_1 x12_1).f1)⟩ : S25)); (case aB => exact (zG HB GE188)); (case aF => exact (fun k_ hk => ⟨Kd.fresh' (Kd.R_lt (zR HO_10.out)) k_ hk, Kd.freshB (g := gb188) (o := .cells #[.int .i64 ((rd_T25 x10_1 x12_1).f0), .int .i64 ((rd_T25 x10_1 x12_1).f1)] 25 (0, 0)) (zL BK188.out) k_ hk⟩)); (case aO => exact (zR HO_5.out)); (case aS => exact (below_size (zG HB GE188))); (case aL => have := LMc28.out; omega); intro v194 w30 ho hb hg hat; rw [← Ny193.out] at ho; have n0_ := am (Kd.R_after (ok := (fun k_ => k_ ≠ gb188)) (by refine zR ?_; exact Kd.R_mono HO_10.out (fun _ hk => ⟨hk.2, hk.1⟩)) hg hat); have n1_ := am (blk_grown (g := gb188) (o := .cells #[.int .i64 ((rd_T25 x10_1 x12_1).f0), .int .i64 ((rd_T25 x10_1 x12_1).f1)] 25 (0, 0)) (zL BK188.out) hg (Kd.R_away HO_5.out (fun _ hk => hk.2))); have n2_ := am (hb); have n3_ := am (ho); clear HO_10; clear BK188; clear HB; clear HO_5; have HO_10 := n0_; have BK188 := n1_; have HB := n2_; have HO195 := n3_; clear n0_ n1_ n2_ n3_; clear ho hb hg hat))
          (try simp only [← hl10_1])
          go_roundg kj8
          case measure => have := HK1.out; have := HJ8.out; omega
          case rel => exact ⟨(y193), (x10_1), (wrap64 (x12_1 + 1)), zS, H', ⟨by have := HK1.out; have := HJ8.out; omega⟩, ⟨by (try simp only [hl10_1]); refine zR ?_; exact Kd.R_mono HO195.out (fun _ hk => hk.1)⟩, ⟨by (try simp only [hl10_1]); refine zR ?_; exact Kd.R_mono HO_10.out (fun _ hk => hk.2)⟩, ⟨zG HB GE188⟩⟩
         ·rw [if_neg c28] at H
          exact absurd H (by simp)
     ·rw [if_neg c8] at H
      exact absurd H (by simp)
    ·rw [if_neg c7] at H
     exact absurd H (by simp)
   ·rw [if_neg c6] at H
    have c6b0 : decide (x12_1 < (t184.length : Int)) = false := decide_eq_false c6
    (try (have c6g_hl10_1 := c6b0; simp only [hl10_1] at c6g_hl10_1))
    clear c6
    obtain rfl := Option.some.inj H
    go_wp2
    go_ret
    exact ⟨_, by first | rfl | (simp [errW_none, errW_some] <;> rfl) | (simp [*, errW_none, errW_some] <;> rfl), by refine zR ?_; exact Kd.R_mono HO_5.out (fun _ hk => trivial), by repeat (first | (with_reducible first | exact HB.out | apply below_alloc | apply pw_below_drewN | apply below_drew1) | exact HB.out)⟩

end
end Go.Proofs.Ytapbmkcncjkanaa.P
