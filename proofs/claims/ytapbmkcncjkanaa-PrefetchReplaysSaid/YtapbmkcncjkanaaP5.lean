-- Written by this session's wip/tools/px.py out of the translation. Lean checks it.
import Derived.Test.YtapbmkcncjkanaaP0
import Derived.Test.YtapbmkcncjkanaaP4
import Derived.Test.YtapbmkcncjkanaaExtS
namespace Go.Proofs.Ytapbmkcncjkanaa.P
noncomputable section
open Go.RowKit Go.Proofs.YtapbmkcncjkanaaW.PrintWords Go.Proofs.YtapbmkcncjkanaaW.PrintLast Go.Proofs.YtapbmkcncjkanaaW.PrintMore
attribute [local go_sem] max2_int min2_int max_two min_two max_three min_three max_four min_four   -- for this text's walks alone
set_option linter.unusedVariables false
set_option linter.unusedSimpArgs false

theorem ent_54 : ∀ (args : Array Value) (W : World), (callFunc 54 args).run Try.prog W = .ok (.enter 54 args) W := Go.Proofs.enters_of Try.func54 (by kernel_rfl) rfl
/-! ### extent_edges: function 51 -/
mutual
def extent_edges.l0 : Nat → List (S71) → List (List (S25)) → Int → Int → Option ((List (S71)))
 | 0, _, _, _, _ => none
 | k + 1, x3, x8, x9, x10 => if x10 < x9 then (if 0 ≤ x10 then (if x10 < (x8.length : Int) then (extent_edges.l1 k x3 x10 x8 x9 x10 (rd_L4 x8 x10) ((rd_L4 x8 x10).length : Int) 0) else (none)) else (none)) else ((slices_SortFunc.f x3 extent_edges_1.f).bind fun t138 => (some t138))
def extent_edges.l1 : Nat → List (S71) → Int → List (List (S25)) → Int → Int → List (S25) → Int → Int → Option ((List (S71)))
 | 0, _, _, _, _, _, _, _, _ => none
 | k + 1, x3, x4, x8, x9, x10, x15, x16, x17 => if x17 < x16 then (if 0 ≤ x17 then (if x17 < (x15.length : Int) then ((extent_sound.f ((rd_T25 x15 x17).f0) ((rd_T25 x15 x17).f1)).bind fun t142 => (if t142 = true then ((some (([(⟨(rd_T25 x15 x17).f0, x4, 1⟩ : S71), (⟨wrap64 (((rd_T25 x15 x17).f0) + ((rd_T25 x15 x17).f1)), x4, (-1)⟩ : S71)] : List (S71)) : List (S71))).bind fun y143 => (if x3.length + y143.length < 5864062014805 then (extent_edges.l1 k (x3 ++ y143) x4 x8 x9 x10 x15 x16 (wrap64 (x17 + 1))) else (none))) else (extent_edges.l1 k x3 x4 x8 x9 x10 x15 x16 (wrap64 (x17 + 1))))) else (none)) else (none)) else (extent_edges.l0 k x3 x8 x9 (wrap64 (x10 + 1)))
end
def extent_edges.f (k : Nat) (l0 : List (List (S25))) : Option ((List (S71))) := extent_edges.l0 k ([] : List (S71)) l0 (l0.length : Int) 0
theorem extent_edges.mono_l : ∀ k, (∀ y0 y1 y2 y3, LeO (extent_edges.l0 k y0 y1 y2 y3) (extent_edges.l0 (k + 1) y0 y1 y2 y3)) ∧ (∀ y0 y1 y2 y3 y4 y5 y6 y7, LeO (extent_edges.l1 k y0 y1 y2 y3 y4 y5 y6 y7) (extent_edges.l1 (k + 1) y0 y1 y2 y3 y4 y5 y6 y7))
 | 0 => ⟨fun _ _ _ _ r h => by simp [extent_edges.l0] at h, fun _ _ _ _ _ _ _ _ r h => by simp [extent_edges.l1] at h⟩
 | k + 1 => by
  obtain ⟨ih0, ih1⟩ := extent_edges.mono_l k
  refine ⟨?_, ?_⟩
  ·intro y0 y1 y2 y3
   unfold extent_edges.l0
   repeat' first
   | (with_reducible exact ih0 _ _ _ _)
   | (with_reducible exact ih1 _ _ _ _ _ _ _ _)
   | (with_reducible exact LeO.refl _)
   | (with_reducible exact LeO.none _)
   | (with_reducible refine LeO.ite ?_ ?_)
   | (with_reducible refine LeO.bind ?_ (fun _ => ?_))
   | exact ih0 _ _ _ _
   | exact ih1 _ _ _ _ _ _ _ _
   | exact LeO.none _
   | refine LeO.ite ?_ ?_
   | refine LeO.bind ?_ (fun _ => ?_)
  ·intro y0 y1 y2 y3 y4 y5 y6 y7
   unfold extent_edges.l1
   repeat' first
   | (with_reducible exact ih0 _ _ _ _)
   | (with_reducible exact ih1 _ _ _ _ _ _ _ _)
   | (with_reducible exact LeO.refl _)
   | (with_reducible exact LeO.none _)
   | (with_reducible refine LeO.ite ?_ ?_)
   | (with_reducible refine LeO.bind ?_ (fun _ => ?_))
   | exact ih0 _ _ _ _
   | exact ih1 _ _ _ _ _ _ _ _
   | exact LeO.none _
   | refine LeO.ite ?_ ?_
   | refine LeO.bind ?_ (fun _ => ?_)
theorem extent_edges.mono : ∀ a0 k, LeO (extent_edges.f k a0) (extent_edges.f (k + 1) a0) := by
 intro a0 k
 obtain ⟨ih0, ih1⟩ := extent_edges.mono_l k
 unfold extent_edges.f
 repeat' first
   | (with_reducible exact ih0 _ _ _ _)
   | (with_reducible exact ih1 _ _ _ _ _ _ _ _)
   | (with_reducible exact LeO.refl _)
   | (with_reducible exact LeO.none _)
   | (with_reducible refine LeO.ite ?_ ?_)
   | (with_reducible refine LeO.bind ?_ (fun _ => ?_))
   | exact ih0 _ _ _ _
   | exact ih1 _ _ _ _ _ _ _ _
   | exact LeO.none _
   | refine LeO.ite ?_ ?_
   | refine LeO.bind ?_ (fun _ => ?_)
set_option maxHeartbeats 8000000 in
set_option maxRecDepth 100000 in
theorem extent_edges.calls (k : Nat) (A0 : Option Addr) (c0 : Nat) (l0 : List (List (S25))) (r : List (S71)) (w : World) (hr0 : Kd.C (Kd.slice 25 k25) w A0 l0.length l0) (hc0 : l0.length ≤ c0) (h : extent_edges.f k l0 = some r) :
  Calls Try.prog 51 #[.slice A0 l0.length c0] w fun e w' => ∃ v0_ : Value, e = .returned (v0_) ∧ Kd.R k71 71 w' w.heap.size (fun _ => True) v0_ r ∧ Below w.heap.size w w' := by
 have hu25 := Try.underlying25
 have hu71 := Try.underlying71
 have HR0 := am hr0
 have HC0 := am hc0
 clear hr0 hc0
 have HB := am (Below.refl w.heap.size w)
 have H : (extent_edges.l0 k ([] : List (S71)) l0 (l0.length : Int) 0) = some r := h
 clear h
 have H' := am H
 clear H
 go_enter Try.func51, Try.ntmps51
 go_wp2
 go_loopg [3, 10] k (fun kq v3 v10 w' => ∃ (x3_1 : List (S71)) (x10_1 : Int), v10 = .int .i64 x10_1 ∧ Aside0 (extent_edges.l0 kq x3_1 l0 (l0.length : Int) x10_1 = some r) ∧ Aside0 (kq ≤ k) ∧ Aside0 (Kd.R k71 71 w' w.heap.size (fun _ => True) v3 x3_1) ∧ Aside0 (Below w.heap.size w w'))
 case atStart => exact ⟨(([] : List (S71))), (0), zS, H', ⟨Nat.le_refl _⟩, ⟨by first | exact Kd.R_nil _ _ _ _ _ | exact Kd.N_nil _ _ _ _ _ | exact Kd.V_nil _ _ _ _ _ | exact Kd.Q_nil _ _ _ _ _ | exact Kd.S_nil _ _ _ _ _⟩, ⟨zB HB⟩⟩
 case round =>
  clear H'
  obtain ⟨x3_1, x10_1, rfl, HA, HK1, HO_3, HB⟩ := hrel
  cases gk with
  | zero => exact absurd HA.out (by simp [extent_edges.l0])
  | succ k1 =>
   have H := HA.out
   clear HA
   simp only [extent_edges.l0] at H
   by_cases c2 : x10_1 < (l0.length : Int)
   ·rw [if_pos c2] at H
    have c2b0 : decide (x10_1 < (l0.length : Int)) = true := decide_eq_true c2
    clear c2
    by_cases c3 : 0 ≤ x10_1
    ·rw [if_pos c3] at H
     have c3b0 : decide (0 ≤ x10_1) = true := decide_eq_true c3
     clear c3
     by_cases c4 : x10_1 < (l0.length : Int)
     ·rw [if_pos c4] at H
      have c4b0 : decide (x10_1 < (l0.length : Int)) = true := decide_eq_true c4
      clear c4
      have H' := am H
      clear H
      have p139 : 0 ≤ (x10_1 : Int) := of_decide_eq_true zA
      have q139 : x10_1 < (l0.length : Int) := of_decide_eq_true zA
      obtain ⟨ad139, A139_0, c139_0, e139, hx139_0, hl139_0, hi139_0⟩ := at_L4 HR0.out x10_1 p139 q139
      cases e139
      replace hx139_0 := (HB.out.cell (World.block_lt_of_cell? w _ hx139_0)).trans hx139_0
      have HR139_0 := am hi139_0
      have HC139_0 := am hl139_0
      clear hi139_0 hl139_0
      replace p139 := eq_true p139
      replace q139 := eq_true q139
      go_wp2
      go_loopg [3, 17] k1 (fun kq v3 v17 w' => ∃ (x3_2 : List (S71)) (x17_2 : Int), v17 = .int .i64 x17_2 ∧ Aside0 (extent_edges.l1 kq x3_2 x10_1 l0 (l0.length : Int) x10_1 (rd_L4 l0 x10_1) ((rd_L4 l0 x10_1).length : Int) x17_2 = some r) ∧ Aside0 (kq ≤ k1) ∧ Aside0 (Kd.R k71 71 w' w.heap.size (fun _ => True) v3 x3_2) ∧ Aside0 (Below w.heap.size w w'))
      case atStart => exact ⟨(x3_1), (0), zS, H', ⟨Nat.le_refl _⟩, ⟨zR HO_3.out⟩, ⟨zB HB⟩⟩
      case round =>
       clear H'
       try clear c1
       try clear p1
       try clear q1
       try clear hx1
       try clear c2
       try clear c2b0
       try clear p2
       try clear c3
       try clear c3b0
       try clear c4
       try clear c4b0
       try clear hx139_0
       try clear p139
       try clear q139
       obtain ⟨x3_2, x17_2, rfl, HA, HK2, HO_3, HB⟩ := hrel
       cases gk with
       | zero => exact absurd HA.out (by simp [extent_edges.l1])
       | succ k2 =>
        have H := HA.out
        clear HA
        simp only [extent_edges.l1] at H
        by_cases c5 : x17_2 < ((rd_L4 l0 x10_1).length : Int)
        ·rw [if_pos c5] at H
         have c5b0 : decide (x17_2 < ((rd_L4 l0 x10_1).length : Int)) = true := decide_eq_true c5
         clear c5
         by_cases c6 : 0 ≤ x17_2
         ·rw [if_pos c6] at H
          have c6b0 : decide (0 ≤ x17_2) = true := decide_eq_true c6
          clear c6
          by_cases c7 : x17_2 < ((rd_L4 l0 x10_1).length : Int)
          ·rw [if_pos c7] at H
           have c7b0 : decide (x17_2 < ((rd_L4 l0 x10_1).length : Int)) = true := decide_eq_true c7
           clear c7
           replace H := Option.bind_eq_some_iff.mp H
           obtain ⟨t142, A80, H⟩ := H
           replace H : (if t142 = true then ((some (([(⟨(rd_T25 (rd_L4 l0 x10_1) x17_2).f0, x10_1, 1⟩ : S71), (⟨wrap64 (((rd_T25 (rd_L4 l0 x10_1) x17_2).f0) + ((rd_T25 (rd_L4 l0 x10_1) x17_2).f1)), x10_1, (-1)⟩ : S71)] : List (S71)) : List (S71))).bind fun y143 => (if x3_2.length + y143.length < 5864062014805 then (extent_edges.l1 k2 (x3_2 ++ y143) x10_1 l0 (l0.length : Int) x10_1 (rd_L4 l0 x10_1) ((rd_L4 l0 x10_1).length : Int) (wrap64 (x17_2 + 1))) else (none))) else (extent_edges.l1 k2 x3_2 x10_1 l0 (l0.length : Int) x10_1 (rd_L4 l0 x10_1) ((rd_L4 l0 x10_1).length : Int) (wrap64 (x17_2 + 1)))) = some r := H
           have A8 := am A80
           clear A80
           by_cases c9 : t142 = true
           ·subst c9
            have H1 : ((some (([(⟨(rd_T25 (rd_L4 l0 x10_1) x17_2).f0, x10_1, 1⟩ : S71), (⟨wrap64 (((rd_T25 (rd_L4 l0 x10_1) x17_2).f0) + ((rd_T25 (rd_L4 l0 x10_1) x17_2).f1)), x10_1, (-1)⟩ : S71)] : List (S71)) : List (S71))).bind fun y143 => (if x3_2.length + y143.length < 5864062014805 then (extent_edges.l1 k2 (x3_2 ++ y143) x10_1 l0 (l0.length : Int) x10_1 (rd_L4 l0 x10_1) ((rd_L4 l0 x10_1).length : Int) (wrap64 (x17_2 + 1))) else (none))) = some r := by rw [if_pos rfl] at H; exact H
            clear H
            have H := H1
            clear H1
            obtain ⟨y143, hy143⟩ : ∃ y_ : List (S71), y_ = (([(⟨(rd_T25 (rd_L4 l0 x10_1) x17_2).f0, x10_1, 1⟩ : S71), (⟨wrap64 (((rd_T25 (rd_L4 l0 x10_1) x17_2).f0) + ((rd_T25 (rd_L4 l0 x10_1) x17_2).f1)), x10_1, (-1)⟩ : S71)] : List (S71))) := ⟨_, rfl⟩
            replace H : (if x3_2.length + y143.length < 5864062014805 then (extent_edges.l1 k2 (x3_2 ++ y143) x10_1 l0 (l0.length : Int) x10_1 (rd_L4 l0 x10_1) ((rd_L4 l0 x10_1).length : Int) (wrap64 (x17_2 + 1))) else (none)) = some r := by first | (rw [hy143]; with_reducible exact H) | (have H2_ := (Option.bind_some _ _).symm.trans H; rw [hy143]; with_reducible exact H2_) | (have H2_ := (Option.bind_some _ _).symm.trans H; with_reducible exact H2_) | with_reducible exact H | (rw [hy143]; exact H) | exact H
            have Ny143 := am hy143
            clear hy143
            by_cases c10 : x3_2.length + y143.length < 5864062014805
            ·rw [if_pos c10] at H
             have LMc10 := am c10
             clear c10
             obtain ⟨y146, hy146⟩ : ∃ y_ : List (S71), y_ = (x3_2 ++ y143) := ⟨_, rfl⟩
             replace H : (extent_edges.l1 k2 y146 x10_1 l0 (l0.length : Int) x10_1 (rd_L4 l0 x10_1) ((rd_L4 l0 x10_1).length : Int) (wrap64 (x17_2 + 1))) = some r := by first | (rw [hy146]; with_reducible exact H) | (have H2_ := (Option.bind_some _ _).symm.trans H; rw [hy146]; with_reducible exact H2_) | (have H2_ := (Option.bind_some _ _).symm.trans H; with_reducible exact H2_) | with_reducible exact H | (rw [hy146]; exact H) | exact H
             have Ny146 := am hy146
             clear hy146
             have H' := am H
             clear H
             have p140 : 0 ≤ (x17_2 : Int) := of_decide_eq_true zA
             have q140 : x17_2 < ((rd_L4 l0 x10_1).length : Int) := of_decide_eq_true zA
             obtain ⟨ad140, e140, hx140_0, hx140_1⟩ := at_T25 HR139_0.out x17_2 p140 q140
             cases e140
             replace hx140_0 := (HB.out.cell (World.block_lt_of_cell? w _ hx140_0)).trans hx140_0
             replace hx140_1 := (HB.out.cell (World.block_lt_of_cell? w _ hx140_1)).trans hx140_1
             replace p140 := eq_true p140
             replace q140 := eq_true q140
             go_wp2_with (first | ((with_reducible refine gate_dst (N := 7) rfl ?_); refine box_event ?hg (N := 7) ?hd (cs := #[.int .i64 0, .int .i64 0]) (t := 25) ?hr ?_; (case hd => rfl); (case hg => rfl); (case hr => first | (go_simp; done) | (go_simp; rfl)); intro gb141 hg w11 hbox hb; have n0_ := am (Kd.R_below (zR HO_3.out) hb); have n1_ := am (below_step (zB HB) hb); have n2_ := am (hbox); have n3_ := am ((by rw [hg]; exact (below_size (zB HB)) : w.heap.size ≤ gb141)); have n4_ := am ((by rw [hg]; exact (below_size (zB HB)) : w.heap.size ≤ gb141)); clear HO_3; clear HB; have HO_3 := n0_; have HB := n1_; have BK141 := n2_; have GW141 := n3_; have GE141 := n4_; clear n0_ n1_ n2_ n3_ n4_; clear hb hbox hg; have hcz12_0 : w11.cell? ⟨gb141, 0, none⟩ = some (.int .i64 0) := (blk_cell BK141.out 0).trans rfl; have hcz12_1 : w11.cell? ⟨gb141, 1, none⟩ = some (.int .i64 0) := (blk_cell BK141.out 1).trans rfl; have hfz12_0 := blk_frozen BK141.out 0; have hfz12_1 := blk_frozen BK141.out 1) | ((with_reducible refine gate_callee (f := 52) rfl ?_); refine goesL_ (some 22) rfl rfl Try.func52 (by kernel_rfl) rfl #[.agg #[.int .i64 ((rd_T25 (rd_L4 l0 x10_1) x17_2).f0), .int .i64 ((rd_T25 (rd_L4 l0 x10_1) x17_2).f1)]] rfl zM ?_; (with_reducible refine (extent_sound.calls ((rd_T25 (rd_L4 l0 x10_1) x17_2).f0) ((rd_T25 (rd_L4 l0 x10_1) x17_2).f1) true _ A8.out).mono ?_); rintro e w13 ⟨rfl, hb⟩; refine ⟨_, rfl, ?_⟩; have n0_ := am (Kd.R_below (by refine zR ?_; exact (Kd.R_mono (Kd.R_far (p := ⟨gb141, 1, none⟩) (Kd.R_far (p := ⟨gb141, 0, none⟩) (Kd.R_types HO_3.out BK141.out (by decide)) (fun _ hk => hk.2) (.int .i64 ((rd_T25 (rd_L4 l0 x10_1) x17_2).f0))) (fun _ hk => hk.2) (.int .i64 ((rd_T25 (rd_L4 l0 x10_1) x17_2).f1))) (fun _ h_ => h_.1))) hb); have n1_ := am (blk_below (g := gb141) (o := .cells #[.int .i64 ((rd_T25 (rd_L4 l0 x10_1) x17_2).f0), .int .i64 ((rd_T25 (rd_L4 l0 x10_1) x17_2).f1)] 25 (0, 0)) (by refine zL ?_; refine blk_put (cs := #[.int .i64 ((rd_T25 (rd_L4 l0 x10_1) x17_2).f0), .int .i64 0]) ?_ 1 _ rfl; refine zL ?_; refine blk_put (cs := #[.int .i64 0, .int .i64 0]) ?_ 0 _ rfl; refine zL ?_; exact BK141.out) hb); have n2_ := am (below_step (zG HB GE141) hb); clear HO_3; clear BK141; clear HB; have HO_3 := n0_; have BK141 := n1_; have HB := n2_; clear n0_ n1_ n2_; (try clear hb); (try clear hb2); (try clear hk); (try clear hi); have hcz14_0 : w13.cell? ⟨gb141, 0, none⟩ = some (.int .i64 ((rd_T25 (rd_L4 l0 x10_1) x17_2).f0)) := (blk_cell BK141.out 0).trans rfl; have hcz14_1 : w13.cell? ⟨gb141, 1, none⟩ = some (.int .i64 ((rd_T25 (rd_L4 l0 x10_1) x17_2).f1)) := (blk_cell BK141.out 1).trans rfl; have hfz14_0 := blk_frozen BK141.out 0; have hfz14_1 := blk_frozen BK141.out 1) | ((with_reducible refine gate_dst (N := 35) rfl ?_); refine Kd.R_lit k71 _ 71 ?hg (N := 35) ?hd (xs := ([(⟨(rd_T25 (rd_L4 l0 x10_1) x17_2).f0, x10_1, 1⟩ : S71), (⟨wrap64 (((rd_T25 (rd_L4 l0 x10_1) x17_2).f0) + ((rd_T25 (rd_L4 l0 x10_1) x17_2).f1)), x10_1, (-1)⟩ : S71)] : List (S71))) (inner := [.int .i64 ((rd_T25 (rd_L4 l0 x10_1) x17_2).f0), .int .i64 x10_1, .int .i64 1, .int .i64 (wrap64 (((rd_T25 (rd_L4 l0 x10_1) x17_2).f0) + ((rd_T25 (rd_L4 l0 x10_1) x17_2).f1))), .int .i64 x10_1, .int .i64 (-1)]) (ok := fun _ => True) (okp := fun _ => True) ?hr ?hp (fun _ hk => hk) trivial (Below.refl _ _) (Nat.le_refl _) (by simp) ?_; (case hd => rfl); (case hg => rfl); (case hr => first | (go_simp; done) | (go_simp; rfl)); (case hp => exact (Reps.c3 (show Kd.M k71 _ _ _ (⟨(rd_T25 (rd_L4 l0 x10_1) x17_2).f0, x10_1, 1⟩ : S71) [.int .i64 ((rd_T25 (rd_L4 l0 x10_1) x17_2).f0), .int .i64 x10_1, .int .i64 1] from (k71_mkM _ _ _ (⟨(rd_T25 (rd_L4 l0 x10_1) x17_2).f0, x10_1, 1⟩ : S71) )) (Reps.c3 (show Kd.M k71 _ _ _ (⟨wrap64 (((rd_T25 (rd_L4 l0 x10_1) x17_2).f0) + ((rd_T25 (rd_L4 l0 x10_1) x17_2).f1)), x10_1, (-1)⟩ : S71) [.int .i64 (wrap64 (((rd_T25 (rd_L4 l0 x10_1) x17_2).f0) + ((rd_T25 (rd_L4 l0 x10_1) x17_2).f1))), .int .i64 x10_1, .int .i64 (-1)] from (k71_mkM _ _ _ (⟨wrap64 (((rd_T25 (rd_L4 l0 x10_1) x17_2).f0) + ((rd_T25 (rd_L4 l0 x10_1) x17_2).f1)), x10_1, (-1)⟩ : S71) )) (Reps.none _ _)))); intro v144 w15 ho16 hb hg_ hnew_; clear hg_ hnew_; (first | rw [← Ny143.out] at ho16 | (simp only [Int.reduceToNat] at ho16; rw [← Ny143.out] at ho16)); have n0_ := am (Kd.R_elder' (zR HO_3.out) (Kd.R_base ho16) hb); have n1_ := am (Kd.R_lower (Kd.R_new' ho16 (Kd.R_lt (zR HO_3.out))) (below_size (zG HB GE141))); have n2_ := am (blk_below (g := gb141) (o := .cells #[.int .i64 ((rd_T25 (rd_L4 l0 x10_1) x17_2).f0), .int .i64 ((rd_T25 (rd_L4 l0 x10_1) x17_2).f1)] 25 (0, 0)) (zL BK141.out) hb); have n3_ := am (below_step (zG HB GE141) hb); clear HO_3; clear BK141; clear HB; have HO_3 := n0_; have HO145 := n1_; have BK141 := n2_; have HB := n3_; clear n0_ n1_ n2_ n3_; clear hb ho16; obtain ⟨Ao18, co18, eo18⟩ := Kd.R_slice HO145.out; subst eo18) | ((with_reducible refine gate_builtin (b := .append) (xs := #[.tmp 23, .tmp 35]) rfl ?_); at_builtin; refine Kd.R_append_rows k71 (w0 := w) w.heap.size rfl (.tmp 23) (.tmp 35) 68 71 (.agg #[(.int .i64 0), (.int .i64 0), (.int .i64 0)]) 24 rfl Try.underlying68 info71 rfl (by decide) (by omega) u3 x3_2 y143 _ _ _ (fun k_ => some k_ ≠ (.slice Ao18 y143.length co18 : Value).ownBlock) (fun _ => False) rfl rfl ?aO ?aR (fun _ _ h => h) (fun _ h => h.elim) ?aF ?aB ?aS ?aL ?_; (case aR => exact zC (Kd.R_reads' HO145.out).2.2); (case aB => exact (zG HB GE141)); (case aF => exact (fun k_ hk => Kd.fresh' (Kd.R_lt (zR HO145.out)) k_ hk)); (case aO => exact (by refine zR ?_; exact Kd.R_mono HO_3.out (fun _ hk => hk.2))); (case aS => exact (below_size (zG HB GE141))); (case aL => have := LMc10.out; omega); intro v147 w17 ho hb hg hat; rw [← Ny146.out] at ho; have n0_ := am (blk_grown (g := gb141) (o := .cells #[.int .i64 ((rd_T25 (rd_L4 l0 x10_1) x17_2).f0), .int .i64 ((rd_T25 (rd_L4 l0 x10_1) x17_2).f1)] 25 (0, 0)) (zL BK141.out) hg (Kd.R_ne HO_3.out BK141.out (by decide))); have n1_ := am (Kd.R_after (ok := (fun _ => True)) (zR HO145.out) hg hat); have n2_ := am (hb); have n3_ := am (ho); clear BK141; clear HO145; clear HB; clear HO_3; have BK141 := n0_; have HO145 := n1_; have HB := n2_; have HO148 := n3_; clear n0_ n1_ n2_ n3_; clear ho hb hg hat))
             go_roundg k2
             case measure => have := HK1.out; have := HK2.out; omega
             case rel => exact ⟨(y146), (wrap64 (x17_2 + 1)), zS, H', ⟨by have := HK1.out; have := HK2.out; omega⟩, ⟨by refine zR ?_; exact Kd.R_mono HO148.out (fun _ hk => trivial)⟩, ⟨zG HB GE141⟩⟩
            ·rw [if_neg c10] at H
             exact absurd H (by simp)
           ·replace c9 := Bool.eq_false_iff.mpr c9
            subst c9
            have H1 : (extent_edges.l1 k2 x3_2 x10_1 l0 (l0.length : Int) x10_1 (rd_L4 l0 x10_1) ((rd_L4 l0 x10_1).length : Int) (wrap64 (x17_2 + 1))) = some r := by rw [if_neg (show ¬ (false = true) by decide)] at H; exact H
            clear H
            have H := H1
            clear H1
            have H' := am H
            clear H
            have p140 : 0 ≤ (x17_2 : Int) := of_decide_eq_true zA
            have q140 : x17_2 < ((rd_L4 l0 x10_1).length : Int) := of_decide_eq_true zA
            obtain ⟨ad140, e140, hx140_0, hx140_1⟩ := at_T25 HR139_0.out x17_2 p140 q140
            cases e140
            replace hx140_0 := (HB.out.cell (World.block_lt_of_cell? w _ hx140_0)).trans hx140_0
            replace hx140_1 := (HB.out.cell (World.block_lt_of_cell? w _ hx140_1)).trans hx140_1
            replace p140 := eq_true p140
            replace q140 := eq_true q140
            go_wp2_with (first | ((with_reducible refine gate_dst (N := 7) rfl ?_); refine box_event ?hg (N := 7) ?hd (cs := #[.int .i64 0, .int .i64 0]) (t := 25) ?hr ?_; (case hd => rfl); (case hg => rfl); (case hr => first | (go_simp; done) | (go_simp; rfl)); intro gb141 hg w19 hbox hb; have n0_ := am (Kd.R_below (zR HO_3.out) hb); have n1_ := am (below_step (zB HB) hb); have n2_ := am (hbox); have n3_ := am ((by rw [hg]; exact (below_size (zB HB)) : w.heap.size ≤ gb141)); have n4_ := am ((by rw [hg]; exact (below_size (zB HB)) : w.heap.size ≤ gb141)); clear HO_3; clear HB; have HO_3 := n0_; have HB := n1_; have BK141 := n2_; have GW141 := n3_; have GE141 := n4_; clear n0_ n1_ n2_ n3_ n4_; clear hb hbox hg; have hcz20_0 : w19.cell? ⟨gb141, 0, none⟩ = some (.int .i64 0) := (blk_cell BK141.out 0).trans rfl; have hcz20_1 : w19.cell? ⟨gb141, 1, none⟩ = some (.int .i64 0) := (blk_cell BK141.out 1).trans rfl; have hfz20_0 := blk_frozen BK141.out 0; have hfz20_1 := blk_frozen BK141.out 1) | ((with_reducible refine gate_callee (f := 52) rfl ?_); refine goesL_ (some 22) rfl rfl Try.func52 (by kernel_rfl) rfl #[.agg #[.int .i64 ((rd_T25 (rd_L4 l0 x10_1) x17_2).f0), .int .i64 ((rd_T25 (rd_L4 l0 x10_1) x17_2).f1)]] rfl zM ?_; (with_reducible refine (extent_sound.calls ((rd_T25 (rd_L4 l0 x10_1) x17_2).f0) ((rd_T25 (rd_L4 l0 x10_1) x17_2).f1) false _ A8.out).mono ?_); rintro e w21 ⟨rfl, hb⟩; refine ⟨_, rfl, ?_⟩; have n0_ := am (Kd.R_below (by refine zR ?_; exact (Kd.R_mono (Kd.R_far (p := ⟨gb141, 1, none⟩) (Kd.R_far (p := ⟨gb141, 0, none⟩) (Kd.R_types HO_3.out BK141.out (by decide)) (fun _ hk => hk.2) (.int .i64 ((rd_T25 (rd_L4 l0 x10_1) x17_2).f0))) (fun _ hk => hk.2) (.int .i64 ((rd_T25 (rd_L4 l0 x10_1) x17_2).f1))) (fun _ h_ => h_.1))) hb); have n1_ := am (blk_below (g := gb141) (o := .cells #[.int .i64 ((rd_T25 (rd_L4 l0 x10_1) x17_2).f0), .int .i64 ((rd_T25 (rd_L4 l0 x10_1) x17_2).f1)] 25 (0, 0)) (by refine zL ?_; refine blk_put (cs := #[.int .i64 ((rd_T25 (rd_L4 l0 x10_1) x17_2).f0), .int .i64 0]) ?_ 1 _ rfl; refine zL ?_; refine blk_put (cs := #[.int .i64 0, .int .i64 0]) ?_ 0 _ rfl; refine zL ?_; exact BK141.out) hb); have n2_ := am (below_step (zG HB GE141) hb); clear HO_3; clear BK141; clear HB; have HO_3 := n0_; have BK141 := n1_; have HB := n2_; clear n0_ n1_ n2_; (try clear hb); (try clear hb2); (try clear hk); (try clear hi)))
            go_roundg k2
            case measure => have := HK1.out; have := HK2.out; omega
            case rel => exact ⟨(x3_2), (wrap64 (x17_2 + 1)), zS, H', ⟨by have := HK1.out; have := HK2.out; omega⟩, ⟨zR HO_3.out⟩, ⟨zG HB GE141⟩⟩
          ·rw [if_neg c7] at H
           exact absurd H (by simp)
         ·rw [if_neg c6] at H
          exact absurd H (by simp)
        ·rw [if_neg c5] at H
         have c5b0 : decide (x17_2 < ((rd_L4 l0 x10_1).length : Int)) = false := decide_eq_false c5
         clear c5
         have H' := am H
         clear H
         go_wp2
         go_roundg k2
         case measure => have := HK1.out; have := HK2.out; omega
         case rel => exact ⟨(x3_2), (wrap64 (x10_1 + 1)), zS, H', ⟨by have := HK1.out; have := HK2.out; omega⟩, ⟨zR HO_3.out⟩, ⟨zB HB⟩⟩
     ·rw [if_neg c4] at H
      exact absurd H (by simp)
    ·rw [if_neg c3] at H
     exact absurd H (by simp)
   ·rw [if_neg c2] at H
    have c2b0 : decide (x10_1 < (l0.length : Int)) = false := decide_eq_false c2
    clear c2
    replace H := Option.bind_eq_some_iff.mp H
    obtain ⟨t138, A220, H⟩ := H
    replace H : (some t138) = some r := H
    have A22 := am A220
    clear A220
    obtain rfl := Option.some.inj H
    obtain ⟨Ao23, co23, eo23⟩ := Kd.R_slice HO_3.out
    subst eo23
    go_wp2_with (first | ((with_reducible refine gate_callee (f := 53) rfl ?_); refine goesL_ (some 40) rfl rfl Try.func53 (by kernel_rfl) rfl #[.slice Ao23 x3_1.length co23, .func (.func 54) #[] #[]] rfl zM ?_; (with_reducible refine (slices_SortFunc.calls (fun k_ => some k_ = (.slice Ao23 x3_1.length co23 : Value).ownBlock) (.slice Ao23 x3_1.length co23) x3_1 extent_edges_1.f 54 #[] ent_54 t138 w _ ?side1 ?side2 ?side3 A22.out).mono ?_); (case side1 => exact zB HB); (case side2 => exact Kd.R_tight rfl HO_3.out); (case side3 => exact ⟨rfl, rfl, rfl⟩); rintro e w24 ⟨rfl, hy0, hb, hkp⟩; refine ⟨_, rfl, ?_⟩; have n0_ := am (Kd.R_reok rfl hy0 (fun k_ e_ => HO_3.out.1 k_ e_)); have n1_ := am (hb); clear HO_3; clear HB; have HO_3 := n0_; have HB := n1_; clear n0_ n1_; (try clear hb); (try clear hkp); (try clear hy0)))
    go_ret
    exact ⟨_, by first | rfl | (simp [errW_none, errW_some] <;> rfl) | (simp [*, errW_none, errW_some] <;> rfl), by refine zR ?_; exact HO_3.out, by repeat (first | (with_reducible first | exact HB.out | apply below_alloc | apply pw_below_drewN | apply below_drew1) | exact HB.out)⟩

end
end Go.Proofs.Ytapbmkcncjkanaa.P
