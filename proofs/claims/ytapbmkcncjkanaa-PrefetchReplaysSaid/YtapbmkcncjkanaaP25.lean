-- Written by this session's wip/tools/px.py out of the translation. Lean checks it.
import Derived.Test.YtapbmkcncjkanaaP0
import Derived.Test.YtapbmkcncjkanaaP22
namespace Go.Proofs.Ytapbmkcncjkanaa.P
noncomputable section
open Go.RowKit Go.Proofs.YtapbmkcncjkanaaW.PrintWords Go.Proofs.YtapbmkcncjkanaaW.PrintLast Go.Proofs.YtapbmkcncjkanaaW.PrintMore
attribute [local go_sem] max2_int min2_int max_two min_two max_three min_three max_four min_four   -- for this text's walks alone
set_option linter.unusedVariables false
set_option linter.unusedSimpArgs false

/-! ### r34_Covers: function 22 -/
def r34_Covers.f (k : Nat) (l0 : List (S25)) (a1_0 : Int) (a1_1 : Int) : Option (Bool) := (r34_Subtract.f k (([(⟨a1_0, a1_1⟩ : S25)] : List (S25))) l0).bind fun t533 => (some ((t533.length : Int) == 0))
theorem r34_Covers.mono : ∀ a0 a1 a2 k, LeO (r34_Covers.f k a0 a1 a2) (r34_Covers.f (k + 1) a0 a1 a2) := by
 intro a0 a1 a2 k
 unfold r34_Covers.f
 repeat' first
   | (with_reducible exact r34_Subtract.mono _ _ _)
   | (with_reducible exact LeO.refl _)
   | (with_reducible exact LeO.none _)
   | (with_reducible refine LeO.ite ?_ ?_)
   | (with_reducible refine LeO.bind ?_ (fun _ => ?_))
   | exact r34_Subtract.mono _ _ _
   | exact LeO.none _
   | refine LeO.ite ?_ ?_
   | refine LeO.bind ?_ (fun _ => ?_)
set_option maxHeartbeats 8000000 in
set_option maxRecDepth 100000 in
theorem r34_Covers.calls (k : Nat) (A0 : Option Addr) (c0 : Nat) (l0 : List (S25)) (a1_0 : Int) (a1_1 : Int) (r : Bool) (w : World) (hr0 : Kd.C k25 w A0 l0.length l0) (hc0 : l0.length ≤ c0) (h : r34_Covers.f k l0 a1_0 a1_1 = some r) :
  Calls Try.prog 22 #[.slice A0 l0.length c0, .agg #[.int .i64 a1_0, .int .i64 a1_1]] w fun e w' => e = .returned (.bool r) ∧ Below w.heap.size w w' := by
 have hu25 := Try.underlying25
 have HR0 := am hr0
 have HC0 := am hc0
 clear hr0 hc0
 have HB := am (Below.refl w.heap.size w)
 have H : ((r34_Subtract.f k (([(⟨a1_0, a1_1⟩ : S25)] : List (S25))) l0).bind fun t533 => (some ((t533.length : Int) == 0))) = some r := h
 clear h
 obtain ⟨y530, hy530⟩ : ∃ y_ : List (S25), y_ = (([(⟨a1_0, a1_1⟩ : S25)] : List (S25))) := ⟨_, rfl⟩
 replace H : ((r34_Subtract.f k y530 l0).bind fun t533 => (some ((t533.length : Int) == 0))) = some r := by first | (rw [hy530]; with_reducible exact H) | (have H2_ := (Option.bind_some _ _).symm.trans H; rw [hy530]; with_reducible exact H2_) | (have H2_ := (Option.bind_some _ _).symm.trans H; with_reducible exact H2_) | with_reducible exact H | (rw [hy530]; exact H) | exact H
 have Ny530 := am hy530
 clear hy530
 replace H := Option.bind_eq_some_iff.mp H
 obtain ⟨t533, A30, H⟩ := H
 replace H : (some ((t533.length : Int) == 0)) = some r := H
 have A3 := am A30
 clear A30
 obtain rfl := Option.some.inj H
 go_enter Try.func22, Try.ntmps22
 go_wp2_with (first | ((with_reducible refine gate_dst (N := 3) rfl ?_); refine box_event ?hg (N := 3) ?hd (cs := #[.int .i64 a1_0, .int .i64 a1_1]) (t := 25) ?hr ?_; (case hd => rfl); (case hg => rfl); (case hr => first | (go_simp; done) | (go_simp; rfl)); intro gb529 hg w4 hbox hb; have n0_ := am (below_step (zB HB) hb); have n1_ := am (hbox); have n2_ := am ((by rw [hg]; exact (below_size (zB HB)) : w.heap.size ≤ gb529)); have n3_ := am ((by rw [hg]; exact (below_size (zB HB)) : w.heap.size ≤ gb529)); clear HB; have HB := n0_; have BK529 := n1_; have GW529 := n2_; have GE529 := n3_; clear n0_ n1_ n2_ n3_; clear hb hbox hg; have hcz5_0 : w4.cell? ⟨gb529, 0, none⟩ = some (.int .i64 a1_0) := (blk_cell BK529.out 0).trans rfl; have hcz5_1 : w4.cell? ⟨gb529, 1, none⟩ = some (.int .i64 a1_1) := (blk_cell BK529.out 1).trans rfl; have hfz5_0 := blk_frozen BK529.out 0; have hfz5_1 := blk_frozen BK529.out 1) | ((with_reducible refine gate_dst (N := 6) rfl ?_); refine Kd.R_lit k25 _ 25 ?hg (N := 6) ?hd (xs := ([(⟨a1_0, a1_1⟩ : S25)] : List (S25))) (inner := [.int .i64 a1_0, .int .i64 a1_1]) (ok := fun _ => True) (okp := fun _ => True) ?hr ?hp (fun _ hk => hk) trivial (Below.refl _ _) (Nat.le_refl _) (by simp) ?_; (case hd => rfl); (case hg => rfl); (case hr => first | (go_simp; done) | (go_simp; rfl)); (case hp => exact (Reps.c2 (show Kd.M k25 _ _ _ (⟨a1_0, a1_1⟩ : S25) [.int .i64 a1_0, .int .i64 a1_1] from (k25_mkM _ _ _ (⟨a1_0, a1_1⟩ : S25) )) (Reps.none _ _))); intro v531 w6 ho7 hb hg_ hnew_; clear hg_ hnew_; (first | rw [← Ny530.out] at ho7 | (simp only [Int.reduceToNat] at ho7; rw [← Ny530.out] at ho7)); have n0_ := am (Kd.R_lower (Kd.R_newB ho7 (g := gb529) (o := .cells #[.int .i64 a1_0, .int .i64 a1_1] 25 (0, 0)) (zL BK529.out)) (below_size (zG HB GE529))); have n1_ := am (blk_below (g := gb529) (o := .cells #[.int .i64 a1_0, .int .i64 a1_1] 25 (0, 0)) (zL BK529.out) hb); have n2_ := am (below_step (zG HB GE529) hb); clear BK529; clear HB; have HO532 := n0_; have BK529 := n1_; have HB := n2_; clear n0_ n1_ n2_; clear hb ho7; obtain ⟨Ao8, co8, eo8⟩ := Kd.R_slice HO532.out; subst eo8) | ((with_reducible refine gate_callee (f := 24) rfl ?_); refine goesL_ (some 8) rfl rfl Try.func24 (by kernel_rfl) rfl #[.slice Ao8 y530.length co8, .slice A0 l0.length c0] rfl zM ?_; (with_reducible refine (r34_Subtract.calls k _ _ y530 _ _ l0 t533 _ ?side1 ?side2 ?side3 ?side4 A3.out).mono ?_); (case side1 => exact zC (Kd.R_reads' HO532.out).2.2); (case side2 => exact (Kd.R_reads' HO532.out).2.1); (case side3 => exact zC (Kd.C_below HR0.out HB.out)); (case side4 => exact HC0.out); rintro e w9 ⟨v534, rfl, ho0, hb⟩; refine ⟨_, rfl, ?_⟩; have n0_ := am (Kd.R_elder' (zR HO532.out) (Kd.R_base ho0) hb); have n1_ := am (Kd.R_lower (Kd.R_newB (Kd.R_new' ho0 (Kd.R_lt (zR HO532.out))) (g := gb529) (o := .cells #[.int .i64 a1_0, .int .i64 a1_1] 25 (0, 0)) (zL BK529.out)) (below_size (zG HB GE529))); have n2_ := am (blk_below (g := gb529) (o := .cells #[.int .i64 a1_0, .int .i64 a1_1] 25 (0, 0)) (zL BK529.out) hb); have n3_ := am (below_step (zG HB GE529) hb); clear HO532; clear BK529; clear HB; have HO532 := n0_; have HO535 := n1_; have BK529 := n2_; have HB := n3_; clear n0_ n1_ n2_ n3_; (try clear hb); (try clear hb2); (try clear hk); (try clear hi); (try clear ho0); obtain ⟨Ao10, co10, eo10⟩ := Kd.R_slice HO535.out; subst eo10))
 go_ret
 exact ⟨by first | rfl | (simp [errW_none, errW_some] <;> rfl) | (simp [*, errW_none, errW_some] <;> rfl), zG HB GE529⟩

end
end Go.Proofs.Ytapbmkcncjkanaa.P
