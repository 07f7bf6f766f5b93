/- The law PrefetchReads holds for every input. -/
import Derived.Test.YtapbmkcncjkanaaRows
import Derived.Test.YtapbmkcncjkanaaP11
import Derived.Test.YtapbmkcncjkanaaPurePrefetchReads
import Derived.Test.YtapbmkcncjkanaaOpens
import Derived.WalkKit
import Derived.ProofKit
import Derived.OpenShut
import Derived.ShutString
import Derived.ChangeOld
import Derived.Below
import Derived.SizedLaws
set_option linter.unusedVariables false
set_option linter.unusedSimpArgs false
namespace Go.Proofs.Ytapbmkcncjkanaa.prefetchReads
open Go.ChangeShapes Go.WideShapes Go.ChangeAt Go.RowKit Go.Proofs.YtapbmkcncjkanaaW.PrintWords Go.Proofs.YtapbmkcncjkanaaW.Open Go.Proofs.Ytapbmkcncjkanaa.P
open Go.ChangeMaps (open_string shut_string)
theorem own : ownKnob Try.prog.godebug = none := by kernel_rfl
theorem laidOut : laidOutB Try.prog = true := by kernel_rfl
set_option maxHeartbeats 1000000 in
set_option maxRecDepth 100000 in
theorem lifted (os : Os) (started : os.Started) (H : Type) (enc : TypeId × Value → H) :
    ReturnsInHanded {} Try.checked os 3 .any (Rows.prefetchReadsSpec.pre6 enc Try.prog Try.f3 Rows.prefetchReadsRow.domain false) (Rows.prefetchReadsSpec.post enc Try.prog Try.f3 false true false false) := by
  refine returnsInHanded_of_change_sized (C := Try.checked) own started (by kernel_rfl) Try.func3
    (ChangeSpec.witness6 (enc := enc) (C := Try.checked) false ⟨#[], #[.agg #[.int .i64 0, .int .i64 0, .int .i64 0, .int .i64 0, .int .i64 0, .int .i64 0, .int .i64 0, .int .i64 0]], []⟩ 8 (by kernel_rfl) (by kernel_rfl) (by kernel_rfl) (by kernel_rfl)) ?_
  intro W base args ds gs before hval0 hW hcnd hsz0 _
  have hval : ∀ (j : Nat) t v, Try.f3.params[j]? = some t → args[j]? = some v → Value.okWide Try.prog W .any base t v := hval0
  have hW' := hW
  obtain ⟨p, q, hA0, hV, rfl, hfz, hnd⟩ := hW
  have hA : DataW.TrodAll enc Try.prog W 0 (fun _ => true) true Try.f3.params.toList args.toList ds p := hA0
  rw [Try.params3] at hA hval
  obtain ⟨v0, vs0, d0, ds0, p0, q0, hargs, rfl, rfl, h0, r0⟩ := trodAll_cons hA
  obtain ⟨rfl, rfl, rfl⟩ := trodAll_nil r0
  obtain rfl : args = #[v0] := by cases args; simp_all
  obtain ⟨rfl, rfl⟩ := trodVars_none hV
  have k0_ := h0
  have lt0 : ∀ x ∈ p0, x.block < W.heap.size := by obtain ⟨m, hm⟩ := k0_; exact DataW.trod_lt m _ _ _ hm
  obtain ⟨cs0, rfl, _⟩ := okWide_struct Try.underlying27 (hval 0 27 v0 rfl rfl)
  obtain ⟨fu0, hf0⟩ := h0
  obtain ⟨x0, hk0, hw0⟩ := opens27.2 enc W _ _ _ _ _ _ hf0
  obtain ⟨cl0, hcl0⟩ : ∃ l, cs0.toList = l := ⟨_, rfl⟩
  obtain rfl : cs0 = cl0.toArray := by rw [← hcl0]
  change k27.K W x0 cl0 at hk0
  clear hcl0
  obtain ⟨cl0_0, cl0_r0, rfl, hk0_0, hk0_r0⟩ := hk0
  obtain ⟨cl0_0_0, cl0_0_r0, rfl, hk0_0_0, hk0_0_r0⟩ := hk0_0
  obtain rfl : cl0_0_0 = [.int .i64 x0.f0.f0] := hk0_0_0
  obtain ⟨cl0_0_1, cl0_0_r1, rfl, hk0_0_1, hk0_0_r1⟩ := hk0_0_r0
  obtain rfl : cl0_0_1 = [.int .i64 x0.f0.f1] := hk0_0_1
  obtain ⟨cl0_0_2, cl0_0_r2, rfl, hk0_0_2, hk0_0_r2⟩ := hk0_0_r1
  obtain rfl : cl0_0_2 = [.int .i64 x0.f0.f2] := hk0_0_2
  obtain rfl : cl0_0_r2 = [.int .i64 x0.f0.f3] := hk0_0_r2
  obtain ⟨cl0_1, cl0_r1, rfl, hk0_1, hk0_r1⟩ := hk0_r0
  obtain ⟨cl0_1_0, cl0_1_r0, rfl, hk0_1_0, hk0_1_r0⟩ := hk0_1
  obtain rfl : cl0_1_0 = [.int .i64 x0.f1.f0] := hk0_1_0
  obtain rfl : cl0_1_r0 = [.int .i64 x0.f1.f1] := hk0_1_r0
  obtain ⟨cl0_2, cl0_r2, rfl, hk0_2, hk0_r2⟩ := hk0_r1
  obtain rfl : cl0_2 = [.int .i64 x0.f2] := hk0_2
  obtain rfl : cl0_r2 = [.int .i64 x0.f3] := hk0_r2
  obtain ⟨k, hk⟩ := Go.Proofs.Ytapbmkcncjkanaa.P.PrefetchReads x0 hw0
  refine ((tapearchivelaw36_PrefetchReads.calls k x0.f0.f0 x0.f0.f1 x0.f0.f2 x0.f0.f3 x0.f1.f0 x0.f1.f1 x0.f2 x0.f3 true W ⟨rfl⟩ hk).mono fun e W' ⟨he, bel⟩ => ?_)
  subst he
  exact ⟨_, rfl, _, _, _, [], _, [], hW', trodAll_mk1 (shut_bool Try.underlying4 _), (trodAll_cons_mk (Below.trod laidOut (by kernel_rfl) (of_decide_eq_true (by kernel_rfl)) k0_ bel lt0) trodAll_mk0), rfl, bel.frame _, fun h => by cases h⟩
theorem over : Rows.prefetchReadsRow.holds Try.pinned (OpenSpec.ofChange Rows.prefetchReadsSpec) :=
  OpenClaim.holds_of_wide 3 Try.f3 rfl rfl rfl rfl rfl rfl rfl ⟨rfl, rfl, rfl, rfl, rfl⟩ rfl rfl rfl rfl rfl (by kernel_rfl) Try.func3 (by kernel_rfl)
    (of_decide_eq_true (by kernel_rfl)) (by unfold Func.isWrapper; first | (rw [if_pos (by decide +kernel)]; kernel_rfl) | (rw [if_neg (by decide +kernel)]; exact ⟨rfl, rfl⟩))
    (fun os started H enc _ => lifted os started H enc)
theorem proved : Rows.PrefetchReadsSaid := over
end Go.Proofs.Ytapbmkcncjkanaa.prefetchReads
namespace Go.Proofs.Ytapbmkcncjkanaa
/-- The row, under a short name, for the claim. -/
theorem prefetchReads_holds : Rows.PrefetchReadsSaid := prefetchReads.proved
#print axioms prefetchReads_holds
end Go.Proofs.Ytapbmkcncjkanaa
