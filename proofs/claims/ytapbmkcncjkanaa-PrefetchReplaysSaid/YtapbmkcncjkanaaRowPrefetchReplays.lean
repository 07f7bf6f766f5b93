/- The law PrefetchReplays holds for every input. -/
import Derived.Test.YtapbmkcncjkanaaRows
import Derived.Test.YtapbmkcncjkanaaP26
import Derived.Test.YtapbmkcncjkanaaPurePrefetchReplays
import Derived.Test.YtapbmkcncjkanaaOpens
import Derived.WalkKit
import Derived.ProofKit
import Derived.OpenShut
import Derived.ShutString
import Derived.ChangeOld
import Derived.Below
import Derived.SizedLaws
set_option linter.unusedVariables false
set_option linter.unusedSimpArgs false
namespace Go.Proofs.Ytapbmkcncjkanaa.prefetchReplays
open Go.ChangeShapes Go.WideShapes Go.ChangeAt Go.RowKit Go.Proofs.YtapbmkcncjkanaaW.PrintWords Go.Proofs.YtapbmkcncjkanaaW.Open Go.Proofs.Ytapbmkcncjkanaa.P
open Go.ChangeMaps (open_string shut_string)
theorem own : ownKnob Try.prog.godebug = none := by kernel_rfl
theorem laidOut : laidOutB Try.prog = true := by kernel_rfl
set_option maxHeartbeats 1000000 in
set_option maxRecDepth 100000 in
theorem lifted (os : Os) (started : os.Started) (H : Type) (enc : TypeId × Value → H) :
    ReturnsInHanded {} Try.checked os 6 .any (Rows.prefetchReplaysSpec.pre6 enc Try.prog Try.f6 Rows.prefetchReplaysRow.domain false) (Rows.prefetchReplaysSpec.post enc Try.prog Try.f6 false true false false) := by
  refine returnsInHanded_of_change_sized (C := Try.checked) own started (by kernel_rfl) Try.func6
    (ChangeSpec.witness6 (enc := enc) (C := Try.checked) false ⟨#[], #[.slice none 0 0, .int .i64 0, .int .i64 0], []⟩ 8 (by kernel_rfl) (by kernel_rfl) (by kernel_rfl) (by kernel_rfl)) ?_
  intro W base args ds gs before hval0 hW hcnd hsz0 _
  have hval : ∀ (j : Nat) t v, Try.f6.params[j]? = some t → args[j]? = some v → Value.okWide Try.prog W .any base t v := hval0
  have hW' := hW
  obtain ⟨p, q, hA0, hV, rfl, hfz, hnd⟩ := hW
  have hA : DataW.TrodAll enc Try.prog W 0 (fun _ => true) true Try.f6.params.toList args.toList ds p := hA0
  rw [Try.params6] at hA hval
  obtain ⟨v0, vs0, d0, ds0, p0, q0, hargs, rfl, rfl, h0, r0⟩ := trodAll_cons hA
  obtain ⟨v1, vs1, d1, ds1, p1, q1, rfl, rfl, rfl, h1, r1⟩ := trodAll_cons r0
  obtain ⟨v2, vs2, d2, ds2, p2, q2, rfl, rfl, rfl, h2, r2⟩ := trodAll_cons r1
  obtain ⟨rfl, rfl, rfl⟩ := trodAll_nil r2
  obtain rfl : args = #[v0, v1, v2] := by cases args; simp_all
  obtain ⟨rfl, rfl⟩ := trodVars_none hV
  have k0_ := h0
  have lt0 : ∀ x ∈ p0, x.block < W.heap.size := by obtain ⟨m, hm⟩ := k0_; exact DataW.trod_lt m _ _ _ hm
  obtain ⟨A0, n0, c0, rfl⟩ := okWide_slice Try.underlying38 (hval 0 38 v0 rfl rfl)
  obtain ⟨fu0, hf0⟩ := h0
  obtain ⟨x0, ⟨A0', c0', he0, hc0, hr0⟩, hw0⟩ := opens38.2 enc W _ _ _ _ _ _ hf0
  simp only [Value.cells, List.cons.injEq, Value.slice.injEq, and_true] at he0
  obtain ⟨rfl, rfl, rfl⟩ := he0
  have k1_ := h1
  have lt1 : ∀ x ∈ p1, x.block < W.heap.size := by obtain ⟨m, hm⟩ := k1_; exact DataW.trod_lt m _ _ _ hm
  obtain ⟨fu1, hf1⟩ := h1
  obtain ⟨x1, hk1, hw1⟩ := opens3.2 enc W _ _ _ _ _ _ hf1
  obtain ⟨y1, rfl, _⟩ := open_int Try.underlying3 (hval 1 3 v1 rfl rfl) k1_
  simp only [Value.cells] at hk1
  obtain rfl : y1 = x1 := by have e_ := hk1; simp [Kd.int, Kd.bool, Kd.string, Kd.scalar] at e_; exact e_
  have k2_ := h2
  have lt2 : ∀ x ∈ p2, x.block < W.heap.size := by obtain ⟨m, hm⟩ := k2_; exact DataW.trod_lt m _ _ _ hm
  obtain ⟨fu2, hf2⟩ := h2
  obtain ⟨x2, hk2, hw2⟩ := opens3.2 enc W _ _ _ _ _ _ hf2
  obtain ⟨y2, rfl, _⟩ := open_int Try.underlying3 (hval 2 3 v2 rfl rfl) k2_
  simp only [Value.cells] at hk2
  obtain rfl : y2 = x2 := by have e_ := hk2; simp [Kd.int, Kd.bool, Kd.string, Kd.scalar] at e_; exact e_
  obtain ⟨k, hk⟩ := Go.Proofs.Ytapbmkcncjkanaa.P.PrefetchReplays x0 y1 y2 hw0 hw1 hw2
  refine ((w36_PrefetchReplays.calls k A0 c0 x0 y1 y2 true W hr0 hc0 ⟨rfl⟩ hk).mono fun e W' ⟨he, bel⟩ => ?_)
  subst he
  exact ⟨_, rfl, _, _, _, [], _, [], hW', trodAll_mk1 (shut_bool Try.underlying4 _), (trodAll_cons_mk (Below.trod laidOut (by kernel_rfl) (of_decide_eq_true (by kernel_rfl)) k0_ bel lt0) (trodAll_cons_mk (Below.trod laidOut (by kernel_rfl) (of_decide_eq_true (by kernel_rfl)) k1_ bel lt1) (trodAll_cons_mk (Below.trod laidOut (by kernel_rfl) (of_decide_eq_true (by kernel_rfl)) k2_ bel lt2) trodAll_mk0))), rfl, bel.frame _, fun h => by cases h⟩
theorem over : Rows.prefetchReplaysRow.holds Try.pinned (OpenSpec.ofChange Rows.prefetchReplaysSpec) :=
  OpenClaim.holds_of_wide 6 Try.f6 rfl rfl rfl rfl rfl rfl rfl ⟨rfl, rfl, rfl, rfl, rfl⟩ rfl rfl rfl rfl rfl (by kernel_rfl) Try.func6 (by kernel_rfl)
    (of_decide_eq_true (by kernel_rfl)) (by unfold Func.isWrapper; first | (rw [if_pos (by decide +kernel)]; kernel_rfl) | (rw [if_neg (by decide +kernel)]; exact ⟨rfl, rfl⟩))
    (fun os started H enc _ => lifted os started H enc)
theorem proved : Rows.PrefetchReplaysSaid := over
end Go.Proofs.Ytapbmkcncjkanaa.prefetchReplays
namespace Go.Proofs.Ytapbmkcncjkanaa
/-- The row, under a short name, for the claim. -/
theorem prefetchReplays_holds : Rows.PrefetchReplaysSaid := prefetchReplays.proved
#print axioms prefetchReplays_holds
end Go.Proofs.Ytapbmkcncjkanaa
