/- What each type of the laws' parameters reads as. -/
import Derived.Test.YtapbmkcncjkanaaP0
import Derived.Test.YtapbmkcncjkanaaOpen
import Derived.KernelRfl
set_option linter.unusedVariables false
set_option linter.unusedSimpArgs false
namespace Go.Proofs.Ytapbmkcncjkanaa.P
open Go.RowKit Go.Proofs.YtapbmkcncjkanaaW.PrintWords Go.Proofs.YtapbmkcncjkanaaW.PrintLast Go.Proofs.YtapbmkcncjkanaaW.PrintMore Go.Proofs.YtapbmkcncjkanaaW.Open
theorem opens3 : Opens Try.prog 3 (Kd.int .i64) (fun x => (-9223372036854775808) ≤ x ∧ x ≤ 9223372036854775807) := (Opens.int Try.underlying3 (by kernel_rfl)).weaken fun x h => by simp [Lit.wf, IntKind.min, IntKind.max, IntKind.bits, IntKind.signed] at h; omega
structure S23 where
  f0 : Int
  f1 : Int
  f2 : Int
  f3 : Int
def k23 : Kd S23 := Kd.iso (Kd.pair (Kd.int .i64) (Kd.pair (Kd.int .i64) (Kd.pair (Kd.int .i64) (Kd.int .i64)))) (fun x : S23 => (x.f0, x.f1, x.f2, x.f3))
def Wf23 (y : S23) : Prop := ((-9223372036854775808) ≤ y.f0 ∧ y.f0 ≤ 9223372036854775807) ∧ ((-9223372036854775808) ≤ y.f1 ∧ y.f1 ≤ 9223372036854775807) ∧ ((-9223372036854775808) ≤ y.f2 ∧ y.f2 ≤ 9223372036854775807) ∧ ((-9223372036854775808) ≤ y.f3 ∧ y.f3 ≤ 9223372036854775807)
theorem opens23 : Opens Try.prog 23 k23 (fun x => Wf23 x) := by
  have h := Opens.iso (fun x : S23 => (x.f0, x.f1, x.f2, x.f3)) (fun p => (⟨p.1, p.2.1, p.2.2.1, p.2.2.2⟩ : S23)) (fun _ => rfl) (Opens.struct Try.underlying23 (by kernel_rfl) (by exact (OpensF.cons opens3 rfl rfl (OpensF.cons opens3 rfl rfl (OpensF.cons opens3 rfl rfl (OpensF.one opens3 rfl rfl))))))
  exact h.weaken fun y hy => hy
def Wf25 (y : S25) : Prop := ((-9223372036854775808) ≤ y.f0 ∧ y.f0 ≤ 9223372036854775807) ∧ ((-9223372036854775808) ≤ y.f1 ∧ y.f1 ≤ 9223372036854775807)
theorem opens25 : Opens Try.prog 25 k25 (fun x => Wf25 x) := by
  have h := Opens.iso (fun x : S25 => (x.f0, x.f1)) (fun p => (⟨p.1, p.2⟩ : S25)) (fun _ => rfl) (Opens.struct Try.underlying25 (by kernel_rfl) (by exact (OpensF.cons opens3 rfl rfl (OpensF.one opens3 rfl rfl))))
  exact h.weaken fun y hy => hy
structure S27 where
  f0 : S23
  f1 : S25
  f2 : Int
  f3 : Int
def k27 : Kd S27 := Kd.iso (Kd.pair k23 (Kd.pair k25 (Kd.pair (Kd.int .i64) (Kd.int .i64)))) (fun x : S27 => (x.f0, x.f1, x.f2, x.f3))
def Wf27 (y : S27) : Prop := (Wf23 y.f0) ∧ (Wf25 y.f1) ∧ ((-9223372036854775808) ≤ y.f2 ∧ y.f2 ≤ 9223372036854775807) ∧ ((-9223372036854775808) ≤ y.f3 ∧ y.f3 ≤ 9223372036854775807)
theorem opens27 : Opens Try.prog 27 k27 (fun x => Wf27 x) := by
  have h := Opens.iso (fun x : S27 => (x.f0, x.f1, x.f2, x.f3)) (fun p => (⟨p.1, p.2.1, p.2.2.1, p.2.2.2⟩ : S27)) (fun _ => rfl) (Opens.struct Try.underlying27 (by kernel_rfl) (by exact (OpensF.cons opens23 rfl rfl (OpensF.cons opens25 rfl rfl (OpensF.cons opens3 rfl rfl (OpensF.one opens3 rfl rfl))))))
  exact h.weaken fun y hy => hy
def Wf36 (xs : (List Int)) : Prop := ∀ y ∈ xs, (-9223372036854775808) ≤ y ∧ y ≤ 9223372036854775807
theorem opens36 : Opens Try.prog 36 (Kd.slice 3 (Kd.int .i64)) (fun x => Wf36 x) := Opens.slice 3 Try.underlying36 (by kernel_rfl) opens3
def Wf38 (xs : (List S25)) : Prop := ∀ y ∈ xs, Wf25 y
theorem opens38 : Opens Try.prog 38 (Kd.slice 25 k25) (fun x => Wf38 x) := Opens.slice 25 Try.underlying38 (by kernel_rfl) opens25
end Go.Proofs.Ytapbmkcncjkanaa.P
