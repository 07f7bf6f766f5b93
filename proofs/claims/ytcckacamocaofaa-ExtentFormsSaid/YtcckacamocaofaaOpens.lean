/- What each type of the laws' parameters reads as. -/
import Derived.Test.YtcckacamocaofaaP0
import Derived.Test.YtcckacamocaofaaOpen
import Derived.KernelRfl
set_option linter.unusedVariables false
set_option linter.unusedSimpArgs false
namespace Go.Proofs.Ytcckacamocaofaa.P
open Go.RowKit Go.Proofs.YtcckacamocaofaaW.PrintWords Go.Proofs.YtcckacamocaofaaW.PrintLast Go.Proofs.YtcckacamocaofaaW.PrintMore Go.Proofs.YtcckacamocaofaaW.Open
theorem opens3 : Opens Try.prog 3 (Kd.int .i64) (fun x => (-9223372036854775808) ≤ x ∧ x ≤ 9223372036854775807) := (Opens.int Try.underlying3 (by kernel_rfl)).weaken fun x h => by simp [Lit.wf, IntKind.min, IntKind.max, IntKind.bits, IntKind.signed] at h; omega
def Wf30 (y : S30) : Prop := ((-9223372036854775808) ≤ y.f0 ∧ y.f0 ≤ 9223372036854775807) ∧ ((-9223372036854775808) ≤ y.f1 ∧ y.f1 ≤ 9223372036854775807)
theorem opens30 : Opens Try.prog 30 k30 (fun x => Wf30 x) := by
  have h := Opens.iso (fun x : S30 => (x.f0, x.f1)) (fun p => (⟨p.1, p.2⟩ : S30)) (fun _ => rfl) (Opens.struct Try.underlying30 (by kernel_rfl) (by exact (OpensF.cons opens3 rfl rfl (OpensF.one opens3 rfl rfl))))
  exact h.weaken fun y hy => hy
def Wf22 (xs : (List S30)) : Prop := ∀ y ∈ xs, Wf30 y
theorem opens22 : Opens Try.prog 22 (Kd.slice 30 k30) (fun x => Wf22 x) := Opens.slice 30 Try.underlying22 (by kernel_rfl) opens30
def Wf28 (xs : (List Int)) : Prop := ∀ y ∈ xs, (-9223372036854775808) ≤ y ∧ y ≤ 9223372036854775807
theorem opens28 : Opens Try.prog 28 (Kd.slice 3 (Kd.int .i64)) (fun x => Wf28 x) := Opens.slice 3 Try.underlying28 (by kernel_rfl) opens3
theorem opens34 : Opens Try.prog 34 (Kd.int .u16) (fun x => 0 ≤ x ∧ x ≤ 65535) := (Opens.int Try.underlying34 (by kernel_rfl)).weaken fun x h => by simp [Lit.wf, IntKind.min, IntKind.max, IntKind.bits, IntKind.signed] at h; omega
end Go.Proofs.Ytcckacamocaofaa.P
