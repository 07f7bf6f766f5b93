/-
  No cell of these rows narrows 'for every input' (looked for: loops, veiled, ifaces, maps, wideKeys, modest, calm, conditions, laid).
  DERIVED. THE GIVEN ROWS OF THIS SEAT. 5 by the template 'for every input the law returns true; each argument reads behind the call as it read before'; 0 by the template 'total and deterministic' (their statements: YtcckacamocaofaaTotals.lean).
  GIVEN WITH THE SEED: the statements are not yours to turn. If you find one false, say at which input.
  Laid BY PROGRAM, IN A SANDBOX (cutbox-rows.mjs): the forced cells as the released guide's own fill.sh prints them over the translation c572a7df15ba7bac… (all of the seat's roots in one cut). By AI agents, Wed Nov 11 2026. No macro, syntax, notation, axiom, sorry.
-/
import Derived.Test.YtcckacamocaofaaChecked
import GoSem.Claim
import GoSem.ClaimJoined
import GoSem.ClaimMapViews
import Derived.JoinedTies
import Derived.KernelRfl
namespace Go.Proofs.Ytcckacamocaofaa
/- THE CELL 'sum', in the pinned program and in every row, IS THE sha256 OF THE DUMP (.gsa) THAT YtcckacamocaofaaProg.lean LOADS. Nothing in Lean hashes anything: it is a label: what it is worth is what the hold of that sum in a sandbox is worth. -/
noncomputable def Try.pinned : Pinned := { name := "ytcckacamocaofaa", sum := "c572a7df15ba7bac8993c5e525fc50d68a37ede5add0c88b7d08a4580303d60f", checked := Try.checked }
namespace Rows
def none {H : Type} : Left H := { results := [], args := [] }

/-- 'tapearchivelaw34.ExtentRounds': WHATEVER THE INPUT: true; the input reads as it did. -/
def extentRoundsSpec : ChangeSpec := { name := "extentRounds", fn := fun _ => fun
  | [d1, d2, d3, d4] => { results := [.lit (.bool true)], args := [d1, d2, d3, d4] }
  | _ => none }
def extentRoundsRow : OpenClaim := { program := "ytcckacamocaofaa", sum := "c572a7df15ba7bac8993c5e525fc50d68a37ede5add0c88b7d08a4580303d60f", func := "tapearchive/tapearchivelaw34.ExtentRounds", spec := "extentRounds", unfollowed := true, recurses := true, apart := false }
def ExtentRoundsSaid : Prop := extentRoundsRow.holds Try.pinned (OpenSpec.ofChange extentRoundsSpec)

/-- ITS FALSE NEIGHBOUR: 'it returns false'. Refute it at one input. -/
def extentRoundsWrong : ChangeSpec := { name := "extentRounds", fn := fun _ => fun
  | [d1, d2, d3, d4] => { results := [.lit (.bool false)], args := [d1, d2, d3, d4] }
  | _ => none }
def ExtentRoundsWrongFalsely : Prop := extentRoundsRow.holds Try.pinned (OpenSpec.ofChange extentRoundsWrong)

/-- 'tapearchivelaw34.ExtentForms': WHATEVER THE INPUT: true; the input reads as it did. -/
def extentFormsSpec : ChangeSpec := { name := "extentForms", fn := fun _ => fun
  | [d1, d2] => { results := [.lit (.bool true)], args := [d1, d2] }
  | _ => none }
def extentFormsRow : OpenClaim := { program := "ytcckacamocaofaa", sum := "c572a7df15ba7bac8993c5e525fc50d68a37ede5add0c88b7d08a4580303d60f", func := "tapearchive/tapearchivelaw34.ExtentForms", spec := "extentForms", unfollowed := true, recurses := true, apart := false }
def ExtentFormsSaid : Prop := extentFormsRow.holds Try.pinned (OpenSpec.ofChange extentFormsSpec)

/-- ITS FALSE NEIGHBOUR: 'it returns false'. Refute it at one input. -/
def extentFormsWrong : ChangeSpec := { name := "extentForms", fn := fun _ => fun
  | [d1, d2] => { results := [.lit (.bool false)], args := [d1, d2] }
  | _ => none }
def ExtentFormsWrongFalsely : Prop := extentFormsRow.holds Try.pinned (OpenSpec.ofChange extentFormsWrong)

/-- 'tapearchivelaw34.ExtentContains': WHATEVER THE INPUT: true; the input reads as it did. -/
def extentContainsSpec : ChangeSpec := { name := "extentContains", fn := fun _ => fun
  | [d1, d2, d3] => { results := [.lit (.bool true)], args := [d1, d2, d3] }
  | _ => none }
def extentContainsRow : OpenClaim := { program := "ytcckacamocaofaa", sum := "c572a7df15ba7bac8993c5e525fc50d68a37ede5add0c88b7d08a4580303d60f", func := "tapearchive/tapearchivelaw34.ExtentContains", spec := "extentContains", unfollowed := true, recurses := true, apart := false }
def ExtentContainsSaid : Prop := extentContainsRow.holds Try.pinned (OpenSpec.ofChange extentContainsSpec)

/-- ITS FALSE NEIGHBOUR: 'it returns false'. Refute it at one input. -/
def extentContainsWrong : ChangeSpec := { name := "extentContains", fn := fun _ => fun
  | [d1, d2, d3] => { results := [.lit (.bool false)], args := [d1, d2, d3] }
  | _ => none }
def ExtentContainsWrongFalsely : Prop := extentContainsRow.holds Try.pinned (OpenSpec.ofChange extentContainsWrong)

/-- 'tapearchivelaw34.ExtentAlgebra': WHATEVER THE INPUT: true; the input reads as it did. -/
def extentAlgebraSpec : ChangeSpec := { name := "extentAlgebra", fn := fun _ => fun
  | [d1, d2, d3] => { results := [.lit (.bool true)], args := [d1, d2, d3] }
  | _ => none }
def extentAlgebraRow : OpenClaim := { program := "ytcckacamocaofaa", sum := "c572a7df15ba7bac8993c5e525fc50d68a37ede5add0c88b7d08a4580303d60f", func := "tapearchive/tapearchivelaw34.ExtentAlgebra", spec := "extentAlgebra", unfollowed := true, recurses := true, apart := false }
def ExtentAlgebraSaid : Prop := extentAlgebraRow.holds Try.pinned (OpenSpec.ofChange extentAlgebraSpec)

/-- ITS FALSE NEIGHBOUR: 'it returns false'. Refute it at one input. -/
def extentAlgebraWrong : ChangeSpec := { name := "extentAlgebra", fn := fun _ => fun
  | [d1, d2, d3] => { results := [.lit (.bool false)], args := [d1, d2, d3] }
  | _ => none }
def ExtentAlgebraWrongFalsely : Prop := extentAlgebraRow.holds Try.pinned (OpenSpec.ofChange extentAlgebraWrong)

/-- 'tapearchivelaw34.ExtentSets': WHATEVER THE INPUT: true; the input reads as it did. -/
def extentSetsSpec : ChangeSpec := { name := "extentSets", fn := fun _ => fun
  | [d1, d2, d3] => { results := [.lit (.bool true)], args := [d1, d2, d3] }
  | _ => none }
def extentSetsRow : OpenClaim := { program := "ytcckacamocaofaa", sum := "c572a7df15ba7bac8993c5e525fc50d68a37ede5add0c88b7d08a4580303d60f", func := "tapearchive/tapearchivelaw34.ExtentSets", spec := "extentSets", unfollowed := true, recurses := true, apart := false }
def ExtentSetsSaid : Prop := extentSetsRow.holds Try.pinned (OpenSpec.ofChange extentSetsSpec)

/-- ITS FALSE NEIGHBOUR: 'it returns false'. Refute it at one input. -/
def extentSetsWrong : ChangeSpec := { name := "extentSets", fn := fun _ => fun
  | [d1, d2, d3] => { results := [.lit (.bool false)], args := [d1, d2, d3] }
  | _ => none }
def ExtentSetsWrongFalsely : Prop := extentSetsRow.holds Try.pinned (OpenSpec.ofChange extentSetsWrong)

/- THE SECOND FORM. 'bulk': how many values and letters a reading holds, each counted each time it is reached (what is shared counts as often as it is met; a slice's spare places count too). A statement '..UptoSaid' is the law's where the arguments, and the package variables that the reading takes, are together of bulk at most 1048576: NARROWER than '..Said'. Prove '..Said' where nothing that the law and all that it calls make is longer than what came in: it says more and counts as full. Else prove '..UptoSaid'. A law counts once. -/
mutual
def uptoBulk {H : Type} : DataW H → Nat
  | .lit (.string bytes) => bytes.length + 1
  | .lit _ => 1
  | .nil => 1
  | .ptr d => uptoBulk d + 1
  | .slice elems spare => uptoBulkAll elems + uptoBulkAll spare + 1
  | .agg parts => uptoBulkAll parts + 1
  | .iface _ d => uptoBulk d + 1
  | .map entries => uptoBulkEntries entries + 1
  | .held _ => 1
def uptoBulkAll {H : Type} : List (DataW H) → Nat
  | [] => 0
  | d :: r => uptoBulk d + uptoBulkAll r
def uptoBulkEntries {H : Type} : List (Lit × DataW H) → Nat
  | [] => 0
  | x :: r => uptoBulkEntry x + uptoBulkEntries r
def uptoBulkEntry {H : Type} : Lit × DataW H → Nat
  | (.string bytes, d) => bytes.length + uptoBulk d + 1
  | (_, d) => uptoBulk d + 1
 end
def uptoSmall : (H : Type) → List (DataW H) → Bool := fun _ ds => decide (uptoBulkAll ds ≤ 1048576)
def OpenSpec.upto (s : _root_.Go.ChangeSpec) : _root_.Go.OpenSpec := { _root_.Go.OpenSpec.ofChange s with cond := some uptoSmall }

/-- 'tapearchivelaw34.ExtentRounds', WHERE WHAT IT READS IS OF BULK AT MOST 1048576: true; the input reads as it did. -/
def extentRoundsUptoRow : OpenClaim := { program := "ytcckacamocaofaa", sum := "c572a7df15ba7bac8993c5e525fc50d68a37ede5add0c88b7d08a4580303d60f", func := "tapearchive/tapearchivelaw34.ExtentRounds", spec := "extentRounds", unfollowed := true, recurses := true, apart := false, narrowed := true }
def ExtentRoundsUptoSaid : Prop := extentRoundsUptoRow.holds Try.pinned (OpenSpec.upto extentRoundsSpec)

/-- 'tapearchivelaw34.ExtentForms', WHERE WHAT IT READS IS OF BULK AT MOST 1048576: true; the input reads as it did. -/
def extentFormsUptoRow : OpenClaim := { program := "ytcckacamocaofaa", sum := "c572a7df15ba7bac8993c5e525fc50d68a37ede5add0c88b7d08a4580303d60f", func := "tapearchive/tapearchivelaw34.ExtentForms", spec := "extentForms", unfollowed := true, recurses := true, apart := false, narrowed := true }
def ExtentFormsUptoSaid : Prop := extentFormsUptoRow.holds Try.pinned (OpenSpec.upto extentFormsSpec)

/-- 'tapearchivelaw34.ExtentContains', WHERE WHAT IT READS IS OF BULK AT MOST 1048576: true; the input reads as it did. -/
def extentContainsUptoRow : OpenClaim := { program := "ytcckacamocaofaa", sum := "c572a7df15ba7bac8993c5e525fc50d68a37ede5add0c88b7d08a4580303d60f", func := "tapearchive/tapearchivelaw34.ExtentContains", spec := "extentContains", unfollowed := true, recurses := true, apart := false, narrowed := true }
def ExtentContainsUptoSaid : Prop := extentContainsUptoRow.holds Try.pinned (OpenSpec.upto extentContainsSpec)

/-- 'tapearchivelaw34.ExtentAlgebra', WHERE WHAT IT READS IS OF BULK AT MOST 1048576: true; the input reads as it did. -/
def extentAlgebraUptoRow : OpenClaim := { program := "ytcckacamocaofaa", sum := "c572a7df15ba7bac8993c5e525fc50d68a37ede5add0c88b7d08a4580303d60f", func := "tapearchive/tapearchivelaw34.ExtentAlgebra", spec := "extentAlgebra", unfollowed := true, recurses := true, apart := false, narrowed := true }
def ExtentAlgebraUptoSaid : Prop := extentAlgebraUptoRow.holds Try.pinned (OpenSpec.upto extentAlgebraSpec)

/-- 'tapearchivelaw34.ExtentSets', WHERE WHAT IT READS IS OF BULK AT MOST 1048576: true; the input reads as it did. -/
def extentSetsUptoRow : OpenClaim := { program := "ytcckacamocaofaa", sum := "c572a7df15ba7bac8993c5e525fc50d68a37ede5add0c88b7d08a4580303d60f", func := "tapearchive/tapearchivelaw34.ExtentSets", spec := "extentSets", unfollowed := true, recurses := true, apart := false, narrowed := true }
def ExtentSetsUptoSaid : Prop := extentSetsUptoRow.holds Try.pinned (OpenSpec.upto extentSetsSpec)

end Rows
end Go.Proofs.Ytcckacamocaofaa
