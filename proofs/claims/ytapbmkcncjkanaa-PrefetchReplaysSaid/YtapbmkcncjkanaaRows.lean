/-
  No cell of these rows narrows 'for every input' (looked for: loops, veiled, ifaces, maps, wideKeys, modest, calm, conditions, laid).
  DERIVED. THE GIVEN ROWS OF THIS SEAT. 6 by the template 'for every input the law returns true; each argument reads behind the call as it read before'; 0 by the template 'total and deterministic' (their statements: YtapbmkcncjkanaaTotals.lean).
  GIVEN WITH THE SEED: the statements are not yours to turn. If you find one false, say at which input.
  Laid BY PROGRAM, IN A SANDBOX (cutbox-rows.mjs): the forced cells as the released guide's own fill.sh prints them over the translation 6b463778d42fc1d7… (all of the seat's roots in one cut). By AI agents, Wed Nov 11 2026. No macro, syntax, notation, axiom, sorry.
-/
import Derived.Test.YtapbmkcncjkanaaChecked
import GoSem.Claim
import GoSem.ClaimJoined
import GoSem.ClaimMapViews
import Derived.JoinedTies
import Derived.KernelRfl
namespace Go.Proofs.Ytapbmkcncjkanaa
/- THE CELL 'sum', in the pinned program and in every row, IS THE sha256 OF THE DUMP (.gsa) THAT YtapbmkcncjkanaaProg.lean LOADS. Nothing in Lean hashes anything: it is a label: what it is worth is what the hold of that sum in a sandbox is worth. -/
noncomputable def Try.pinned : Pinned := { name := "ytapbmkcncjkanaa", sum := "6b463778d42fc1d7403553b5e18786fcf56966a2448c587562105ed8f84b3dfd", checked := Try.checked }
namespace Rows
def none {H : Type} : Left H := { results := [], args := [] }

/-- 'tapearchivelaw36.PrefetchReads': WHATEVER THE INPUT: true; the input reads as it did. -/
def prefetchReadsSpec : ChangeSpec := { name := "prefetchReads", fn := fun _ => fun
  | [d] => { results := [.lit (.bool true)], args := [d] }
  | _ => none }
def prefetchReadsRow : OpenClaim := { program := "ytapbmkcncjkanaa", sum := "6b463778d42fc1d7403553b5e18786fcf56966a2448c587562105ed8f84b3dfd", func := "tapearchive/tapearchivelaw36.PrefetchReads", spec := "prefetchReads", unfollowed := true, recurses := true, apart := false }
def PrefetchReadsSaid : Prop := prefetchReadsRow.holds Try.pinned (OpenSpec.ofChange prefetchReadsSpec)

/-- ITS FALSE NEIGHBOUR: 'it returns false'. Refute it at one input. -/
def prefetchReadsWrong : ChangeSpec := { name := "prefetchReads", fn := fun _ => fun
  | [d] => { results := [.lit (.bool false)], args := [d] }
  | _ => none }
def PrefetchReadsWrongFalsely : Prop := prefetchReadsRow.holds Try.pinned (OpenSpec.ofChange prefetchReadsWrong)

/-- 'tapearchivelaw36.PrefetchAhead': WHATEVER THE INPUT: true; the input reads as it did. -/
def prefetchAheadSpec : ChangeSpec := { name := "prefetchAhead", fn := fun _ => fun
  | [d1, d2, d3] => { results := [.lit (.bool true)], args := [d1, d2, d3] }
  | _ => none }
def prefetchAheadRow : OpenClaim := { program := "ytapbmkcncjkanaa", sum := "6b463778d42fc1d7403553b5e18786fcf56966a2448c587562105ed8f84b3dfd", func := "tapearchive/tapearchivelaw36.PrefetchAhead", spec := "prefetchAhead", unfollowed := true, recurses := true, apart := false }
def PrefetchAheadSaid : Prop := prefetchAheadRow.holds Try.pinned (OpenSpec.ofChange prefetchAheadSpec)

/-- ITS FALSE NEIGHBOUR: 'it returns false'. Refute it at one input. -/
def prefetchAheadWrong : ChangeSpec := { name := "prefetchAhead", fn := fun _ => fun
  | [d1, d2, d3] => { results := [.lit (.bool false)], args := [d1, d2, d3] }
  | _ => none }
def PrefetchAheadWrongFalsely : Prop := prefetchAheadRow.holds Try.pinned (OpenSpec.ofChange prefetchAheadWrong)

/-- 'tapearchivelaw36.PrefetchRequests': WHATEVER THE INPUT: true; the input reads as it did. -/
def prefetchRequestsSpec : ChangeSpec := { name := "prefetchRequests", fn := fun _ => fun
  | [d1, d2, d3] => { results := [.lit (.bool true)], args := [d1, d2, d3] }
  | _ => none }
def prefetchRequestsRow : OpenClaim := { program := "ytapbmkcncjkanaa", sum := "6b463778d42fc1d7403553b5e18786fcf56966a2448c587562105ed8f84b3dfd", func := "tapearchive/tapearchivelaw36.PrefetchRequests", spec := "prefetchRequests", unfollowed := true, recurses := true, apart := false }
def PrefetchRequestsSaid : Prop := prefetchRequestsRow.holds Try.pinned (OpenSpec.ofChange prefetchRequestsSpec)

/-- ITS FALSE NEIGHBOUR: 'it returns false'. Refute it at one input. -/
def prefetchRequestsWrong : ChangeSpec := { name := "prefetchRequests", fn := fun _ => fun
  | [d1, d2, d3] => { results := [.lit (.bool false)], args := [d1, d2, d3] }
  | _ => none }
def PrefetchRequestsWrongFalsely : Prop := prefetchRequestsRow.holds Try.pinned (OpenSpec.ofChange prefetchRequestsWrong)

/-- 'tapearchivelaw36.PrefetchReplays': WHATEVER THE INPUT: true; the input reads as it did. -/
def prefetchReplaysSpec : ChangeSpec := { name := "prefetchReplays", fn := fun _ => fun
  | [d1, d2, d3] => { results := [.lit (.bool true)], args := [d1, d2, d3] }
  | _ => none }
def prefetchReplaysRow : OpenClaim := { program := "ytapbmkcncjkanaa", sum := "6b463778d42fc1d7403553b5e18786fcf56966a2448c587562105ed8f84b3dfd", func := "tapearchive/tapearchivelaw36.PrefetchReplays", spec := "prefetchReplays", unfollowed := true, recurses := true, apart := false }
def PrefetchReplaysSaid : Prop := prefetchReplaysRow.holds Try.pinned (OpenSpec.ofChange prefetchReplaysSpec)

/-- ITS FALSE NEIGHBOUR: 'it returns false'. Refute it at one input. -/
def prefetchReplaysWrong : ChangeSpec := { name := "prefetchReplays", fn := fun _ => fun
  | [d1, d2, d3] => { results := [.lit (.bool false)], args := [d1, d2, d3] }
  | _ => none }
def PrefetchReplaysWrongFalsely : Prop := prefetchReplaysRow.holds Try.pinned (OpenSpec.ofChange prefetchReplaysWrong)

/-- 'tapearchivelaw36.PrefetchAlone': WHATEVER THE INPUT: true; the input reads as it did. -/
def prefetchAloneSpec : ChangeSpec := { name := "prefetchAlone", fn := fun _ => fun
  | [d1, d2, d3] => { results := [.lit (.bool true)], args := [d1, d2, d3] }
  | _ => none }
def prefetchAloneRow : OpenClaim := { program := "ytapbmkcncjkanaa", sum := "6b463778d42fc1d7403553b5e18786fcf56966a2448c587562105ed8f84b3dfd", func := "tapearchive/tapearchivelaw36.PrefetchAlone", spec := "prefetchAlone", unfollowed := true, recurses := true, apart := false }
def PrefetchAloneSaid : Prop := prefetchAloneRow.holds Try.pinned (OpenSpec.ofChange prefetchAloneSpec)

/-- ITS FALSE NEIGHBOUR: 'it returns false'. Refute it at one input. -/
def prefetchAloneWrong : ChangeSpec := { name := "prefetchAlone", fn := fun _ => fun
  | [d1, d2, d3] => { results := [.lit (.bool false)], args := [d1, d2, d3] }
  | _ => none }
def PrefetchAloneWrongFalsely : Prop := prefetchAloneRow.holds Try.pinned (OpenSpec.ofChange prefetchAloneWrong)

/-- 'tapearchivelaw36.PrefetchWastes': WHATEVER THE INPUT: true; the input reads as it did. -/
def prefetchWastesSpec : ChangeSpec := { name := "prefetchWastes", fn := fun _ => fun
  | [d1, d2, d3] => { results := [.lit (.bool true)], args := [d1, d2, d3] }
  | _ => none }
def prefetchWastesRow : OpenClaim := { program := "ytapbmkcncjkanaa", sum := "6b463778d42fc1d7403553b5e18786fcf56966a2448c587562105ed8f84b3dfd", func := "tapearchive/tapearchivelaw36.PrefetchWastes", spec := "prefetchWastes", unfollowed := true, recurses := true, apart := false }
def PrefetchWastesSaid : Prop := prefetchWastesRow.holds Try.pinned (OpenSpec.ofChange prefetchWastesSpec)

/-- ITS FALSE NEIGHBOUR: 'it returns false'. Refute it at one input. -/
def prefetchWastesWrong : ChangeSpec := { name := "prefetchWastes", fn := fun _ => fun
  | [d1, d2, d3] => { results := [.lit (.bool false)], args := [d1, d2, d3] }
  | _ => none }
def PrefetchWastesWrongFalsely : Prop := prefetchWastesRow.holds Try.pinned (OpenSpec.ofChange prefetchWastesWrong)

/- THE SECOND FORM. 'bulk': how many values and letters a reading holds, each counted each time it is reached (what is shared counts as often as it is met; a slice's spare places count too). A statement '..UptoSaid' is the law's where the arguments, and the package variables that the reading takes, are together of bulk at most 1048576: NARROWER than '..Said'. Prove '..Said' where nothing that the law and all that it calls make is longer than what came in: it says more and counts as full. Else prove '..UptoSaid'. A law counts once. -/
mutual
def uptoBulk {H : Type} : DataW H → Nat
  | .lit (.string bytes) => bytes.length + 1
  | .lit _ => 1
  | .nil => 1
  | .ptr d => uptoBulk d + 1
  | .slice elems spare => uptoBulkAll elems + uptoBulkAll spare + 1
  | .agg parts => uptoBulkAll parts + 1
  | .iface _ d => uptoBulk d + 1
  | .map entries => uptoBulkEntries entries + 1
  | .held _ => 1
def uptoBulkAll {H : Type} : List (DataW H) → Nat
  | [] => 0
  | d :: r => uptoBulk d + uptoBulkAll r
def uptoBulkEntries {H : Type} : List (Lit × DataW H) → Nat
  | [] => 0
  | x :: r => uptoBulkEntry x + uptoBulkEntries r
def uptoBulkEntry {H : Type} : Lit × DataW H → Nat
  | (.string bytes, d) => bytes.length + uptoBulk d + 1
  | (_, d) => uptoBulk d + 1
 end
def uptoSmall : (H : Type) → List (DataW H) → Bool := fun _ ds => decide (uptoBulkAll ds ≤ 1048576)
def OpenSpec.upto (s : _root_.Go.ChangeSpec) : _root_.Go.OpenSpec := { _root_.Go.OpenSpec.ofChange s with cond := some uptoSmall }

/-- 'tapearchivelaw36.PrefetchReads', WHERE WHAT IT READS IS OF BULK AT MOST 1048576: true; the input reads as it did. -/
def prefetchReadsUptoRow : OpenClaim := { program := "ytapbmkcncjkanaa", sum := "6b463778d42fc1d7403553b5e18786fcf56966a2448c587562105ed8f84b3dfd", func := "tapearchive/tapearchivelaw36.PrefetchReads", spec := "prefetchReads", unfollowed := true, recurses := true, apart := false, narrowed := true }
def PrefetchReadsUptoSaid : Prop := prefetchReadsUptoRow.holds Try.pinned (OpenSpec.upto prefetchReadsSpec)

/-- 'tapearchivelaw36.PrefetchAhead', WHERE WHAT IT READS IS OF BULK AT MOST 1048576: true; the input reads as it did. -/
def prefetchAheadUptoRow : OpenClaim := { program := "ytapbmkcncjkanaa", sum := "6b463778d42fc1d7403553b5e18786fcf56966a2448c587562105ed8f84b3dfd", func := "tapearchive/tapearchivelaw36.PrefetchAhead", spec := "prefetchAhead", unfollowed := true, recurses := true, apart := false, narrowed := true }
def PrefetchAheadUptoSaid : Prop := prefetchAheadUptoRow.holds Try.pinned (OpenSpec.upto prefetchAheadSpec)

/-- 'tapearchivelaw36.PrefetchRequests', WHERE WHAT IT READS IS OF BULK AT MOST 1048576: true; the input reads as it did. -/
def prefetchRequestsUptoRow : OpenClaim := { program := "ytapbmkcncjkanaa", sum := "6b463778d42fc1d7403553b5e18786fcf56966a2448c587562105ed8f84b3dfd", func := "tapearchive/tapearchivelaw36.PrefetchRequests", spec := "prefetchRequests", unfollowed := true, recurses := true, apart := false, narrowed := true }
def PrefetchRequestsUptoSaid : Prop := prefetchRequestsUptoRow.holds Try.pinned (OpenSpec.upto prefetchRequestsSpec)

/-- 'tapearchivelaw36.PrefetchReplays', WHERE WHAT IT READS IS OF BULK AT MOST 1048576: true; the input reads as it did. -/
def prefetchReplaysUptoRow : OpenClaim := { program := "ytapbmkcncjkanaa", sum := "6b463778d42fc1d7403553b5e18786fcf56966a2448c587562105ed8f84b3dfd", func := "tapearchive/tapearchivelaw36.PrefetchReplays", spec := "prefetchReplays", unfollowed := true, recurses := true, apart := false, narrowed := true }
def PrefetchReplaysUptoSaid : Prop := prefetchReplaysUptoRow.holds Try.pinned (OpenSpec.upto prefetchReplaysSpec)

/-- 'tapearchivelaw36.PrefetchAlone', WHERE WHAT IT READS IS OF BULK AT MOST 1048576: true; the input reads as it did. -/
def prefetchAloneUptoRow : OpenClaim := { program := "ytapbmkcncjkanaa", sum := "6b463778d42fc1d7403553b5e18786fcf56966a2448c587562105ed8f84b3dfd", func := "tapearchive/tapearchivelaw36.PrefetchAlone", spec := "prefetchAlone", unfollowed := true, recurses := true, apart := false, narrowed := true }
def PrefetchAloneUptoSaid : Prop := prefetchAloneUptoRow.holds Try.pinned (OpenSpec.upto prefetchAloneSpec)

/-- 'tapearchivelaw36.PrefetchWastes', WHERE WHAT IT READS IS OF BULK AT MOST 1048576: true; the input reads as it did. -/
def prefetchWastesUptoRow : OpenClaim := { program := "ytapbmkcncjkanaa", sum := "6b463778d42fc1d7403553b5e18786fcf56966a2448c587562105ed8f84b3dfd", func := "tapearchive/tapearchivelaw36.PrefetchWastes", spec := "prefetchWastes", unfollowed := true, recurses := true, apart := false, narrowed := true }
def PrefetchWastesUptoSaid : Prop := prefetchWastesUptoRow.holds Try.pinned (OpenSpec.upto prefetchWastesSpec)

end Rows
end Go.Proofs.Ytapbmkcncjkanaa
