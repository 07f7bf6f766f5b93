/- slices.SortFunc at []edge with the order of edges: its contract, in the form that the printed callers ask for. -/
import Derived.Test.YtapbmkcncjkanaaSortR
import Derived.Test.YtapbmkcncjkanaaSortLay
import Derived.Test.YtapbmkcncjkanaaP4
set_option linter.unusedVariables false
namespace Go.Proofs.Ytapbmkcncjkanaa.P
open Go.Shelf Go.RowKit Go.Proofs Go.Proofs.YtapbmkcncjkanaaW.PrintWords Go.Proofs.YtapbmkcncjkanaaW.PrintLast Go.Proofs.YtapbmkcncjkanaaW.PrintMore

/-- What is asked of an edge: the difference of two is no overflow. -/
def edgeOk (e : S71) : Prop := 0 ≤ e.f0 ∧ e.f0 ≤ 4503599627370496
instance : DecidablePred edgeOk := fun e => inferInstanceAs (Decidable (_ ∧ _))
instance : Inhabited {x // edgeOk x} := ⟨⟨⟨0, 0, 0⟩, by unfold edgeOk; decide⟩⟩
def edgeCmp (a b : S71) : Int := wrap64 (a.f0 - b.f0)
/-- The edges, ascending. -/
def edgeSort (l : List S71) : List S71 := YtapbmkcncjkanaaW.SortR.sorted edgeOk edgeCmp l
def edgeEnc (e : S71) : List Value := [.int .i64 e.f0, .int .i64 e.f1, .int .i64 e.f2]
theorem edgeLt (x y : {x // edgeOk x}) : Go.Proofs.ltOf (fun x y : {x // edgeOk x} => edgeCmp x.1 y.1) x y = decide (x.1.f0 < y.1.f0) := by
  obtain ⟨x, hx⟩ := x
  obtain ⟨y, hy⟩ := y
  unfold edgeOk at hx hy
  have e : wrap64 (x.f0 - y.f0) = x.f0 - y.f0 := by unfold wrap64; omega
  unfold Go.Proofs.ltOf edgeCmp
  simp only [e]
  rw [decide_eq_decide]
  omega
theorem edgeSwo : Go.Sort.SWO (Go.Proofs.ltOf fun x y : {x // edgeOk x} => edgeCmp x.1 y.1) where
  irrefl x := by rw [edgeLt]; simp
  trans x y z h1 h2 := by rw [edgeLt] at *; simp at *; omega
  ntrans x y z h1 h2 := by rw [edgeLt] at *; simp at *; omega

theorem edgeSort_perm (l : List S71) (h : ∀ x ∈ l, edgeOk x) : (edgeSort l).Perm l := YtapbmkcncjkanaaW.SortR.sorted_perm edgeOk edgeCmp edgeSwo l h
theorem edgeSort_sorted (l : List S71) (h : ∀ x ∈ l, edgeOk x) : (edgeSort l).Pairwise (fun a b => a.f0 ≤ b.f0) := by
  have hp := edgeSort_perm l h
  have hs := YtapbmkcncjkanaaW.SortR.sorted_sorted edgeOk edgeCmp edgeSwo l
  refine List.Pairwise.imp_of_mem ?_ hs
  intro a b ha hb hab
  have h1 := h a (hp.mem_iff.1 ha)
  have h2 := h b (hp.mem_iff.1 hb)
  unfold edgeOk at h1 h2
  unfold edgeCmp at hab
  have e : wrap64 (b.f0 - a.f0) = b.f0 - a.f0 := by unfold wrap64; omega
  rw [e] at hab
  omega

def slices_SortFunc.f (l : List S71) (_ : Int → Int → Int → Int → Int → Int → Option Int) : Option (List S71) :=
  if (∀ x ∈ l, edgeOk x) ∧ l.length < 1099511627776 then some (edgeSort l) else none

set_option maxHeartbeats 1000000 in
/-- The order of edges, in whatever world: two blocks are laid. -/
theorem edge_cmp (x y : S71) (W : World) : Calls Try.prog 54 (#[.agg (edgeEnc x).toArray, .agg (edgeEnc y).toArray] ++ #[]) W fun e w' => e = .returned (.int .i64 (edgeCmp x y)) ∧ ∃ q os', w' = Go.Sort.grow (W.drewN q) os' := by
  obtain ⟨x0, x1, x2⟩ := x
  obtain ⟨y0, y1, y2⟩ := y
  show Calls Try.prog 54 #[.agg #[.int .i64 x0, .int .i64 x1, .int .i64 x2], .agg #[.int .i64 y0, .int .i64 y1, .int .i64 y2]] W _
  go_enter Try.func54, Try.ntmps54
  go_wp2
  go_ret
  exact ⟨rfl, 0, _, by rw [Go.Sort.alloc_eq_grow, Go.Sort.alloc_eq_grow, Go.Sort.grow_grow]; rfl⟩

theorem slices_SortFunc.calls (P0_ : Nat → Prop) (u9000_ : Value) (l0 : List S71) (a1 : Int → Int → Int → Int → Int → Int → Option Int) (g1 : Nat) (cb1 : Array Value) (en1 : ∀ args W, (callFunc g1 args).run Try.prog W = .ok (.enter g1 args) W) (r : List S71) (w0 w : World) (hB : Below w0.heap.size w0 w) (ho0 : Kd.R k71 71 w w0.heap.size P0_ u9000_ l0) (hF1 : g1 = 54 ∧ cb1 = #[] ∧ a1 = extent_edges_1.f) (h : slices_SortFunc.f l0 a1 = some r) :
    Calls Try.prog 53 #[u9000_, .func (.func g1) #[] cb1] w fun e w' => e = .returned (.tuple #[]) ∧ Kd.R k71 71 w' w0.heap.size (fun k_ => (P0_ k_ ∨ w.heap.size ≤ k_)) u9000_ r ∧ Below w0.heap.size w0 w' ∧ Kept w w' (fun k_ => P0_ k_) := by
  obtain ⟨rfl, rfl, rfl⟩ := hF1
  unfold slices_SortFunc.f at h
  split at h
  · rename_i hp
    obtain rfl := Option.some.inj h
    have := YtapbmkcncjkanaaW.SortR.sortFunc_R (P := Try.prog) (ρ := Try.sort53_ren) edgeOk edgeCmp Try.sort53 k71 71 3 (by omega) edgeEnc (fun w base ok x cs => ⟨fun h => k71_openM h, fun h => by rw [h]; exact k71_mkM w base ok x⟩) rfl (fun _ => rfl) (fun x v hv => by simp [edgeEnc] at hv; rcases hv with rfl | rfl | rfl <;> rfl) Try.isAgg71 Try.sizeOf71 edgeSwo 54 #[] en1 (fun x y _ _ W => edge_cmp x y W) u9000_ l0 hp.1 (by omega) w0 w P0_ hB ho0
    exact this
  · exact absurd h (by simp)
end Go.Proofs.Ytapbmkcncjkanaa.P
