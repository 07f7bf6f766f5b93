/- What a row's argument holds, told by kinds: whole numbers, bools, strings, structs and slices of them, read in memory. -/
import Derived.Test.YtapbmkcncjkanaaWd
import Derived.WalkKit
import Derived.ProofKit
import Derived.OpenShut
import Derived.ShutString
import Derived.ChangeOld
import Derived.Below
import Derived.SizedLaws
import Derived.Deep.Slices
set_option linter.unusedVariables false
set_option linter.unusedSimpArgs false
namespace Go.Proofs.YtapbmkcncjkanaaW.Open
open Go.ChangeShapes Go.WideShapes Go.ChangeAt Go.RowKit Go.Deep Go.Proofs.YtapbmkcncjkanaaW.PrintWords

/-- A value of type t that reads as data is one of the kind d; wf: what is known of it. -/
def Opens {α : Type} (P : Program) (t : TypeId) (d : Kd α) (wf : α → Prop) : Prop :=
  P.cellsOf t = d.sz ∧ ∀ {H : Type} (enc : TypeId × Value → H) (w : World) (base : Nat) (spare : Nat → Bool) (held : Bool) (fuel : Nat) (cs : List Value) (x : DataW H × List MemPlace),
    DataW.trod enc P w base spare held fuel t cs = some x → ∃ y : α, d.K w y cs ∧ wf y

theorem addr_add_add (a : Addr) (i j : Nat) : (a.add i).add j = a.add (i + j) := PrintWords.add_add a i j
theorem Opens.int {P : Program} {t : TypeId} {k : IntKind} (ht : P.underlying t = some (.int k)) (hc : P.cellsOf t = 1) : Opens P t (Kd.int k) (fun x => (Lit.int k x).wf = true) :=
  ⟨hc, fun enc w base spare held fuel cs x h => by
    obtain ⟨n, rfl, _, hw⟩ := DataW.trod_int ht h
    exact ⟨n, rfl, hw⟩⟩
theorem Opens.bool {P : Program} {t : TypeId} (ht : P.underlying t = some .bool) (hc : P.cellsOf t = 1) : Opens P t Kd.bool (fun _ => True) :=
  ⟨hc, fun enc w base spare held fuel cs x h => by
    obtain ⟨n, rfl, _⟩ := DataW.trod_bool ht h
    exact ⟨n, rfl, trivial⟩⟩
theorem Opens.string {P : Program} {t : TypeId} (ht : P.underlying t = some .string) (hc : P.cellsOf t = 1) : Opens P t Kd.string (fun s => s.size ≤ maxLen) :=
  ⟨hc, fun enc w base spare held fuel cs x h => by
    obtain ⟨s, rfl, _, hs⟩ := DataW.trod_string ht h
    exact ⟨s, rfl, hs⟩⟩
theorem Opens.weaken {α : Type} {P : Program} {t : TypeId} {d : Kd α} {wf wf' : α → Prop} (h : Opens P t d wf) (hw : ∀ x, wf x → wf' x) : Opens P t d wf' :=
  ⟨h.1, fun enc w base spare held fuel cs x hx => by
    obtain ⟨y, h1, h2⟩ := h.2 enc w base spare held fuel cs x hx
    exact ⟨y, h1, hw y h2⟩⟩
/-- A Lean structure by its fields. -/
theorem Opens.iso {α β : Type} {P : Program} {t : TypeId} {d : Kd α} {wf : α → Prop} (f : β → α) (g : α → β) (hfg : ∀ x, f (g x) = x) (h : Opens P t d wf) : Opens P t (Kd.iso d f) (fun y => wf (f y)) :=
  ⟨h.1, fun enc w base spare held fuel cs x hx => by
    obtain ⟨y, h1, h2⟩ := h.2 enc w base spare held fuel cs x hx
    exact ⟨g y, by show d.K w (f (g y)) cs; rw [hfg]; exact h1, by show wf (f (g y)); rw [hfg]; exact h2⟩⟩

/-- Fields in line, from an offset on. -/
structure OpensF {α : Type} (P : Program) (off : Nat) (fs : List Field) (d : Kd α) (wf : α → Prop) : Prop where
  out : ∀ {H : Type} (enc : TypeId × Value → H) (w : World) (base : Nat) (spare : Nat → Bool) (held : Bool) (fuel : Nat) (cs : List Value), cs.length = off + d.sz →
    (∀ f ∈ fs, ∃ x, DataW.trod enc P w base spare held fuel f.type ((cs.drop f.offset).take (P.cellsOf f.type)) = some x) → ∃ y : α, d.K w y (cs.drop off) ∧ wf y
theorem OpensF.one {α : Type} {P : Program} {off : Nat} {f : Field} {d : Kd α} {wf : α → Prop} {t : TypeId} (h : Opens P t d wf) (ht : f.type = t) (ho : f.offset = off) : OpensF P off [f] d wf := by
  subst ht
  constructor
  intro H enc w base spare held fuel cs hl hf
  obtain ⟨x, hx⟩ := hf f List.mem_cons_self
  obtain ⟨y, h1, h2⟩ := h.2 enc w base spare held fuel _ x hx
  refine ⟨y, ?_, h2⟩
  rw [h.1, ho, List.take_of_length_le (by rw [List.length_drop]; omega)] at h1
  exact h1
theorem OpensF.cons {α β : Type} {P : Program} {off : Nat} {f : Field} {fs : List Field} {a : Kd α} {b : Kd β} {wa : α → Prop} {wb : β → Prop} {t : TypeId} (h : Opens P t a wa) (ht : f.type = t) (ho : f.offset = off) (hs : OpensF P (off + a.sz) fs b wb) : OpensF P off (f :: fs) (Kd.pair a b) (fun x => wa x.1 ∧ wb x.2) := by
  subst ht
  constructor
  intro H enc w base spare held fuel cs hl hf
  have hsz : (Kd.pair a b).sz = a.sz + b.sz := rfl
  obtain ⟨x, hx⟩ := hf f List.mem_cons_self
  obtain ⟨y, h1, h2⟩ := h.2 enc w base spare held fuel _ x hx
  obtain ⟨z, h3, h4⟩ := hs.out enc w base spare held fuel cs (by omega) (fun g hg => hf g (List.mem_cons_of_mem _ hg))
  rw [h.1, ho] at h1
  refine ⟨(y, z), ⟨_, _, ?_, h1, h3⟩, h2, h4⟩
  rw [← List.drop_drop, List.take_append_drop]
theorem Opens.struct {α : Type} {P : Program} {t : TypeId} {fs : Array Field} {d : Kd α} {wf : α → Prop} (ht : P.underlying t = some (.struct fs)) (hc : P.cellsOf t = d.sz) (h : OpensF P 0 fs.toList d wf) : Opens P t d wf := by
  refine ⟨hc, fun enc w base spare held fuel cs x hx => ?_⟩
  obtain ⟨xs, n, _, _, hl, hlen, hf⟩ := DataW.trod_struct ht hx
  have := h.out enc w base spare held n cs (by omega) (fun f hfm => by
    obtain ⟨i, hi, he⟩ := List.getElem_of_mem hfm
    have h1 := hf i f (by rw [← Array.getElem?_toList, List.getElem?_eq_getElem hi, he])
    rw [List.getElem?_eq_getElem (by simpa [hlen] using hi)] at h1
    exact ⟨_, h1⟩)
  simpa using this

/-- A slice of elements of a kind. -/
theorem Opens.slice {α : Type} {P : Program} {t e : TypeId} {d : Kd α} {wf : α → Prop} (e' : Nat) (ht : P.underlying t = some (.slice e)) (hc : P.cellsOf t = 1) (hd : Opens P e d wf) : Opens P t (Kd.slice e' d) (fun xs => ∀ y ∈ xs, wf y) := by
  refine ⟨hc, fun enc w base spare held fuel cs x h => ?_⟩
  rcases open_slice ht h with ⟨rfl, _⟩ | ⟨a, len, cap, m, n, D, Pl, rfl, hb, hl, hm, hmm, _, hel⟩
  · exact ⟨[], ⟨none, 0, rfl, Nat.le_refl _, Kd.C_nil _ _⟩, fun y hy => by simp at hy⟩
  · have hlm : len ≤ m := by rw [hmm]; split <;> omega
    have hx : ∀ i : Fin len, ∃ y : α, (∃ c, c.length = d.sz ∧ d.K w y c ∧ ∀ j u, c[j]? = some u → w.cell? (a.add (i.1 * d.sz + j)) = some u) ∧ wf y := fun i => by
      obtain ⟨cs', hcs, htr⟩ := hel i.1 (by have := i.2; omega)
      obtain ⟨y, h1, h2⟩ := hd.2 enc w base spare held n cs' _ htr
      obtain ⟨_, h4, h5⟩ := World.cells?_some hcs
      rw [hd.1] at h4 h5
      refine ⟨y, ⟨cs', h4, h1, fun j u hj => ?_⟩, h2⟩
      have hj' : j < d.sz := by rw [← h4]; exact (List.getElem?_eq_some_iff.1 hj).1
      have h6 := h5 j hj'
      rw [hj, addr_add_add] at h6
      exact h6
    refine ⟨List.ofFn fun i => (hx i).choose, ⟨some a, cap, by simp, by simpa using hl, by simp, ?_, fun _ => ⟨a, rfl, fun j p hj => ?_⟩⟩, fun y hy => ?_⟩
    · simp only [maxLen] at hm
      simp
      omega
    · obtain ⟨hj1, hj2⟩ := List.getElem?_eq_some_iff.1 hj
      rw [List.getElem_ofFn] at hj2
      rw [List.length_ofFn] at hj1
      rw [← hj2]
      exact (hx ⟨j, hj1⟩).choose_spec.1
    · obtain ⟨i, hi⟩ := List.mem_ofFn.1 hy
      rw [← hi]
      exact (hx i).choose_spec.2
end Go.Proofs.YtapbmkcncjkanaaW.Open
