/- slices.SortFunc on a row of the call's own (Kd.R), out of the library's contract at elements of k cells. -/
import Derived.Test.YtapbmkcncjkanaaWd
import Derived.Shelf.SlSortCmp.WholeK
import Derived.Shelf.SlSortCmp.NoneTotal
set_option linter.unusedVariables false
set_option linter.unusedSimpArgs false
set_option linter.unusedSectionVars false
namespace Go.Proofs.YtapbmkcncjkanaaW.SortR
open Go.Shelf Go.RowKit Go.Lib Go.Sort Go.Proofs Go.Proofs.YtapbmkcncjkanaaW.PrintWords Go.Proofs.YtapbmkcncjkanaaW.PrintLast Go.Proofs.YtapbmkcncjkanaaW.PrintMore

section
variable {α : Type} [Inhabited α]

theorem heap_mapBlock (w : World) (g : Nat) (f : Array Value → Array Value) (i : Nat) : (mapBlock w g f).heap[i]? = if g = i then (w.heap[i]?).map (onCells f) else w.heap[i]? := by
  simp only [mapBlock, Array.getElem?_modify]

theorem heap_sortWorldK (enc : α → List Value) (k : Nat) (w : World) (g m : Nat) (d : Array α) (os : Array Obj) (i : Nat) (hi : i < w.heap.size) :
    (sortWorldK enc k w g 0 m d os).heap[i]? = if g = i then (w.heap[i]?).map (onCells (putCells id 0 (flatK enc k d))) else w.heap[i]? := by
  unfold sortWorldK putRowK putRow
  rw [heap_grow_old _ _ (by simpa [mapBlock, Sort.ahead] using hi), heap_mapBlock]
  rfl

theorem sortWorldK_below (enc : α → List Value) (k : Nat) (w : World) (g m : Nat) (d : Array α) (os : Array Obj) : (sortWorldK enc k w g 0 m d os).os = w.os ∧ (sortWorldK enc k w g 0 m d os).tape = w.tape ∧ (sortWorldK enc k w g 0 m d os).output = w.output := ⟨rfl, rfl, rfl⟩

/-- The cells of a row of one's own, element by element. -/
theorem getElem?_flat (enc : α → List Value) (k : Nat) (hlen : ∀ x, (enc x).length = k) (d : Array α) (j : Nat) (hj : j < d.size * k) : (flatK enc k d)[j]? = some ((enc d[j / k]!)[j % k]!) := by
  rw [getElem?_pos _ _ (by simpa using hj), ← getElem!_pos _ _ (by simpa using hj), get_flatK _ _ _ _ hj]
end

section
variable {P : Program} {ρ : Ren} {β : Type} (p : β → Prop) [DecidablePred p] [Inhabited {x // p x}] (cf : β → β → Int)

/-- The elements that are within the bounds. -/
def within (l : List β) : List {x // p x} := l.filterMap fun x => if h : p x then some ⟨x, h⟩ else none
theorem within_val (l : List β) (h : ∀ x ∈ l, p x) : (within p l).map (·.1) = l := by
  induction l with
  | nil => rfl
  | cons x l ih =>
    have hx : p x := h x (by simp)
    simp only [within, List.filterMap_cons, dif_pos hx, List.map_cons]
    exact congrArg (x :: ·) (ih fun y hy => h y (by simp [hy]))
theorem within_length (l : List β) (h : ∀ x ∈ l, p x) : (within p l).length = l.length := by
  have := congrArg List.length (within_val p l h)
  simpa using this
/-- What the library's sort makes of a list. -/
def sorted (l : List β) : List β := (pdq (ltOf fun x y : {x // p x} => cf x.1 y.1) (within p l).toArray 0 (within p l).length (Lib.bitLen (within p l).length) true true).toList.map (·.1)

theorem sorted_perm (hO : SWO (ltOf fun x y : {x // p x} => cf x.1 y.1)) (l : List β) (h : ∀ x ∈ l, p x) : (sorted p cf l).Perm l := by
  have hs := (pdq_sorts (ltOf fun x y : {x // p x} => cf x.1 y.1) hO (within p l).toArray 0 (within p l).toArray.size (Lib.bitLen (within p l).toArray.size) true true (Nat.zero_le _) (Nat.le_refl _) (Or.inl rfl)).1
  have h2 := hs.2.2
  have h1 := hs.1
  simp only [List.size_toArray] at h1 h2
  rw [show (pdq (ltOf fun x y : {x // p x} => cf x.1 y.1) (within p l).toArray 0 (within p l).length (Lib.bitLen (within p l).length) true true).extract 0 (within p l).length = pdq (ltOf fun x y : {x // p x} => cf x.1 y.1) (within p l).toArray 0 (within p l).length (Lib.bitLen (within p l).length) true true from (by rw [Array.extract_eq_self_iff]; exact .inr ⟨rfl, by omega⟩), show (within p l).toArray.extract 0 (within p l).length = (within p l).toArray from by simp] at h2
  have h3 := h2.map (·.1)
  rw [show (within p l).toArray.toList.map (·.1) = l from by simpa using within_val p l h] at h3
  exact h3

theorem sorted_sorted (hO : SWO (ltOf fun x y : {x // p x} => cf x.1 y.1)) (l : List β) : (sorted p cf l).Pairwise (fun a b => ¬ cf b a < 0) := by
  have hs := pdq_sorts (ltOf fun x y : {x // p x} => cf x.1 y.1) hO (within p l).toArray 0 (within p l).toArray.size (Lib.bitLen (within p l).toArray.size) true true (Nat.zero_le _) (Nat.le_refl _) (Or.inl rfl)
  have h1 := hs.1.1
  have h2 := hs.2
  simp only [List.size_toArray] at h1 h2
  unfold sorted
  generalize pdq (ltOf fun x y : {x // p x} => cf x.1 y.1) (within p l).toArray 0 (within p l).length (Lib.bitLen (within p l).length) true true = d at *
  rw [List.pairwise_map, List.pairwise_iff_getElem]
  intro i j hi hj hij
  have := h2 i j (Nat.zero_le _) hij (by simpa [h1] using hj)
  simp only [Array.length_toList] at hi hj
  rw [getElem!_pos d j hj, getElem!_pos d i hi] at this
  simpa [ltOf] using this

set_option maxHeartbeats 2000000 in
theorem sortFunc_R (L : SlLaysF0.n6 P ρ) (d : Kd β) (e k : Nat) (hk0 : 0 < k) (enc : β → List Value) (hM : ∀ w base ok x cs, d.M w base ok x cs ↔ cs = enc x) (hsz : d.sz = k) (hlen : ∀ x, (enc x).length = k) (h1 : ∀ x, ∀ v ∈ enc x, v.oneCell' = true)
    (aE : ∀ w, (isAgg (ρ.t 24)).run P w = .ok true w) (zE : ∀ w, (Go.sizeOf (ρ.t 24)).run P w = .ok k w) (hO : SWO (ltOf fun x y : {x // p x} => cf x.1 y.1)) (g : Nat) (cb : Array Value)
    (eg : ∀ args w, (callFunc g args).run P w = .ok (.enter g args) w)
    (hcmp : ∀ x y, p x → p y → ∀ W, Calls P g (#[.agg (enc x).toArray, .agg (enc y).toArray] ++ cb) W fun e w' => e = .returned (.int .i64 (cf x y)) ∧ ∃ q os', w' = grow (W.drewN q) os')
    (u : Value) (l : List β) (hp : ∀ x ∈ l, p x) (hl : l.length < 4611686018427387904) (w0 w : World) (P0 : Nat → Prop) (hB : Go.RowKit.Below w0.heap.size w0 w) (ho : d.R e w w0.heap.size P0 u l) :
    Calls P (ρ.f 6) #[u, .func (.func g) #[] cb] w fun e' w' => e' = .returned (.tuple #[]) ∧ d.R e w' w0.heap.size (fun k_ => P0 k_ ∨ w.heap.size ≤ k_) u (sorted p cf l) ∧ Go.RowKit.Below w0.heap.size w0 w' ∧ Kept w w' (fun k_ => P0 k_) := by
  have hperm := sorted_perm p cf hO l hp
  obtain ⟨h0, inner, hown, hr⟩ := ho
  rcases hown.2 with ⟨rfl, hn⟩ | ⟨b, cap, cur, rfl, hb, hh, hnc, hcm, hcs, htk⟩
  · have hnil : l = [] := List.eq_nil_of_length_eq_zero hn
    subst hnil
    have hs : sorted p cf [] = [] := List.eq_nil_of_length_eq_zero (by rw [hperm.length_eq]; rfl)
    rw [hs]
    refine (AnyF.slices_SortFunc_none L none 0 _ w).mono ?_
    rintro e' w' ⟨rfl, rfl⟩
    exact ⟨rfl, Kd.R_nil _ _ _ _ _, hB, Kept.refl _ _⟩
  · have hlw : (within p l).length = l.length := within_length p l hp
    have hblk : b < w.heap.size := (Array.getElem?_eq_some_iff.1 hh).1
    have hin : inner.length = l.length * k := by rw [hown.1, hsz]
    -- the row's cells, element by element
    have hcell : ∀ j, j < l.length * k → ∀ (hjl : j / k < l.length), inner[j]? = some ((enc l[j / k])[j % k]!) := by
      intro j hj hjl
      have h2 := (hM _ _ _ _ _).1 (hr.2 (j / k) _ (List.getElem?_eq_getElem hjl))
      rw [hsz] at h2
      have h3 := congrArg (fun z => z[j % k]?) h2
      have hmod : j % k < k := Nat.mod_lt _ hk0
      simp only [List.getElem?_take, List.getElem?_drop, if_pos hmod] at h3
      rw [show j / k * k + j % k = j from by rw [Nat.mul_comm]; exact Nat.div_add_mod j k] at h3
      rw [h3, List.getElem?_eq_getElem (by rw [hlen]; exact hmod), getElem!_pos _ _ (by rw [hlen]; exact hmod)]
    have hget : ∀ j (hj : j < l.length), ((within p l).toArray[j]!).1 = l[j] := by
      intro j hj
      rw [getElem!_pos _ j (by simpa [hlw] using hj)]
      have h5 : ((within p l).map (·.1))[j]? = l[j]? := by rw [within_val p l hp]
      rw [List.getElem?_map, List.getElem?_eq_getElem (by rw [hlw]; exact hj), List.getElem?_eq_getElem hj] at h5
      simpa using h5
    have hH : HoldsK (fun x : {x // p x} => enc x.1) k w b 0 (within p l).toArray := by
      intro j hj
      rw [size_flatK, List.size_toArray, hlw] at hj
      have hjl : j / k < l.length := Nat.div_lt_of_lt_mul (by rwa [Nat.mul_comm] at hj)
      have hc := hown.cells (g := b) (by simp [Value.ownBlock]) j _ (hcell j hj hjl)
      rw [add_plain] at hc
      constructor
      · rw [Nat.zero_add, hc, get_flatK _ _ _ _ (by rw [List.size_toArray, hlw]; exact hj), hget _ hjl]
        rfl
      · simp [World.frozen?, hh]
    have hcl : CmpLays P g cb (fun x : {x // p x} => enc x.1) k (fun x y => cf x.1 y.1) b 0 (within p l).toArray.size w := by
      intro m os dk _ x y
      exact hcmp x.1 y.1 x.2 y.2 _
    have hcon := AnyQ.slices_SortFunc_eq L k aE zE (fun x : {x // p x} => enc x.1) (fun x => hlen x.1) (fun x => h1 x.1) (fun x y => cf x.1 y.1) hO g cb b 0 cap (within p l).toArray w eg hcl hH hblk (by simpa [hlw] using hl)
    rw [show (within p l).toArray.size = l.length from by simpa using hlw] at hcon
    refine hcon.mono ?_
    rintro e' w' ⟨rfl, n, os, rfl⟩
    have hpd : (pdq (ltOf fun x y : {x // p x} => cf x.1 y.1) (within p l).toArray 0 l.length (Lib.bitLen l.length) true true).toList.map (·.1) = sorted p cf l := by unfold sorted; rw [hlw]
    generalize hd' : pdq (ltOf fun x y : {x // p x} => cf x.1 y.1) (within p l).toArray 0 l.length (Lib.bitLen l.length) true true = d' at *
    have hsl : (sorted p cf l).length = l.length := hperm.length_eq
    have hds : d'.size = l.length := by rw [← hsl, ← hpd]; simp
    have hle := size_sortWorldK_c (fun x : {x // p x} => enc x.1) k w b 0 n d' os
    have hgb : (sortWorldK (fun x : {x // p x} => enc x.1) k w b 0 n d' os).heap[b]? = some (.cells (putCells id 0 (flatK (fun x : {x // p x} => enc x.1) k d') cur) e (0, 0)) := by
      rw [heap_sortWorldK _ _ _ _ _ _ _ _ hblk, if_pos rfl, hh]; rfl
    have hcurs : l.length * k ≤ cur.size := by rw [hcs, hsz]; exact Nat.mul_le_mul_right _ hnc
    refine ⟨rfl, ⟨fun k_ hk_ => .inl (h0 k_ hk_), (flatK (fun x : {x // p x} => enc x.1) k d').toList, ⟨by simp [hds, hsz, hsl], .inr ⟨b, cap, _, by rw [hsl], hb, hgb, by rw [hsl]; exact hnc, hcm, by simp [putCells, hcs], ?_⟩⟩, by simp [hds, hsz, hsl], ?_⟩, ⟨?_, ?_, ?_, Nat.le_trans hB.size hle, ?_⟩, hle, ?_⟩
    · apply List.ext_getElem?
      intro j
      rw [hsl, hsz, List.getElem?_take]
      by_cases hj : j < l.length * k
      · rw [if_pos hj, Array.getElem?_toList, Array.getElem?_toList, putCells, Array.getElem?_mapIdx, getElem?_flat (fun x : {x // p x} => enc x.1) k (fun x => hlen x.1) _ _ (by rw [hds]; exact hj), Array.getElem?_eq_getElem (by omega)]
        simp only [Option.map_some, size_flatK, hds, Nat.zero_le, Nat.zero_add, true_and, if_pos hj, Nat.sub_zero]
        rw [get_flatK _ _ _ _ (by rw [hds]; exact hj)]
        rfl
      · rw [if_neg hj, Array.getElem?_toList, Array.getElem?_eq_none (by rw [size_flatK, hds]; omega)]
    · intro j x hx
      have hjl : j < l.length := by rw [← hsl]; exact (List.getElem?_eq_some_iff.1 hx).1
      rw [hM]
      apply List.ext_getElem?
      intro i
      rw [hsz, List.getElem?_take]
      have hxe : x = d'[j]!.1 := by
        rw [← hpd, List.getElem?_map, Array.getElem?_toList, Array.getElem?_eq_getElem (by omega)] at hx
        rw [getElem!_pos d' j (by omega)]
        simpa using hx.symm
      by_cases hi : i < k
      · have hlt : j * k + i < d'.size * k := by
          have := Nat.mul_le_mul_right k (show j + 1 ≤ d'.size by omega)
          rw [Nat.add_mul, Nat.one_mul] at this
          omega
        have e1 : (j * k + i) / k = j := by rw [Nat.mul_comm, Nat.mul_add_div hk0, Nat.div_eq_of_lt hi, Nat.add_zero]
        have e2 : (j * k + i) % k = i := by rw [Nat.mul_comm, Nat.mul_add_mod, Nat.mod_eq_of_lt hi]
        rw [if_pos hi, List.getElem?_drop, Array.getElem?_toList, getElem?_flat (fun x : {x // p x} => enc x.1) k (fun x => hlen x.1) _ _ hlt, e1, e2, ← hxe, List.getElem?_eq_getElem (by rw [hlen]; exact hi), getElem!_pos _ _ (by rw [hlen]; exact hi)]
      · rw [if_neg hi, List.getElem?_eq_none (by rw [hlen]; omega)]
    · exact hB.os
    · exact hB.tape
    · exact hB.output
    · intro i hi
      have hiw : i < w.heap.size := Nat.lt_of_lt_of_le hi hB.size
      rw [heap_sortWorldK _ _ _ _ _ _ _ _ hiw, if_neg (by omega)]
      exact hB.block i hi
    · intro i hi hn
      rw [heap_sortWorldK _ _ _ _ _ _ _ _ hi, if_neg]
      rintro rfl
      exact hn (h0 _ rfl)
end
end Go.Proofs.YtapbmkcncjkanaaW.SortR
