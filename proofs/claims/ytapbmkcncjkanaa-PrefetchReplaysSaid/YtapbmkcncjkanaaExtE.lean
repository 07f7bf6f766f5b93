/- Sets of integers that are given as lists of spans: membership, normal lists, and that a set has at most one. What extent.edges and extent.merge compute: the normal list of the integers for which a rule says so. extent.merge: the normal list of the integers for which a rule says so, given in which lists they are. extent.merge, whole: from the first edge to the last. extent.Normal, Union, Intersect and Subtract: the normal lists of the sets. Reads of lists of spans by an index. -/
import Derived.Test.YtapbmkcncjkanaaP0
import Derived.Test.YtapbmkcncjkanaaExtS
import Derived.Test.YtapbmkcncjkanaaP6
import Derived.Test.YtapbmkcncjkanaaP7
import Derived.Test.YtapbmkcncjkanaaP7
import Derived.Test.YtapbmkcncjkanaaP7
import Derived.Test.YtapbmkcncjkanaaP7
import Derived.Test.YtapbmkcncjkanaaP7
set_option linter.unusedVariables false
set_option linter.unusedSimpArgs false
namespace Go.Proofs.Ytapbmkcncjkanaa.P
open Go.RowKit Go.Proofs.YtapbmkcncjkanaaW.PrintWords Go.Proofs.YtapbmkcncjkanaaW.PrintLast Go.Proofs.YtapbmkcncjkanaaW.PrintMore

abbrev Sp := S25
/-- A span has integers. -/
def hasS (s : Sp) : Bool := decide (0 ≤ s.f0 ∧ 1 ≤ s.f1 ∧ s.f0 + s.f1 ≤ 1125899906842624)
theorem hasS_iff (s : Sp) : hasS s = true ↔ 0 ≤ s.f0 ∧ 1 ≤ s.f1 ∧ s.f0 + s.f1 ≤ 1125899906842624 := by simp [hasS]
/-- A span has an integer. -/
def memS (s : Sp) (n : Int) : Bool := hasS s && decide (s.f0 ≤ n ∧ n < s.f0 + s.f1)
theorem memS_iff (s : Sp) (n : Int) : memS s n = true ↔ hasS s = true ∧ s.f0 ≤ n ∧ n < s.f0 + s.f1 := by simp [memS]
/-- A list has an integer. -/
def inL (l : List Sp) (n : Int) : Bool := l.any (memS · n)
theorem inL_nil (n : Int) : inL [] n = false := rfl
theorem inL_cons (s : Sp) (l : List Sp) (n : Int) : inL (s :: l) n = (memS s n || inL l n) := rfl
theorem inL_append (l m : List Sp) (n : Int) : inL (l ++ m) n = (inL l n || inL m n) := by simp [inL, List.any_append]
theorem inL_iff (l : List Sp) (n : Int) : inL l n = true ↔ ∃ s ∈ l, hasS s = true ∧ s.f0 ≤ n ∧ n < s.f0 + s.f1 := by
  simp only [inL, List.any_eq_true, memS_iff]
theorem inL_range (l : List Sp) (n : Int) (h : inL l n = true) : 0 ≤ n ∧ n < 1125899906842624 := by
  obtain ⟨s, _, hs, h1, h2⟩ := (inL_iff l n).1 h
  have := (hasS_iff s).1 hs
  omega
/-- A list is normal. -/
def Norm (l : List Sp) : Prop := (∀ s ∈ l, hasS s = true) ∧ l.Pairwise (fun a b => a.f0 + a.f1 < b.f0)
theorem Norm.nil : Norm [] := ⟨fun _ h => by simp at h, List.Pairwise.nil⟩
theorem Norm.tail {a : Sp} {l : List Sp} (h : Norm (a :: l)) : Norm l := ⟨fun s hs => h.1 s (List.mem_cons_of_mem _ hs), (List.pairwise_cons.1 h.2).2⟩
theorem Norm.head {a : Sp} {l : List Sp} (h : Norm (a :: l)) : hasS a = true := h.1 a List.mem_cons_self
theorem Norm.gt {a : Sp} {l : List Sp} (h : Norm (a :: l)) {n : Int} (hn : inL l n = true) : a.f0 + a.f1 < n := by
  obtain ⟨s, hs, _, h1, _⟩ := (inL_iff l n).1 hn
  have := (List.pairwise_cons.1 h.2).1 s hs
  omega
theorem Norm.snoc {l : List Sp} {a : Sp} (h : Norm l) (ha : hasS a = true) (hl : ∀ s ∈ l, s.f0 + s.f1 < a.f0) : Norm (l ++ [a]) := by
  refine ⟨fun s hs => ?_, ?_⟩
  · rcases List.mem_append.1 hs with hs | hs
    · exact h.1 s hs
    · rw [List.mem_singleton.1 hs]; exact ha
  · rw [List.pairwise_append]
    exact ⟨h.2, List.pairwise_singleton _ _, fun s hs b hb => by rw [List.mem_singleton.1 hb]; exact hl s hs⟩
theorem Norm.min {a : Sp} {l : List Sp} (h : Norm (a :: l)) {n : Int} (hn : inL (a :: l) n = true) : a.f0 ≤ n := by
  have ha := (hasS_iff a).1 h.head
  rw [inL_cons, Bool.or_eq_true] at hn
  rcases hn with hn | hn
  · exact ((memS_iff a n).1 hn).2.1
  · have := h.gt hn; omega
/-- A set has at most one normal list. -/
theorem Norm.unique : ∀ {l m : List Sp}, Norm l → Norm m → (∀ n, inL l n = inL m n) → l = m
  | [], [], _, _, _ => rfl
  | [], b :: m, _, hm, h => by
    have hb := (hasS_iff b).1 hm.head
    have := h b.f0
    rw [inL_nil, inL_cons, (memS_iff b b.f0).2 ⟨hm.head, by omega, by omega⟩] at this
    simp at this
  | a :: l, [], hl, _, h => by
    have ha := (hasS_iff a).1 hl.head
    have := h a.f0
    rw [inL_nil, inL_cons, (memS_iff a a.f0).2 ⟨hl.head, by omega, by omega⟩] at this
    simp at this
  | a :: l, b :: m, hl, hm, h => by
    have ha := (hasS_iff a).1 hl.head
    have hb := (hasS_iff b).1 hm.head
    have ia : inL (a :: l) a.f0 = true := by rw [inL_cons, (memS_iff a a.f0).2 ⟨hl.head, by omega, by omega⟩]; rfl
    have ib : inL (b :: m) b.f0 = true := by rw [inL_cons, (memS_iff b b.f0).2 ⟨hm.head, by omega, by omega⟩]; rfl
    have e0 : a.f0 = b.f0 := by
      have h1 := hm.min (n := a.f0) (by rw [← h]; exact ia)
      have h2 := hl.min (n := b.f0) (by rw [h]; exact ib)
      omega
    have noend : ∀ (c : Sp) (r : List Sp), Norm (c :: r) → inL (c :: r) (c.f0 + c.f1) = false := by
      intro c r hc
      cases hx : inL (c :: r) (c.f0 + c.f1) with
      | false => rfl
      | true =>
        exfalso
        rw [inL_cons, Bool.or_eq_true] at hx
        rcases hx with hx | hx
        · have := ((memS_iff c _).1 hx).2.2; omega
        · have := hc.gt hx; omega
    have e1 : a.f1 = b.f1 := by
      rcases Int.lt_trichotomy a.f1 b.f1 with h1 | h1 | h1
      · have h2 := noend a l hl
        rw [h, inL_cons, (memS_iff b _).2 ⟨hm.head, by omega, by omega⟩] at h2
        simp at h2
      · exact h1
      · have h2 := noend b m hm
        rw [← h, inL_cons, (memS_iff a _).2 ⟨hl.head, by omega, by omega⟩] at h2
        simp at h2
    have e : a = b := by cases a; cases b; simp_all
    subst e
    refine congrArg (a :: ·) (Norm.unique hl.tail hm.tail fun n => ?_)
    have hn := h n
    rw [inL_cons, inL_cons] at hn
    by_cases hx : memS a n = true
    · have h3 := ((memS_iff a n).1 hx).2.2
      have q1 : inL l n = false := by
        cases hc : inL l n with
        | false => rfl
        | true =>
          have := hl.gt hc
          omega
      have q2 : inL m n = false := by
        cases hc : inL m n with
        | false => rfl
        | true =>
          have := hm.gt hc
          omega
      rw [q1, q2]
    · rw [Bool.not_eq_true] at hx
      rwa [hx, Bool.false_or, Bool.false_or] at hn
/-- The normal list of a set, if it has one. -/
noncomputable def canon (g : Int → Bool) : List Sp := by
  classical exact if h : ∃ l, Norm l ∧ ∀ n, inL l n = g n then h.choose else []
theorem canon_spec {g : Int → Bool} (h : ∃ l, Norm l ∧ ∀ n, inL l n = g n) : Norm (canon g) ∧ ∀ n, inL (canon g) n = g n := by
  unfold canon
  rw [dif_pos h]
  exact h.choose_spec
theorem canon_eq {g : Int → Bool} {l : List Sp} (hl : Norm l) (hm : ∀ n, inL l n = g n) : canon g = l := by
  have h := canon_spec ⟨l, hl, hm⟩
  exact Norm.unique h.1 hl fun n => by rw [h.2, hm]
/-- The normal list with a list's own integers. -/
noncomputable def nrm (l : List Sp) : List Sp := canon (inL l)
theorem nrm_of_Norm {l : List Sp} (h : Norm l) : nrm l = l := canon_eq h fun _ => rfl
end Go.Proofs.Ytapbmkcncjkanaa.P
namespace Go.Proofs.Ytapbmkcncjkanaa.P
open Go.RowKit Go.Proofs.YtapbmkcncjkanaaW.PrintWords Go.Proofs.YtapbmkcncjkanaaW.PrintLast Go.Proofs.YtapbmkcncjkanaaW.PrintMore

abbrev Ed := S71

theorem sound_eq (a b : Int) : extent_sound.f a b = some (hasS ⟨a, b⟩) := by
  unfold extent_sound.f hasS
  by_cases h1 : a ≥ 0
  · rw [if_pos h1]
    by_cases h2 : b ≥ 1
    · rw [if_pos h2]
      by_cases h3 : b ≤ 1125899906842624
      · rw [if_pos h3]
        have e : wrap64 (1125899906842624 - b) = 1125899906842624 - b := by unfold wrap64; omega
        rw [e]
        refine congrArg some ?_
        rw [decide_eq_decide]
        simp only
        omega
      · rw [if_neg h3]
        exact congrArg some (decide_eq_false (by simp only; omega)).symm
    · rw [if_neg h2]
      exact congrArg some (decide_eq_false (by simp only; omega)).symm
  · rw [if_neg h1]
    exact congrArg some (decide_eq_false (by simp only; omega)).symm

def edgesOf (j : Int) (l : List Sp) : List Ed := (l.filter hasS).flatMap fun s => [⟨s.f0, j, 1⟩, ⟨s.f0 + s.f1, j, -1⟩]
def edgesFrom (j : Int) : List (List Sp) → List Ed
  | [] => []
  | l :: ls => edgesOf j l ++ edgesFrom (j + 1) ls
def tot (ls : List (List Sp)) : Nat := (ls.map List.length).sum

theorem edgesOf_cons (j : Int) (s : Sp) (l : List Sp) : edgesOf j (s :: l) = (if hasS s = true then [⟨s.f0, j, 1⟩, ⟨s.f0 + s.f1, j, -1⟩] else []) ++ edgesOf j l := by
  unfold edgesOf
  rw [List.filter_cons]
  split <;> simp
theorem edgesOf_length (j : Int) (l : List Sp) : (edgesOf j l).length ≤ 2 * l.length := by
  induction l with
  | nil => simp [edgesOf]
  | cons s l ih =>
    rw [edgesOf_cons, List.length_append, List.length_cons]
    split <;> simp <;> omega
theorem edgesFrom_length (ls : List (List Sp)) : ∀ j, (edgesFrom j ls).length ≤ 2 * tot ls := by
  induction ls with
  | nil => intro j; simp [edgesFrom]
  | cons l ls ih =>
    intro j
    have h1 := edgesOf_length j l
    have h2 := ih (j + 1)
    simp only [edgesFrom, List.length_append, tot, List.map_cons, List.sum_cons] at *
    omega
theorem edgesOf_mem {j : Int} {l : List Sp} {e : Ed} (h : e ∈ edgesOf j l) : edgeOk e ∧ e.f1 = j ∧ (e.f2 = 1 ∨ e.f2 = -1) := by
  simp only [edgesOf, List.mem_flatMap, List.mem_filter] at h
  obtain ⟨s, ⟨_, hs⟩, he⟩ := h
  have hs := (hasS_iff s).1 hs
  simp only [List.mem_cons, List.not_mem_nil, or_false] at he
  unfold edgeOk
  rcases he with rfl | rfl
  · exact ⟨⟨by simp only; omega, by simp only; omega⟩, rfl, .inl rfl⟩
  · exact ⟨⟨by simp only; omega, by simp only; omega⟩, rfl, .inr rfl⟩
theorem edgesFrom_mem {ls : List (List Sp)} : ∀ {j : Int} {e : Ed}, e ∈ edgesFrom j ls → edgeOk e ∧ (j ≤ e.f1 ∧ e.f1 < j + ls.length) ∧ (e.f2 = 1 ∨ e.f2 = -1) := by
  induction ls with
  | nil => intro j e h; simp [edgesFrom] at h
  | cons l ls ih =>
    intro j e h
    rw [edgesFrom, List.mem_append] at h
    rcases h with h | h
    · obtain ⟨h1, h2, h3⟩ := edgesOf_mem h
      exact ⟨h1, ⟨by omega, by rw [List.length_cons]; omega⟩, h3⟩
    · obtain ⟨h1, h2, h3⟩ := ih h
      exact ⟨h1, ⟨by omega, by rw [List.length_cons]; omega⟩, h3⟩

theorem wrap_succ (i : Nat) (h : i < 9223372036854775807) : wrap64 ((i : Int) + 1) = ((i + 1 : Nat) : Int) := by unfold wrap64; omega

theorem edges_l1 (ls : List (List Sp)) (N j : Int) (hj : j < 9223372036854775807) (hj0 : 0 ≤ j) (l : List Sp) (hl : l.length < 1099511627776) (r : List Ed) : ∀ (suf pre : List Sp) (out : List Ed), l = pre ++ suf → out.length + 2 * suf.length < 4398046511104 →
    Ev (fun k => extent_edges.l0 k (out ++ edgesOf j suf) ls N (j + 1)) r → Ev (fun k => extent_edges.l1 k out j ls N j l (l.length : Int) (pre.length : Int)) r := by
  intro suf
  induction suf with
  | nil =>
    intro pre out hpre _ h
    refine Ev.step (f := fun k => extent_edges.l0 k out ls N (j + 1)) (fun k => ?_) (by simpa [edgesOf] using h)
    have hlen : (pre.length : Int) = l.length := by rw [hpre]; simp
    simp only [extent_edges.l1]
    rw [if_neg (by omega), show wrap64 (j + 1) = j + 1 by unfold wrap64; omega]
  | cons s suf ih =>
    intro pre out hpre hlen h
    have hl2 : l.length = pre.length + (suf.length + 1) := by rw [hpre]; simp
    have hget : rd_T25 l (pre.length : Int) = s := by
      unfold rd_T25
      rw [Int.toNat_natCast, hpre]
      simp [List.getD_eq_getElem?_getD]
    rw [List.length_cons] at hlen
    have ih' := ih (pre ++ [s]) (out ++ (if hasS s = true then [⟨s.f0, j, 1⟩, ⟨s.f0 + s.f1, j, -1⟩] else [])) (by simp [hpre]) (by rw [List.length_append]; split <;> simp <;> omega)
      (by rw [List.append_assoc, ← edgesOf_cons]; exact h)
    refine Ev.step (fun k => ?_) ih'
    simp only [extent_edges.l1]
    rw [if_pos (by omega), if_pos (by omega), if_pos (by omega), hget, sound_eq]
    simp only [Option.bind_some]
    rw [wrap_succ _ (by omega)]
    by_cases hs : hasS s = true
    · have hs' := (hasS_iff s).1 hs
      rw [show hasS (⟨s.f0, s.f1⟩ : Sp) = hasS s from rfl, if_pos hs, if_pos (by simp; omega), if_pos hs, show wrap64 (s.f0 + s.f1) = s.f0 + s.f1 by unfold wrap64; omega]
      simp
    · rw [show hasS (⟨s.f0, s.f1⟩ : Sp) = hasS s from rfl, if_neg hs, if_neg hs]
      simp

theorem edges_l0 (ls : List (List Sp)) (hn : ls.length < 1000000) (hls : ∀ l ∈ ls, l.length < 1099511627776) : ∀ (suf pre : List (List Sp)) (out : List Ed), ls = pre ++ suf → out.length + 2 * tot suf < 1099511627776 → (∀ x ∈ out, edgeOk x) →
    Ev (fun k => extent_edges.l0 k out ls (ls.length : Int) (pre.length : Int)) (edgeSort (out ++ edgesFrom pre.length suf)) := by
  intro suf
  induction suf with
  | nil =>
    intro pre out hpre hlen hok
    refine Ev.step (f := fun k => some (edgeSort out)) (fun k => ?_) (by simpa [edgesFrom] using Ev.now (edgeSort out))
    have hl : (pre.length : Int) = ls.length := by rw [hpre]; simp
    simp only [extent_edges.l0]
    rw [if_neg (by omega)]
    unfold slices_SortFunc.f
    rw [if_pos ⟨hok, by simp [tot] at hlen; omega⟩]
    rfl
  | cons l suf ih =>
    intro pre out hpre hlen hok
    have hl2 : ls.length = pre.length + (suf.length + 1) := by rw [hpre]; simp
    have hget : rd_L4 ls (pre.length : Int) = l := by
      unfold rd_L4
      rw [Int.toNat_natCast, hpre]
      simp [List.getD_eq_getElem?_getD]
    have ht : tot (l :: suf) = l.length + tot suf := by simp [tot]
    have hel := edgesOf_length (pre.length : Int) l
    have ih' := ih (pre ++ [l]) (out ++ edgesOf pre.length l) (by simp [hpre]) (by rw [List.length_append]; omega)
      (fun x hx => by rcases List.mem_append.1 hx with hx | hx; · exact hok x hx
                      · exact (edgesOf_mem hx).1)
    have h1 := edges_l1 ls ls.length pre.length (by omega) (by omega) l (hls l (by rw [hpre]; simp)) (edgeSort (out ++ edgesFrom pre.length (l :: suf))) l [] out rfl (by omega) (by
      have e : ((pre ++ [l]).length : Int) = (pre.length : Int) + 1 := by simp
      rw [e] at ih'
      rw [edgesFrom, ← List.append_assoc]
      exact ih')
    refine Ev.step (fun k => ?_) h1
    simp only [extent_edges.l0]
    rw [if_pos (by omega), if_pos (by omega), if_pos (by omega), hget]
    rfl

theorem le_tot {l : List Sp} : ∀ {ls : List (List Sp)}, l ∈ ls → l.length ≤ tot ls
  | m :: ls, h => by
    have e : tot (m :: ls) = m.length + tot ls := by simp [tot]
    rcases List.mem_cons.1 h with rfl | h
    · omega
    · have := le_tot h; omega

theorem edges_ev (ls : List (List Sp)) (hn : ls.length < 1000000) (ht : tot ls < 274877906944) : Ev (fun k => extent_edges.f k ls) (edgeSort (edgesFrom 0 ls)) := by
  have hls : ∀ l ∈ ls, l.length < 1099511627776 := fun l hl => by
    have : l.length ≤ tot ls := le_tot hl
    omega
  have h := edges_l0 ls hn hls ls [] [] rfl (by simp; omega) (by simp)
  simpa [extent_edges.f] using h
end Go.Proofs.Ytapbmkcncjkanaa.P
namespace Go.Proofs.Ytapbmkcncjkanaa.P
open Go.RowKit Go.Proofs.YtapbmkcncjkanaaW.PrintWords Go.Proofs.YtapbmkcncjkanaaW.PrintLast Go.Proofs.YtapbmkcncjkanaaW.PrintMore

theorem edgesFrom_le {ls : List (List Sp)} : ∀ {j : Int} {e : Ed}, e ∈ edgesFrom j ls → 0 ≤ e.f0 ∧ e.f0 ≤ 1125899906842624 := by
  induction ls with
  | nil => intro j e h; simp [edgesFrom] at h
  | cons l ls ih =>
    intro j e h
    rw [edgesFrom, List.mem_append] at h
    rcases h with h | h
    · simp only [edgesOf, List.mem_flatMap, List.mem_filter] at h
      obtain ⟨s, ⟨_, hs⟩, he⟩ := h
      have hs := (hasS_iff s).1 hs
      simp only [List.mem_cons, List.not_mem_nil, or_false] at he
      rcases he with rfl | rfl
      · exact ⟨by simp only; omega, by simp only; omega⟩
      · exact ⟨by simp only; omega, by simp only; omega⟩
    · exact ih h

/-! ### How many spans of list j have begun and not ended -/
def dep (E : List Ed) (j : Int) : Int := ((E.filter (fun e => e.f1 == j)).map (·.f2)).sum
def Dl (n : Nat) (E : List Ed) : List Int := (List.range n).map fun j : Nat => dep E (j : Int)
def Bl (n : Nat) (E : List Ed) : List Bool := (List.range n).map fun j : Nat => decide (dep E (j : Int) > 0)
theorem dep_append (E G : List Ed) (j : Int) : dep (E ++ G) j = dep E j + dep G j := by
  simp [dep, List.filter_append, List.map_append, List.sum_append]
theorem dep_one (e : Ed) (j : Int) : dep [e] j = if e.f1 = j then e.f2 else 0 := by
  unfold dep
  by_cases h : e.f1 = j <;> simp [h]
theorem dep_bound (E : List Ed) (h : ∀ e ∈ E, e.f2 = 1 ∨ e.f2 = -1) (j : Int) : -(E.length : Int) ≤ dep E j ∧ dep E j ≤ E.length := by
  induction E with
  | nil => simp [dep]
  | cons e E ih =>
    have h1 := ih fun x hx => h x (List.mem_cons_of_mem _ hx)
    have h2 := dep_append [e] E j
    rw [dep_one] at h2
    have h3 := h e List.mem_cons_self
    rw [List.singleton_append] at h2
    rw [h2, List.length_cons]
    split <;> omega
theorem rd_Dl (n : Nat) (E : List Ed) (j : Int) (h0 : 0 ≤ j) (h1 : j < n) : rd (Dl n E) j = dep E j := by
  obtain ⟨m, rfl⟩ := Int.eq_ofNat_of_zero_le h0
  unfold rd Dl
  rw [Int.toNat_natCast, List.getD_eq_getElem?_getD, List.getElem?_map, List.getElem?_range (by omega)]
  rfl
theorem Dl_length (n : Nat) (E : List Ed) : (Dl n E).length = n := by simp [Dl]
theorem Bl_length (n : Nat) (E : List Ed) : (Bl n E).length = n := by simp [Bl]
theorem Dl_snoc (n : Nat) (E : List Ed) (e : Ed) (h0 : 0 ≤ e.f1) (h1 : e.f1 < n) : (Dl n E).set e.f1.toNat (dep E e.f1 + e.f2) = Dl n (E ++ [e]) := by
  apply List.ext_getElem?
  intro i
  rw [List.getElem?_set, Dl_length]
  unfold Dl
  rw [List.getElem?_map, List.getElem?_map]
  by_cases hi : i < n
  · rw [List.getElem?_range hi]
    simp only [Option.map_some]
    rw [dep_append, dep_one]
    by_cases hj : e.f1.toNat = i
    · rw [if_pos hj, if_pos (by omega), if_pos (by omega), show e.f1 = (i : Int) by omega]
    · rw [if_neg hj, if_neg (by omega), Int.add_zero]
  · rw [List.getElem?_eq_none (l := List.range n) (by simp; omega)]
    by_cases hj : e.f1.toNat = i
    · exact absurd hj (by omega)
    · rw [if_neg hj]; rfl
theorem Bl_snoc (n : Nat) (E : List Ed) (e : Ed) (h0 : 0 ≤ e.f1) (h1 : e.f1 < n) : (Bl n E).set e.f1.toNat (decide (dep E e.f1 + e.f2 > 0)) = Bl n (E ++ [e]) := by
  apply List.ext_getElem?
  intro i
  rw [List.getElem?_set, Bl_length]
  unfold Bl
  rw [List.getElem?_map, List.getElem?_map]
  by_cases hi : i < n
  · rw [List.getElem?_range hi]
    simp only [Option.map_some]
    rw [dep_append, dep_one]
    by_cases hj : e.f1.toNat = i
    · rw [if_pos hj, if_pos (by omega), if_pos (by omega), show e.f1 = (i : Int) by omega]
    · rw [if_neg hj, if_neg (by omega), Int.add_zero]
  · rw [List.getElem?_eq_none (l := List.range n) (by simp; omega)]
    by_cases hj : e.f1.toNat = i
    · exact absurd hj (by omega)
    · rw [if_neg hj]; rfl

/-! ### The inner loop: all edges at one place -/
section
variable (n : Nat) (F : List Bool → Option Bool) (conv : Int → Int → Option (Int × Int)) (E : List Ed) (hE : ∀ e ∈ E, (0 ≤ e.f1 ∧ e.f1 < n) ∧ (e.f2 = 1 ∨ e.f2 = -1)) (hlen : E.length < 1099511627776)
include hE hlen

theorem merge_l1 (out : List Sp) (fr pl : Int) (r : List Sp) : ∀ (suf pre : List Ed), E = pre ++ suf →
    Ev (fun k => extent_merge.j2 k F conv out (Dl n (pre ++ suf.takeWhile (fun e => e.f0 == pl))) (Bl n (pre ++ suf.takeWhile (fun e => e.f0 == pl))) fr E ((pre ++ suf.takeWhile (fun e => e.f0 == pl)).length : Int) pl false) r →
    Ev (fun k => extent_merge.l1 k F conv out (Dl n pre) (Bl n pre) fr E (pre.length : Int) pl) r := by
  intro suf
  induction suf with
  | nil =>
    intro pre hpre h
    refine Ev.step (f := fun k => extent_merge.j2 k F conv out (Dl n pre) (Bl n pre) fr E (pre.length : Int) pl false) (fun k => ?_) (by simpa using h)
    have : (pre.length : Int) = E.length := by rw [hpre]; simp
    simp only [extent_merge.l1]
    rw [if_neg (by omega)]
  | cons e suf ih =>
    intro pre hpre h
    have hl : E.length = pre.length + (suf.length + 1) := by rw [hpre]; simp
    have hget : rd_T71 E (pre.length : Int) = e := by
      unfold rd_T71
      rw [Int.toNat_natCast, hpre]
      simp [List.getD_eq_getElem?_getD]
    have he := hE e (by rw [hpre]; simp)
    by_cases hp : e.f0 = pl
    · have htw : (e :: suf).takeWhile (fun e => e.f0 == pl) = e :: suf.takeWhile (fun e => e.f0 == pl) := by
        rw [List.takeWhile_cons, if_pos (by simpa using hp)]
      have ih' := ih (pre ++ [e]) (by simp [hpre]) (by rw [htw] at h; simpa [List.append_assoc] using h)
      have hb := dep_bound pre (fun x hx => (hE x (by rw [hpre]; simp [hx])).2) e.f1
      have hw : wrap64 (dep pre e.f1 + e.f2) = dep pre e.f1 + e.f2 := by unfold wrap64; omega
      refine Ev.step (f := fun k => extent_merge.j2 k F conv out (Dl n pre) (Bl n pre) fr E (pre.length : Int) pl true) (fun k => ?_) (Ev.step (fun k => ?_) ih')
      · simp only [extent_merge.l1]
        rw [if_pos (by omega), if_pos (by omega), hget, show (e.f0 == pl) = true by simpa using hp]
      · simp only [extent_merge.j2]
        rw [if_pos trivial, if_pos (by omega), if_pos (by omega), hget, if_pos he.1.1, if_pos (by rw [Dl_length]; exact he.1.2)]
        simp only [Option.bind_some]
        rw [if_pos (by rw [Bl_length]; exact he.1.2), rd_Dl n pre e.f1 he.1.1 he.1.2, hw, Dl_snoc n pre e he.1.1 he.1.2, rd_Dl n (pre ++ [e]) e.f1 he.1.1 he.1.2, dep_append, dep_one, if_pos rfl, Bl_snoc n pre e he.1.1 he.1.2, wrap_succ _ (by omega)]
        simp
    · have htw : (e :: suf).takeWhile (fun e => e.f0 == pl) = [] := by
        rw [List.takeWhile_cons, if_neg (by simpa using hp)]
      rw [htw, List.append_nil] at h
      refine Ev.step (fun k => ?_) h
      simp only [extent_merge.l1]
      rw [if_pos (by omega), if_pos (by omega), hget, show (e.f0 == pl) = false by simpa using hp]
end

theorem conv_one : ∀ a c : Int, extent_spans_1.f a c = some (a, c) := fun _ _ => rfl

/-- What stands behind a place: a span begins, goes on, ends, or none. -/
theorem merge_exit (F : List Bool → Option Bool) (E : List Ed) (out : List Sp) (x8 : List Int) (x9 : List Bool) (fr pl i : Int) (b : Bool) (hF : F x9 = some b) (r : List Sp) (h1 : 0 ≤ pl ∧ pl ≤ 1125899906842624) (h2 : -1 ≤ fr ∧ fr ≤ 1125899906842624) (hl : out.length < 8796093022208)
    (h : Ev (fun k => extent_merge.l0 k F extent_spans_1.f (if b = false ∧ 0 ≤ fr then out ++ [⟨fr, pl - fr⟩] else out) x8 x9 (if b = true then (if fr < 0 then pl else fr) else -1) E i) r) :
    Ev (fun k => extent_merge.j2 k F extent_spans_1.f out x8 x9 fr E i pl false) r := by
  cases b with
  | true =>
    by_cases hf : fr < 0
    · simp only [if_pos hf, Bool.true_eq_false, false_and, if_false, if_true] at h
      refine Ev.step (f := fun k => extent_merge.j3 k F extent_spans_1.f out x8 x9 fr E i pl true true) (fun k => ?_) (Ev.step (f := fun k => extent_merge.j4 k F extent_spans_1.f out x8 x9 pl E i pl true) (fun k => ?_) (Ev.step (f := fun k => extent_merge.j5 k F extent_spans_1.f out x8 x9 pl E i pl false) (fun k => ?_) (Ev.step (fun k => ?_) h)))
      · simp [extent_merge.j2, hF, hf]
      · simp [extent_merge.j3]
      · simp [extent_merge.j4]
      · simp [extent_merge.j5]
    · simp only [if_neg hf, Bool.true_eq_false, false_and, if_false, if_true] at h
      refine Ev.step (f := fun k => extent_merge.j3 k F extent_spans_1.f out x8 x9 fr E i pl true false) (fun k => ?_) (Ev.step (f := fun k => extent_merge.j4 k F extent_spans_1.f out x8 x9 fr E i pl true) (fun k => ?_) (Ev.step (f := fun k => extent_merge.j5 k F extent_spans_1.f out x8 x9 fr E i pl false) (fun k => ?_) (Ev.step (fun k => ?_) h)))
      · simp [extent_merge.j2, hF, hf]
      · simp [extent_merge.j3]
      · simp [extent_merge.j4]
      · simp [extent_merge.j5]
  | false =>
    by_cases hf : 0 ≤ fr
    · simp only [hf, and_self, if_true, Bool.false_eq_true, if_false] at h
      refine Ev.step (f := fun k => extent_merge.j3 k F extent_spans_1.f out x8 x9 fr E i pl false false) (fun k => ?_) (Ev.step (f := fun k => extent_merge.j4 k F extent_spans_1.f out x8 x9 fr E i pl false) (fun k => ?_) (Ev.step (f := fun k => extent_merge.j5 k F extent_spans_1.f out x8 x9 fr E i pl true) (fun k => ?_) (Ev.step (fun k => ?_) h)))
      · simp [extent_merge.j2, hF]
      · simp [extent_merge.j3]
      · simp only [extent_merge.j4]
        rw [if_neg (by simp), decide_eq_true (by omega)]
      · simp only [extent_merge.j5]
        rw [if_pos trivial, conv_one]
        simp only [Option.bind_some]
        rw [if_pos hl, show wrap64 (pl - fr) = pl - fr by unfold wrap64; omega]
    · simp only [hf, and_false, if_false, Bool.false_eq_true] at h
      have e : fr = -1 := by omega
      subst e
      refine Ev.step (f := fun k => extent_merge.j3 k F extent_spans_1.f out x8 x9 (-1) E i pl false false) (fun k => ?_) (Ev.step (f := fun k => extent_merge.j4 k F extent_spans_1.f out x8 x9 (-1) E i pl false) (fun k => ?_) (Ev.step (f := fun k => extent_merge.j5 k F extent_spans_1.f out x8 x9 (-1) E i pl false) (fun k => ?_) (Ev.step (fun k => ?_) h)))
      · simp [extent_merge.j2, hF]
      · simp [extent_merge.j3]
      · simp [extent_merge.j4]
      · simp [extent_merge.j5]

/-! ### In which lists an integer is, as the edges up to it tell -/
def depN (E : List Ed) (j m : Int) : Int := dep (E.filter fun e => decide (e.f0 ≤ m)) j
theorem perm_sum {l m : List Int} (h : l.Perm m) : l.sum = m.sum := by
  induction h with
  | nil => rfl
  | cons x _ ih => rw [List.sum_cons, List.sum_cons, ih]
  | swap x y l => rw [List.sum_cons, List.sum_cons, List.sum_cons, List.sum_cons]; omega
  | trans _ _ ih1 ih2 => rw [ih1, ih2]
theorem depN_perm {E G : List Ed} (h : E.Perm G) (j m : Int) : depN E j m = depN G j m := by
  unfold depN dep
  exact perm_sum (((h.filter _).filter _).map _)
theorem depN_append (E G : List Ed) (j m : Int) : depN (E ++ G) j m = depN E j m + depN G j m := by
  unfold depN
  rw [List.filter_append, dep_append]
theorem depN_split {pre suf : List Ed} {m : Int} (h1 : ∀ e ∈ pre, e.f0 ≤ m) (h2 : ∀ e ∈ suf, m < e.f0) (j : Int) : depN (pre ++ suf) j m = dep pre j := by
  unfold depN
  rw [List.filter_append, List.filter_eq_self.2 (fun e he => by simpa using h1 e he), List.filter_eq_nil_iff.2 (fun e he => by have := h2 e he; simp; omega), List.append_nil]
theorem depN_edgesOf (j : Int) (l : List Sp) (m : Int) : depN (edgesOf j l) j m = (l.countP (memS · m) : Int) := by
  induction l with
  | nil => rfl
  | cons s l ih =>
    rw [edgesOf_cons, depN_append, ih, List.countP_cons]
    by_cases hs : hasS s = true
    · have hs' := (hasS_iff s).1 hs
      rw [if_pos hs]
      have hm : memS s m = decide (s.f0 ≤ m ∧ m < s.f0 + s.f1) := by unfold memS; rw [hs, Bool.true_and]
      rw [hm]
      unfold depN dep
      by_cases h1 : s.f0 ≤ m
      · by_cases h2 : s.f0 + s.f1 ≤ m
        · simp [h1, h2, show ¬ (m < s.f0 + s.f1) by omega]
        · simp [h1, h2, show m < s.f0 + s.f1 by omega]; omega
      · simp [h1, show ¬ (s.f0 + s.f1 ≤ m) by omega]
    · rw [if_neg hs, show memS s m = false by unfold memS; simp [hs]]
      simp [depN, dep]
theorem depN_other (i j : Int) (hij : i ≠ j) (l : List Sp) (m : Int) : depN (edgesOf i l) j m = 0 := by
  unfold depN dep
  rw [List.filter_eq_nil_iff.2]
  · rfl
  · intro e he
    have := (edgesOf_mem (List.mem_filter.1 he).1).2.1
    simp; omega
theorem depN_none (E : List Ed) (j m : Int) (h : ∀ e ∈ E, e.f1 ≠ j) : depN E j m = 0 := by
  unfold depN dep
  rw [List.filter_eq_nil_iff.2]
  · rfl
  · intro e he
    simpa using h e (List.mem_filter.1 he).1
theorem depN_edgesFrom (m : Int) : ∀ (ls : List (List Sp)) (a : Int) (q : Nat) (l : List Sp), ls[q]? = some l → depN (edgesFrom a ls) (a + q) m = (l.countP (memS · m) : Int)
  | [], _, _, _, h => by simp at h
  | x :: ls, a, 0, l, h => by
    simp only [List.getElem?_cons_zero, Option.some.injEq] at h
    subst h
    rw [edgesFrom, depN_append, Int.natCast_zero, Int.add_zero, depN_edgesOf, depN_none _ _ _ (fun e he => by have := (edgesFrom_mem he).2.1; omega), Int.add_zero]
  | x :: ls, a, q + 1, l, h => by
    rw [List.getElem?_cons_succ] at h
    have ih := depN_edgesFrom m ls (a + 1) q l h
    rw [edgesFrom, depN_append, depN_other a (a + ((q + 1 : Nat) : Int)) (by omega), Int.zero_add, show a + ((q + 1 : Nat) : Int) = a + 1 + (q : Int) by omega, ih]
theorem inL_countP (l : List Sp) (m : Int) : inL l m = decide ((l.countP (memS · m) : Int) > 0) := by
  unfold inL
  rw [Bool.eq_iff_iff, List.any_eq_true, decide_eq_true_eq]
  have h := List.countP_pos_iff (p := (memS · m)) (l := l)
  constructor
  · intro hx
    have := h.2 hx
    omega
  · intro hx
    exact h.1 (by omega)

theorem Bl_key (ls : List (List Sp)) (E pre suf : List Ed) (hperm : E.Perm (edgesFrom 0 ls)) (hE : E = pre ++ suf) (m : Int) (h1 : ∀ e ∈ pre, e.f0 ≤ m) (h2 : ∀ e ∈ suf, m < e.f0) : Bl ls.length pre = ls.map (inL · m) := by
  apply List.ext_getElem?
  intro i
  unfold Bl
  rw [List.getElem?_map, List.getElem?_map]
  by_cases hi : i < ls.length
  · rw [List.getElem?_range hi, List.getElem?_eq_getElem hi]
    simp only [Option.map_some]
    have h3 := depN_edgesFrom m ls 0 i ls[i] (List.getElem?_eq_getElem hi)
    rw [Int.zero_add, ← depN_perm hperm, hE, depN_split h1 h2] at h3
    rw [h3, inL_countP]
  · rw [List.getElem?_eq_none (by simp; omega), List.getElem?_eq_none (by omega)]
    rfl
end Go.Proofs.Ytapbmkcncjkanaa.P
namespace Go.Proofs.Ytapbmkcncjkanaa.P
open Go.RowKit Go.Proofs.YtapbmkcncjkanaaW.PrintWords Go.Proofs.YtapbmkcncjkanaaW.PrintLast Go.Proofs.YtapbmkcncjkanaaW.PrintMore

theorem takeWhile_mem {α : Type} (p : α → Bool) (l : List α) : ∀ x ∈ l.takeWhile p, p x = true := by
  induction l with
  | nil => intro x h; simp at h
  | cons a l ih =>
    intro x h
    rw [List.takeWhile_cons] at h
    split at h
    · rcases List.mem_cons.1 h with rfl | h
      · assumption
      · exact ih x h
    · simp at h
theorem dropWhile_head {α : Type} (p : α → Bool) (l : List α) (a : α) (r : List α) (h : l.dropWhile p = a :: r) : p a = false := by
  induction l with
  | nil => simp at h
  | cons b l ih =>
    rw [List.dropWhile_cons] at h
    split at h
    · exact ih h
    · injection h with h1 h2
      subst h1
      simpa using ‹¬ p b = true›

section
variable (ls : List (List Sp)) (F : List Bool → Option Bool) (rule : List Bool → Bool) (E : List Ed) (hF : ∀ bs, bs.length = ls.length → F bs = some (rule bs)) (h0 : rule (List.replicate ls.length false) = false)
  (hperm : E.Perm (edgesFrom 0 ls)) (hsort : E.Pairwise (fun a b => a.f0 ≤ b.f0)) (hlen : E.length < 1099511627776)
include hF h0 hperm hsort hlen

theorem merge_l0 : ∀ (N : Nat) (suf pre : List Ed) (out : List Sp) (fr : Int), suf.length ≤ N → E = pre ++ suf → Norm out → out.length ≤ pre.length → (0 ≤ fr → ∀ s ∈ out, s.f0 + s.f1 < fr) → (fr < 0 → ∀ e ∈ suf, ∀ s ∈ out, s.f0 + s.f1 < e.f0) →
    (∀ e ∈ suf, fr < e.f0) → (-1 ≤ fr ∧ fr ≤ 1125899906842624) → (∀ m : Int, (∀ e ∈ suf, m < e.f0) → rule (ls.map (inL · m)) = (inL out m || decide (0 ≤ fr ∧ fr ≤ m))) →
    ∃ r, Ev (fun k => extent_merge.l0 k F extent_spans_1.f out (Dl ls.length pre) (Bl ls.length pre) fr E (pre.length : Int)) r ∧ Norm r ∧ (∀ m : Int, inL r m = rule (ls.map (inL · m))) ∧ r.length ≤ E.length := by
  intro N
  induction N with
  | zero =>
    intro suf pre out fr hN hE hA hol hb1 hb2 hd hfr hc
    have hs : suf = [] := List.eq_nil_of_length_eq_zero (by omega)
    subst hs
    have hneg : ¬ 0 ≤ fr := by
      intro hp
      have h1 := hc 1125899906842625 (by simp)
      rw [decide_eq_true (by omega), Bool.or_true] at h1
      have h2 : ls.map (inL · 1125899906842625) = List.replicate ls.length false := by
        apply List.ext_getElem?
        intro i
        rw [List.getElem?_map, List.getElem?_replicate]
        by_cases hi : i < ls.length
        · rw [List.getElem?_eq_getElem hi, if_pos hi]
          simp only [Option.map_some, Option.some.injEq]
          cases hx : inL ls[i] 1125899906842625 with
          | false => rfl
          | true => have := inL_range _ _ hx; omega
        · rw [List.getElem?_eq_none (by omega), if_neg hi]; rfl
      rw [h2, h0] at h1
      simp at h1
    refine ⟨out, Ev.step (f := fun k => some out) (fun k => ?_) (Ev.now out), hA, fun m => ?_, by rw [hE]; simpa using hol⟩
    · have : (pre.length : Int) = E.length := by rw [hE]; simp
      simp only [extent_merge.l0]
      rw [if_neg (by omega)]
    · rw [hc m (by simp), decide_eq_false (by omega), Bool.or_false]
  | succ N ih =>
    intro suf pre out fr hN hE hA hol hb1 hb2 hd hfr hc
    match suf, hN, hE, hb2, hd, hc with
    | [], hN, hE, hb2, hd, hc => exact ih [] pre out fr (by simp) hE hA hol hb1 hb2 hd hfr hc
    | e :: suf, hN, hE, hb2, hd, hc =>
      have hsplit : (e :: suf).takeWhile (fun x => x.f0 == e.f0) ++ (e :: suf).dropWhile (fun x => x.f0 == e.f0) = e :: suf := List.takeWhile_append_dropWhile
      have hrun := takeWhile_mem (fun x : Ed => x.f0 == e.f0) (e :: suf)
      have hrl : 1 ≤ ((e :: suf).takeWhile (fun x => x.f0 == e.f0)).length := by
        rw [List.takeWhile_cons, if_pos (by simp)]; simp
      have hl : E.length = pre.length + (suf.length + 1) := by rw [hE]; simp
      have hpw : (pre ++ e :: suf).Pairwise (fun a b => a.f0 ≤ b.f0) := hE ▸ hsort
      have hpre : ∀ x ∈ pre, x.f0 ≤ e.f0 := fun x hx => (List.pairwise_append.1 hpw).2.2 x hx e List.mem_cons_self
      have hsuf : ∀ x ∈ e :: suf, e.f0 ≤ x.f0 := fun x hx => by
        rcases List.mem_cons.1 hx with rfl | hx
        · omega
        · exact (List.pairwise_cons.1 (List.pairwise_append.1 hpw).2.1).1 x hx
      have hel : ∀ x ∈ E, 0 ≤ x.f0 ∧ x.f0 ≤ 1125899906842624 := fun x hx => edgesFrom_le (hperm.mem_iff.1 hx)
      have hee := hel e (by rw [hE]; simp)
      generalize hru : (e :: suf).takeWhile (fun x => x.f0 == e.f0) = run at *
      generalize hre : (e :: suf).dropWhile (fun x => x.f0 == e.f0) = rest at *
      have hE' : E = (pre ++ run) ++ rest := by rw [List.append_assoc, hsplit]; exact hE
      have hrest : ∀ x ∈ rest, e.f0 < x.f0 := by
        have hpr : rest.Pairwise (fun a b => a.f0 ≤ b.f0) := (List.pairwise_append.1 (hE' ▸ hsort)).2.1
        match rest, hre, hpr with
        | [], _, _ => intro x hx; simp at hx
        | a :: q, hre, hpr =>
          have ha := dropWhile_head (fun x : Ed => x.f0 == e.f0) _ a q hre
          have ha2 : e.f0 ≤ a.f0 := hsuf a (by rw [← hsplit]; simp)
          have ha3 : e.f0 < a.f0 := by
            have : a.f0 ≠ e.f0 := by simpa using ha
            omega
          intro x hx
          rcases List.mem_cons.1 hx with rfl | hx
          · exact ha3
          · have := (List.pairwise_cons.1 hpr).1 x hx; omega
      have hpre' : ∀ x ∈ pre ++ run, x.f0 ≤ e.f0 := fun x hx => by
        rcases List.mem_append.1 hx with hx | hx
        · exact hpre x hx
        · have : x.f0 = e.f0 := by simpa using hrun x hx
          omega
      have hkey : ∀ m, e.f0 ≤ m → (∀ x ∈ rest, m < x.f0) → rule (ls.map (inL · m)) = rule (Bl ls.length (pre ++ run)) := fun m hm hr => by
        rw [Bl_key ls E (pre ++ run) rest hperm hE' m (fun x hx => by have := hpre' x hx; omega) hr]
      have hrs : rest.length ≤ N := by
        have := congrArg List.length hsplit
        rw [List.length_append, List.length_cons] at this
        rw [List.length_cons] at hN
        omega
      have hlow : ∀ m, m < e.f0 → rule (ls.map (inL · m)) = (inL out m || decide (0 ≤ fr ∧ fr ≤ m)) := fun m hm => hc m fun x hx => by have := hsuf x hx; omega
      have hgt : ∀ (m : Int) (l : List Sp), (∀ s ∈ l, s.f0 + s.f1 < m ∨ s.f0 + s.f1 = m) → inL l m = false := fun m l h => by
        cases hx : inL l m with
        | false => rfl
        | true =>
          obtain ⟨s, hs, _, _, h2⟩ := (inL_iff l m).1 hx
          have := h s hs
          omega
      have hEe : ∀ x ∈ E, (0 ≤ x.f1 ∧ x.f1 < (ls.length : Int)) ∧ (x.f2 = 1 ∨ x.f2 = -1) := fun x hx => by
        have := edgesFrom_mem (hperm.mem_iff.1 hx)
        exact ⟨⟨this.2.1.1, by have := this.2.1.2; omega⟩, this.2.2⟩
      have hb : F (Bl ls.length (pre ++ run)) = some (rule (Bl ls.length (pre ++ run))) := hF _ (Bl_length _ _)
      have hfe : fr < e.f0 := hd e List.mem_cons_self
      suffices hgo : ∃ r, Ev (fun k => extent_merge.l0 k F extent_spans_1.f (if rule (Bl ls.length (pre ++ run)) = false ∧ 0 ≤ fr then out ++ [⟨fr, e.f0 - fr⟩] else out) (Dl ls.length (pre ++ run)) (Bl ls.length (pre ++ run)) (if rule (Bl ls.length (pre ++ run)) = true then (if fr < 0 then e.f0 else fr) else -1) E ((pre ++ run).length : Int)) r ∧ Norm r ∧ (∀ m : Int, inL r m = rule (ls.map (inL · m))) ∧ r.length ≤ E.length by
        obtain ⟨r, hr, hrest2⟩ := hgo
        refine ⟨r, ?_, hrest2⟩
        have h1 := merge_exit F E out (Dl ls.length (pre ++ run)) (Bl ls.length (pre ++ run)) fr e.f0 ((pre ++ run).length : Int) _ hb r hee hfr (by omega) hr
        rw [← hru] at h1
        have h2 := merge_l1 ls.length F extent_spans_1.f E hEe hlen out fr e.f0 r (e :: suf) pre hE h1
        refine Ev.step (fun k => ?_) h2
        simp only [extent_merge.l0]
        rw [if_pos (by omega), if_pos (by omega)]
        have hget : rd_T71 E (pre.length : Int) = e := by
          unfold rd_T71
          rw [Int.toNat_natCast, hE]
          simp [List.getD_eq_getElem?_getD]
        rw [hget]
      cases hbv : rule (Bl ls.length (pre ++ run)) with
      | true =>
        simp only [Bool.true_eq_false, false_and, if_false, if_true]
        by_cases hf : fr < 0
        · rw [if_pos hf]
          refine ih rest (pre ++ run) out e.f0 hrs hE' hA (by rw [List.length_append]; omega) (fun _ s hs => hb2 hf e List.mem_cons_self s hs) (fun h => by omega) hrest (by omega) (fun m hm => ?_)
          by_cases hme : e.f0 ≤ m
          · rw [hkey m hme hm, hbv, decide_eq_true (by omega), Bool.or_true]
          · rw [hlow m (by omega), decide_eq_false (by omega), decide_eq_false (by omega)]
        · rw [if_neg hf]
          refine ih rest (pre ++ run) out fr hrs hE' hA (by rw [List.length_append]; omega) hb1 (fun h => absurd h hf) (fun x hx => by have := hrest x hx; omega) hfr (fun m hm => ?_)
          by_cases hme : e.f0 ≤ m
          · rw [hkey m hme hm, hbv, decide_eq_true (by omega), Bool.or_true]
          · rw [hlow m (by omega)]
      | false =>
        simp only [Bool.false_eq_true, if_false, true_and]
        by_cases hf : 0 ≤ fr
        · rw [if_pos hf]
          have hs' : hasS (⟨fr, e.f0 - fr⟩ : Sp) = true := (hasS_iff _).2 ⟨by simp only; omega, by simp only; omega, by simp only; omega⟩
          have hend : ∀ s ∈ out ++ [(⟨fr, e.f0 - fr⟩ : Sp)], s.f0 + s.f1 ≤ e.f0 := fun s hs => by
            rcases List.mem_append.1 hs with hs | hs
            · have := hb1 hf s hs; omega
            · rw [List.mem_singleton.1 hs]; simp only; omega
          refine ih rest (pre ++ run) (out ++ [⟨fr, e.f0 - fr⟩]) (-1) hrs hE' (hA.snoc hs' (fun s hs => hb1 hf s hs)) (by rw [List.length_append, List.length_append, List.length_singleton]; omega) (fun h => by omega) (fun _ x hx s hs => by have h1 := hrest x hx; have h2 := hend s hs; omega) (fun x hx => by have h1 := hrest x hx; omega) (by omega) (fun m hm => ?_)
          rw [decide_eq_false (p := 0 ≤ (-1 : Int) ∧ (-1 : Int) ≤ m) (by omega), Bool.or_false]
          by_cases hme : e.f0 ≤ m
          · rw [hkey m hme hm, hbv, hgt m _ (fun s hs => by have := hend s hs; omega)]
          · rw [hlow m (by omega), inL_append]
            congr 1
            simp only [inL, List.any_cons, List.any_nil, Bool.or_false]
            unfold memS
            rw [hs', Bool.true_and, decide_eq_decide]
            simp only
            omega
        · rw [if_neg hf]
          refine ih rest (pre ++ run) out (-1) hrs hE' hA (by rw [List.length_append]; omega) (fun h => by omega) (fun _ x hx s hs => by have h1 := hrest x hx; have h2 := hb2 (by omega) e List.mem_cons_self s hs; omega) (fun x hx => by have h1 := hrest x hx; omega) (by omega) (fun m hm => ?_)
          rw [decide_eq_false (p := 0 ≤ (-1 : Int) ∧ (-1 : Int) ≤ m) (by omega), Bool.or_false]
          by_cases hme : e.f0 ≤ m
          · rw [hkey m hme hm, hbv, hgt m _ (fun s hs => by have := hb2 (by omega) e List.mem_cons_self s hs; omega)]
          · rw [hlow m (by omega), decide_eq_false (by omega), Bool.or_false]
end

/-- extent.spans: the normal list of the integers for which the rule says so. -/
theorem spans_ev (ls : List (List Sp)) (hn : ls.length < 1000) (ht : tot ls < 274877906944) (F : List Bool → Option Bool) (rule : List Bool → Bool) (hF : ∀ bs, bs.length = ls.length → F bs = some (rule bs)) (h0 : rule (List.replicate ls.length false) = false) :
    ∃ r, Ev (fun k => extent_spans.f k F ls) r ∧ Norm r ∧ (∀ m : Int, inL r m = rule (ls.map (inL · m))) ∧ r.length ≤ 2 * tot ls := by
  have hok : ∀ x ∈ edgesFrom 0 ls, edgeOk x := fun x hx => (edgesFrom_mem hx).1
  have hperm := edgeSort_perm (edgesFrom 0 ls) hok
  have hsort := edgeSort_sorted (edgesFrom 0 ls) hok
  have hel := edgesFrom_length ls 0
  have hle := hperm.length_eq
  obtain ⟨r, hr, hN, hm, hrl⟩ := merge_l0 ls F rule (edgeSort (edgesFrom 0 ls)) hF h0 hperm hsort (by omega) _ (edgeSort (edgesFrom 0 ls)) [] [] (-1) (Nat.le_refl _) rfl Norm.nil (by simp) (fun _ s hs => by simp at hs) (fun _ _ _ s hs => by simp at hs)
    (fun e he => by have := (hok e (hperm.mem_iff.1 he)).1; omega) (by omega) (fun m hm => by
      rw [inL_nil, decide_eq_false (by omega), Bool.or_false]
      rw [← Bl_key ls (edgeSort (edgesFrom 0 ls)) [] (edgeSort (edgesFrom 0 ls)) hperm rfl m (by simp) hm]
      have : Bl ls.length [] = List.replicate ls.length false := by
        apply List.ext_getElem?
        intro i
        unfold Bl
        rw [List.getElem?_map, List.getElem?_replicate]
        by_cases hi : i < ls.length
        · rw [List.getElem?_range hi, if_pos hi]; rfl
        · rw [List.getElem?_eq_none (by simp; omega), if_neg hi]; rfl
      rw [this, h0])
  refine ⟨r, ?_, hN, hm, by omega⟩
  have hf : Ev (fun k => extent_merge.f k F extent_spans_1.f ls) r := by
    have h1 := Ev.bind (f := fun k t => extent_merge.l0 k F extent_spans_1.f ([] : List Sp) (List.replicate ls.length 0) (List.replicate ls.length false) (-1) t 0) (edges_ev ls (by omega) ht) (r := r) (by
      have e1 : Dl ls.length [] = List.replicate ls.length 0 := by
        apply List.ext_getElem?
        intro i
        unfold Dl
        rw [List.getElem?_map, List.getElem?_replicate]
        by_cases hi : i < ls.length
        · rw [List.getElem?_range hi, if_pos hi]; rfl
        · rw [List.getElem?_eq_none (by simp; omega), if_neg hi]; rfl
      have e2 : Bl ls.length [] = List.replicate ls.length false := by
        apply List.ext_getElem?
        intro i
        unfold Bl
        rw [List.getElem?_map, List.getElem?_replicate]
        by_cases hi : i < ls.length
        · rw [List.getElem?_range hi, if_pos hi]; rfl
        · rw [List.getElem?_eq_none (by simp; omega), if_neg hi]; rfl
      rw [e1, e2] at hr
      exact hr)
    refine Ev.congr (fun k => ?_) h1
    unfold extent_merge.f
    rw [if_pos (by omega), if_pos (by omega), if_pos (by omega), Int.toNat_natCast]
  have h2 := Ev.bind (f := fun _ t => some t) hf (Ev.now r)
  exact Ev.congr (fun k => rfl) h2
end Go.Proofs.Ytapbmkcncjkanaa.P
namespace Go.Proofs.Ytapbmkcncjkanaa.P
open Go.RowKit Go.Proofs Go.Proofs.YtapbmkcncjkanaaW.PrintWords Go.Proofs.YtapbmkcncjkanaaW.PrintLast Go.Proofs.YtapbmkcncjkanaaW.PrintMore

/-- One list, and two lists, in a list of lists that the call has laid. -/
theorem read_lists1 (w : World) (A0 : Option Addr) (c0 : Nat) (l0 : List Sp) (hr0 : Kd.C k25 w A0 l0.length l0) (hc0 : l0.length ≤ c0) :
    Kd.C (Kd.slice 25 k25) (w.alloc (.cells #[.slice A0 l0.length c0] 38)) (some ⟨w.heap.size, 0, none⟩) [l0].length [l0] := by
  refine ⟨rfl, by simp, fun _ => ⟨_, rfl, fun j p hj => ?_⟩⟩
  match j, hj with
  | 0, hj =>
    simp only [List.getElem?_cons_zero, Option.some.injEq] at hj
    subst hj
    refine ⟨[.slice A0 l0.length c0], rfl, ⟨A0, c0, rfl, hc0, Kd.C_below hr0 (below_alloc (Below.refl _ _) _)⟩, fun i u hi => ?_⟩
    match i, hi with
    | 0, hi =>
      simp only [List.getElem?_cons_zero, Option.some.injEq] at hi
      subst hi
      rw [add_plain]
      simp [Kd.slice]
    | i + 1, hi => simp at hi
  | j + 1, hj => simp at hj
theorem read_lists2 (w : World) (A0 : Option Addr) (c0 : Nat) (l0 : List Sp) (hr0 : Kd.C k25 w A0 l0.length l0) (hc0 : l0.length ≤ c0) (A1 : Option Addr) (c1 : Nat) (l1 : List Sp) (hr1 : Kd.C k25 w A1 l1.length l1) (hc1 : l1.length ≤ c1) :
    Kd.C (Kd.slice 25 k25) (w.alloc (.cells #[.slice A0 l0.length c0, .slice A1 l1.length c1] 38)) (some ⟨w.heap.size, 0, none⟩) [l0, l1].length [l0, l1] := by
  refine ⟨rfl, by simp, fun _ => ⟨_, rfl, fun j p hj => ?_⟩⟩
  match j, hj with
  | 0, hj =>
    simp only [List.getElem?_cons_zero, Option.some.injEq] at hj
    subst hj
    refine ⟨[.slice A0 l0.length c0], rfl, ⟨A0, c0, rfl, hc0, Kd.C_below hr0 (below_alloc (Below.refl _ _) _)⟩, fun i u hi => ?_⟩
    match i, hi with
    | 0, hi =>
      simp only [List.getElem?_cons_zero, Option.some.injEq] at hi
      subst hi
      rw [add_plain]
      simp [Kd.slice]
    | i + 1, hi => simp at hi
  | 1, hj =>
    simp only [List.getElem?_cons_succ, List.getElem?_cons_zero, Option.some.injEq] at hj
    subst hj
    refine ⟨[.slice A1 l1.length c1], rfl, ⟨A1, c1, rfl, hc1, Kd.C_below hr1 (below_alloc (Below.refl _ _) _)⟩, fun i u hi => ?_⟩
    match i, hi with
    | 0, hi =>
      simp only [List.getElem?_cons_zero, Option.some.injEq] at hi
      subst hi
      rw [add_plain]
      simp [Kd.slice]
    | i + 1, hi => simp at hi
  | j + 2, hj => simp at hj

theorem entE_Normal : ∀ (args : Array Value) (W : World), (callFunc 48 args).run Try.prog W = .ok (.enter 48 args) W := enters_of Try.func48 (by kernel_rfl) rfl
theorem entE_Union : ∀ (args : Array Value) (W : World), (callFunc 40 args).run Try.prog W = .ok (.enter 40 args) W := enters_of Try.func40 (by kernel_rfl) rfl
theorem entE_Subtract : ∀ (args : Array Value) (W : World), (callFunc 42 args).run Try.prog W = .ok (.enter 42 args) W := enters_of Try.func42 (by kernel_rfl) rfl

def rule0 (bs : List Bool) : Bool := bs.getD 0 false
def ruleU (bs : List Bool) : Bool := bs.getD 0 false || bs.getD 1 false
def ruleI (bs : List Bool) : Bool := bs.getD 0 false && bs.getD 1 false
def ruleS (bs : List Bool) : Bool := bs.getD 0 false && !bs.getD 1 false
theorem clo_Normal (bs : List Bool) (h : bs.length = 1) : extent_Normal_1.f bs = some (rule0 bs) := by
  unfold extent_Normal_1.f
  rw [if_pos (by omega)]
  rfl
theorem clo_Union (bs : List Bool) (h : bs.length = 2) : extent_Union_1.f bs = some (ruleU bs) := by
  unfold extent_Union_1.f ruleU
  simp only [show (0 : Int) < (bs.length : Int) from by omega, show (1 : Int) < (bs.length : Int) from by omega, if_true]
  show (if bs.getD 0 false = true then some true else some (bs.getD 1 false)) = _
  cases bs.getD 0 false <;> simp
theorem clo_Subtract (bs : List Bool) (h : bs.length = 2) : extent_Subtract_1.f bs = some (ruleS bs) := by
  unfold extent_Subtract_1.f ruleS
  simp only [show (0 : Int) < (bs.length : Int) from by omega, show (1 : Int) < (bs.length : Int) from by omega, if_true]
  show (if bs.getD 0 false = true then some (!bs.getD 1 false) else some false) = _
  cases bs.getD 0 false <;> simp

noncomputable def unionL (a b : List Sp) : List Sp := canon fun n => inL a n || inL b n
noncomputable def interL (a b : List Sp) : List Sp := canon fun n => inL a n && inL b n
noncomputable def subL (a b : List Sp) : List Sp := canon fun n => inL a n && !inL b n
def bigS : Nat := 68719476736

theorem normal_ev (a : List Sp) (ha : a.length < bigS) : Ev (fun k => extent_spans.f k extent_Normal_1.f [a]) (nrm a) ∧ (Norm (nrm a) ∧ ∀ n, inL (nrm a) n = inL a n) ∧ (nrm a).length ≤ 2 * a.length := by
  unfold bigS at ha
  obtain ⟨r, h1, h2, h3, h4⟩ := spans_ev [a] (by simp) (by simp [tot]; omega) extent_Normal_1.f rule0 clo_Normal rfl
  have e : nrm a = r := canon_eq h2 h3
  rw [e]
  exact ⟨h1, ⟨h2, h3⟩, by simpa [tot] using h4⟩
theorem union_ev (a b : List Sp) (ha : a.length < bigS) (hb : b.length < bigS) : Ev (fun k => extent_spans.f k extent_Union_1.f [a, b]) (unionL a b) ∧ (Norm (unionL a b) ∧ ∀ n, inL (unionL a b) n = (inL a n || inL b n)) ∧ (unionL a b).length ≤ 2 * (a.length + b.length) := by
  unfold bigS at ha hb
  obtain ⟨r, h1, h2, h3, h4⟩ := spans_ev [a, b] (by simp) (by simp [tot]; omega) extent_Union_1.f ruleU clo_Union rfl
  have e : unionL a b = r := canon_eq h2 h3
  rw [e]
  exact ⟨h1, ⟨h2, h3⟩, by simpa [tot] using h4⟩
theorem sub_ev (a b : List Sp) (ha : a.length < bigS) (hb : b.length < bigS) : Ev (fun k => extent_spans.f k extent_Subtract_1.f [a, b]) (subL a b) ∧ (Norm (subL a b) ∧ ∀ n, inL (subL a b) n = (inL a n && !inL b n)) ∧ (subL a b).length ≤ 2 * (a.length + b.length) := by
  unfold bigS at ha hb
  obtain ⟨r, h1, h2, h3, h4⟩ := spans_ev [a, b] (by simp) (by simp [tot]; omega) extent_Subtract_1.f ruleS clo_Subtract rfl
  have e : subL a b = r := canon_eq h2 h3
  rw [e]
  exact ⟨h1, ⟨h2, h3⟩, by simpa [tot] using h4⟩

noncomputable def extent_Normal.f (l0 : List Sp) : Option (List Sp) := if l0.length < bigS then some (nrm l0) else none
noncomputable def extent_Union.f (l0 l1 : List Sp) : Option (List Sp) := if l0.length < bigS ∧ l1.length < bigS then some (unionL l0 l1) else none
noncomputable def extent_Subtract.f (l0 l1 : List Sp) : Option (List Sp) := if l0.length < bigS ∧ l1.length < bigS then some (subL l0 l1) else none

set_option maxHeartbeats 1000000 in
theorem extent_Normal.calls (A0 : Option Addr) (c0 : Nat) (l0 : List Sp) (r : List Sp) (w : World) (hr0 : Kd.C k25 w A0 l0.length l0) (hc0 : l0.length ≤ c0) (h : extent_Normal.f l0 = some r) :
    Calls Try.prog 41 #[.slice A0 l0.length c0] w fun e w' => ∃ v0_ : Value, e = .returned (v0_) ∧ Kd.R k25 25 w' w.heap.size (fun _ => True) v0_ r ∧ Below w.heap.size w w' := by
  unfold extent_Normal.f at h
  split at h
  · rename_i hb
    obtain rfl := Option.some.inj h
    obtain ⟨k, hk⟩ := (normal_ev l0 hb).1.rounds
    have hcon := Aside0.mk (extent_spans.calls k extent_Normal_1.f 48 #[] entE_Normal _ 1 [l0] (nrm l0) _ (read_lists1 w A0 c0 l0 hr0 hc0) (Nat.le_refl _) (fun A c y z W _ h1 h2 h3 => (extent_Normal_1.calls A c y z W h1 h2 h3).mono fun _ _ q => ⟨q.1, Drawn0.below q.2⟩) hk)
    clear hk hr0 h hb
    go_enter Try.func41, Try.ntmps41
    go_wp2_with (go_at_call 39; refine hcon.out.mono ?_; rintro e w' ⟨v, rfl, hR, hB⟩)
    go_ret
    exact ⟨_, rfl, Kd.R_lower hR (by simp), below_step (below_alloc (Below.refl _ _) _) hB⟩
  · exact absurd h (by simp)
set_option maxHeartbeats 1000000 in
theorem extent_Union.calls (A0 : Option Addr) (c0 : Nat) (l0 : List Sp) (A1 : Option Addr) (c1 : Nat) (l1 : List Sp) (r : List Sp) (w : World) (hr0 : Kd.C k25 w A0 l0.length l0) (hc0 : l0.length ≤ c0) (hr1 : Kd.C k25 w A1 l1.length l1) (hc1 : l1.length ≤ c1) (h : extent_Union.f l0 l1 = some r) :
    Calls Try.prog 27 #[.slice A0 l0.length c0, .slice A1 l1.length c1] w fun e w' => ∃ v0_ : Value, e = .returned (v0_) ∧ Kd.R k25 25 w' w.heap.size (fun _ => True) v0_ r ∧ Below w.heap.size w w' := by
  unfold extent_Union.f at h
  split at h
  · rename_i hb
    obtain rfl := Option.some.inj h
    obtain ⟨k, hk⟩ := (union_ev l0 l1 hb.1 hb.2).1.rounds
    have hcon := Aside0.mk (extent_spans.calls k extent_Union_1.f 40 #[] entE_Union _ 2 [l0, l1] (unionL l0 l1) _ (read_lists2 w A0 c0 l0 hr0 hc0 A1 c1 l1 hr1 hc1) (Nat.le_refl _) (fun A c y z W _ h1 h2 h3 => (extent_Union_1.calls A c y z W h1 h2 h3).mono fun _ _ q => ⟨q.1, Drawn0.below q.2⟩) hk)
    clear hk hr0 hr1 h hb
    go_enter Try.func27, Try.ntmps27
    go_wp2_with (go_at_call 39; refine hcon.out.mono ?_; rintro e w' ⟨v, rfl, hR, hB⟩)
    go_ret
    exact ⟨_, rfl, Kd.R_lower hR (by simp), below_step (below_alloc (Below.refl _ _) _) hB⟩
  · exact absurd h (by simp)
set_option maxHeartbeats 1000000 in
theorem extent_Subtract.calls (A0 : Option Addr) (c0 : Nat) (l0 : List Sp) (A1 : Option Addr) (c1 : Nat) (l1 : List Sp) (r : List Sp) (w : World) (hr0 : Kd.C k25 w A0 l0.length l0) (hc0 : l0.length ≤ c0) (hr1 : Kd.C k25 w A1 l1.length l1) (hc1 : l1.length ≤ c1) (h : extent_Subtract.f l0 l1 = some r) :
    Calls Try.prog 34 #[.slice A0 l0.length c0, .slice A1 l1.length c1] w fun e w' => ∃ v0_ : Value, e = .returned (v0_) ∧ Kd.R k25 25 w' w.heap.size (fun _ => True) v0_ r ∧ Below w.heap.size w w' := by
  unfold extent_Subtract.f at h
  split at h
  · rename_i hb
    obtain rfl := Option.some.inj h
    obtain ⟨k, hk⟩ := (sub_ev l0 l1 hb.1 hb.2).1.rounds
    have hcon := Aside0.mk (extent_spans.calls k extent_Subtract_1.f 42 #[] entE_Subtract _ 2 [l0, l1] (subL l0 l1) _ (read_lists2 w A0 c0 l0 hr0 hc0 A1 c1 l1 hr1 hc1) (Nat.le_refl _) (fun A c y z W _ h1 h2 h3 => (extent_Subtract_1.calls A c y z W h1 h2 h3).mono fun _ _ q => ⟨q.1, Drawn0.below q.2⟩) hk)
    clear hk hr0 hr1 h hb
    go_enter Try.func34, Try.ntmps34
    go_wp2_with (go_at_call 39; refine hcon.out.mono ?_; rintro e w' ⟨v, rfl, hR, hB⟩)
    go_ret
    exact ⟨_, rfl, Kd.R_lower hR (by simp), below_step (below_alloc (Below.refl _ _) _) hB⟩
  · exact absurd h (by simp)
end Go.Proofs.Ytapbmkcncjkanaa.P
namespace Go.Proofs.Ytapbmkcncjkanaa.P
open Go.RowKit Go.Proofs Go.Proofs.YtapbmkcncjkanaaW.PrintWords Go.Proofs.YtapbmkcncjkanaaW.PrintLast Go.Proofs.YtapbmkcncjkanaaW.PrintMore

theorem wrap64_of (x : Int) (h0 : -9223372036854775808 ≤ x) (h1 : x ≤ 9223372036854775807) : wrap64 x = x := by unfold wrap64; omega
theorem nrm_spec (l : List Sp) (h : l.length < bigS) : Norm (nrm l) ∧ ∀ n, inL (nrm l) n = inL l n := (normal_ev l h).2.1
theorem rd_at (l pre : List Sp) (s : Sp) (suf : List Sp) (h : l = pre ++ s :: suf) : rd_T25 l (pre.length : Int) = s := by
  unfold rd_T25
  rw [Int.toNat_natCast, h]
  simp [List.getD_eq_getElem?_getD]
theorem rd_last (pre : List Sp) (s : Sp) : rd_T25 (pre ++ [s]) (wrap64 (((pre ++ [s]).length : Int) - 1)) = s ∨ ¬ (pre.length < 9223372036854775807) := by
  by_cases h : pre.length < 9223372036854775807
  · left
    have e : wrap64 (((pre ++ [s]).length : Int) - 1) = (pre.length : Int) := by
      rw [List.length_append, List.length_singleton]; unfold wrap64; omega
    rw [e]
    exact rd_at _ pre s [] rfl
  · exact .inr h

end Go.Proofs.Ytapbmkcncjkanaa.P
