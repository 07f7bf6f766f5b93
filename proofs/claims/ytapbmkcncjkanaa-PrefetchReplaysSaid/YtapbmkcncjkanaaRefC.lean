/- The reference's set operations: the normal lists of the sets. The reference's sweep from place to place. The reference's Total and Covers, and the guard on lengths. -/
import Derived.Test.YtapbmkcncjkanaaExtE
import Derived.Test.YtapbmkcncjkanaaExtI
import Derived.Test.YtapbmkcncjkanaaNormP
import Derived.Test.YtapbmkcncjkanaaRefIn
import Derived.Test.YtapbmkcncjkanaaP22
import Derived.Test.YtapbmkcncjkanaaP22
import Derived.Test.YtapbmkcncjkanaaP20
import Derived.Test.YtapbmkcncjkanaaP19
import Derived.Test.YtapbmkcncjkanaaP28
import Derived.Test.YtapbmkcncjkanaaLives
import Derived.Test.YtapbmkcncjkanaaP22
import Derived.Test.YtapbmkcncjkanaaP25
set_option linter.unusedVariables false
set_option linter.unusedSimpArgs false
namespace Go.Proofs.Ytapbmkcncjkanaa.P
open Go.RowKit Go.Proofs Go.Proofs.YtapbmkcncjkanaaW.PrintWords Go.Proofs.YtapbmkcncjkanaaW.PrintLast Go.Proofs.YtapbmkcncjkanaaW.PrintMore

/-! ### The places where a span begins or ends -/
def cutsI (c : List Int) : List Sp → List Int
  | [] => c
  | s :: l => cutsI (if hasS s = true then insI (insI c s.f0) (s.f0 + s.f1) else c) l
theorem insI_length : ∀ (l : List Int) (a : Int), (insI l a).length ≤ l.length + 1
  | [], a => by simp [insI]
  | x :: l, a => by
    have ih := insI_length l a
    unfold insI
    split
    · simp; omega
    · split <;> simp
theorem insI_mem : ∀ (l : List Int) (a y : Int), y ∈ insI l a ↔ y = a ∨ y ∈ l
  | [], a, y => by simp [insI]
  | x :: l, a, y => by
    have ih := insI_mem l a y
    unfold insI
    split
    · rw [List.mem_cons, ih, List.mem_cons]
      constructor
      · rintro (h | h | h) <;> simp [h]
      · rintro (h | h | h) <;> simp [h]
    · split
      · rename_i h
        rw [List.mem_cons]
        constructor
        · rintro (h1 | h1) <;> simp [h1]
        · rintro (h1 | h1 | h1)
          · exact .inl (by omega)
          · exact .inl h1
          · exact .inr h1
      · simp
theorem insI_sorted : ∀ (l : List Int) (a : Int), l.Pairwise (· < ·) → (insI l a).Pairwise (· < ·)
  | [], a, _ => by simp [insI]
  | x :: l, a, h => by
    have h' := List.pairwise_cons.1 h
    have ih := insI_sorted l a h'.2
    unfold insI
    split
    · rename_i hx
      exact List.pairwise_cons.2 ⟨fun y hy => by rcases (insI_mem l a y).1 hy with rfl | hy; · exact hx
                                                 · exact h'.1 y hy, ih⟩
    · split
      · exact h
      · rename_i h1 h2
        exact List.pairwise_cons.2 ⟨fun y hy => by rcases List.mem_cons.1 hy with rfl | hy; · omega
                                                   · have := h'.1 y hy; omega, h⟩
theorem cutsI_length : ∀ (l : List Sp) (c : List Int), (cutsI c l).length ≤ c.length + 2 * l.length
  | [], c => by simp [cutsI]
  | s :: l, c => by
    have ih := cutsI_length l (if hasS s = true then insI (insI c s.f0) (s.f0 + s.f1) else c)
    unfold cutsI
    rw [List.length_cons]
    split at ih
    · rename_i hs
      have h1 := insI_length c s.f0
      have h2 := insI_length (insI c s.f0) (s.f0 + s.f1)
      rw [if_pos hs]
      omega
    · rename_i hs
      rw [if_neg hs]
      omega
theorem cutsI_sorted : ∀ (l : List Sp) (c : List Int), c.Pairwise (· < ·) → (cutsI c l).Pairwise (· < ·)
  | [], c, h => h
  | s :: l, c, h => by
    unfold cutsI
    refine cutsI_sorted l _ ?_
    split
    · exact insI_sorted _ _ (insI_sorted _ _ h)
    · exact h
theorem cutsI_mem : ∀ (l : List Sp) (c : List Int) (y : Int), y ∈ cutsI c l ↔ y ∈ c ∨ ∃ s ∈ l, hasS s = true ∧ (y = s.f0 ∨ y = s.f0 + s.f1)
  | [], c, y => by simp [cutsI]
  | s :: l, c, y => by
    unfold cutsI
    rw [cutsI_mem l _ y]
    by_cases hs : hasS s = true
    · rw [if_pos hs, insI_mem, insI_mem]
      constructor
      · rintro ((h | h | h) | ⟨t, ht, h1, h2⟩)
        · exact .inr ⟨s, List.mem_cons_self, hs, .inr h⟩
        · exact .inr ⟨s, List.mem_cons_self, hs, .inl h⟩
        · exact .inl h
        · exact .inr ⟨t, List.mem_cons_of_mem _ ht, h1, h2⟩
      · rintro (h | ⟨t, ht, h1, h2⟩)
        · exact .inl (.inr (.inr h))
        · rcases List.mem_cons.1 ht with rfl | ht
          · rcases h2 with h2 | h2
            · exact .inl (.inr (.inl h2))
            · exact .inl (.inl h2)
          · exact .inr ⟨t, ht, h1, h2⟩
    · rw [if_neg hs]
      constructor
      · rintro (h | ⟨t, ht, h1, h2⟩)
        · exact .inl h
        · exact .inr ⟨t, List.mem_cons_of_mem _ ht, h1, h2⟩
      · rintro (h | ⟨t, ht, h1, h2⟩)
        · exact .inl h
        · rcases List.mem_cons.1 ht with rfl | ht
          · exact absurd h1 hs
          · exact .inr ⟨t, ht, h1, h2⟩
theorem redges_l0 (l : List Sp) (hl : l.length < 274877906944) : ∀ (suf pre : List Sp) (c : List Int), l = pre ++ suf → c.length ≤ 2 * pre.length → Ev (fun k => r34_edges.l0 k l c (pre.length : Int)) (cutsI c suf)
  | [], pre, c, hpre, _ => by
    have hlen : (pre.length : Int) = l.length := by rw [hpre]; simp
    refine Ev.step (f := fun _ => some c) (fun k => ?_) (Ev.now _)
    simp only [r34_edges.l0]
    rw [if_neg (by omega)]
  | s :: suf, pre, c, hpre, hc => by
    have hlen : l.length = pre.length + (suf.length + 1) := by rw [hpre]; simp
    have hget := rd_at l pre s suf hpre
    have ep : ((pre ++ [s]).length : Int) = ((pre.length + 1 : Nat) : Int) := by simp
    have i1 := insI_length c s.f0
    have i2 := insI_length (insI c s.f0) (s.f0 + s.f1)
    have ih := redges_l0 l hl suf (pre ++ [s]) (if hasS s = true then insI (insI c s.f0) (s.f0 + s.f1) else c) (by simp [hpre]) (by rw [List.length_append, List.length_singleton]; split <;> omega)
    rw [ep] at ih
    refine Ev.step (fun k => ?_) ih
    simp only [r34_edges.l0]
    rw [if_pos (by omega), if_pos (by omega), hget, has_eq]
    simp only [Option.bind_some]
    rw [show hasS (⟨s.f0, s.f1⟩ : Sp) = hasS s from rfl, wrap_succ _ (by omega)]
    by_cases hs : hasS s = true
    · have hs' := (hasS_iff s).1 hs
      rw [if_pos hs, if_pos hs]
      unfold r34_insert.f
      rw [if_pos (by omega)]
      simp only [Option.bind_some]
      rw [if_pos (by omega), wrap64_of (s.f0 + s.f1) (by omega) (by omega)]
      rfl
    · rw [if_neg hs, if_neg hs]
theorem redges_ev (l : List Sp) (hl : l.length < 274877906944) : Ev (fun k => r34_edges.f k l) (cutsI [] l) := by
  have h := redges_l0 l hl l [] [] rfl (by simp)
  exact Ev.congr (fun k => rfl) h

/-! ### add: a piece behind the last span -/
def addL : List Sp → Int → Int → List Sp
  | [], a, b => [⟨a, b - a⟩]
  | [s], a, b => if s.f0 + s.f1 = a then [⟨s.f0, b - s.f0⟩] else [s, ⟨a, b - a⟩]
  | s :: t :: l, a, b => s :: addL (t :: l) a b
theorem addL_snoc (l : List Sp) (s : Sp) (a b : Int) : addL (l ++ [s]) a b = if s.f0 + s.f1 = a then l ++ [⟨s.f0, b - s.f0⟩] else l ++ [s] ++ [⟨a, b - a⟩] := by
  induction l with
  | nil => simp only [List.nil_append, addL]; split <;> rfl
  | cons x l ih =>
    cases l with
    | nil => simp only [List.nil_append, List.cons_append, addL] at *; split <;> rfl
    | cons y l =>
      simp only [List.cons_append, addL] at *
      rw [ih]
      split <;> rfl
theorem addL_length (l : List Sp) (a b : Int) : (addL l a b).length ≤ l.length + 1 := by
  rcases eq_nil_or_snoc l with rfl | ⟨m, s, rfl⟩
  · simp [addL]
  · rw [addL_snoc]
    split <;> simp
theorem add_ev (l : List Sp) (a b : Int) (hl : l.length < 1099511627776) (hN : Norm l) (hb : 0 ≤ a ∧ a ≤ 1125899906842624 ∧ 0 ≤ b ∧ b ≤ 1125899906842624) : Ev (fun k => r34_add.f k l a b) (addL l a b) := by
  rcases eq_nil_or_snoc l with rfl | ⟨m, s, rfl⟩
  · refine Ev.congr (f := fun k => r34_add.j0 k [] a b 0 false) (fun k => ?_) (Ev.step (f := fun _ => some (addL [] a b)) (fun k => ?_) (Ev.now _))
    · unfold r34_add.f
      rw [if_neg (by simp)]
      rfl
    · simp only [r34_add.j0]
      rw [if_neg (by simp), if_pos (by simp), wrap64_of (b - a) (by omega) (by omega)]
      rfl
  · have hs := (hasS_iff s).1 (hN.1 s (by simp))
    have hlen : (m ++ [s]).length = m.length + 1 := by simp
    have hw : wrap64 (((m ++ [s]).length : Int) - 1) = (m.length : Int) := by rw [hlen]; exact (wrap64_of _ (by omega) (by omega)).trans (by omega)
    have hget := rd_at (m ++ [s]) m s [] rfl
    refine Ev.congr (f := fun k => r34_add.j0 k (m ++ [s]) a b ((m ++ [s]).length : Int) (decide (s.f0 + s.f1 = a))) (fun k => ?_) (Ev.step (f := fun _ => some (addL (m ++ [s]) a b)) (fun k => ?_) (Ev.now _))
    · unfold r34_add.f
      rw [if_pos (by omega), hw, if_pos (by omega), if_pos (by omega), hget, wrap64_of (s.f0 + s.f1) (by omega) (by omega)]
      rfl
    · simp only [r34_add.j0]
      rw [addL_snoc, hw]
      by_cases h : s.f0 + s.f1 = a
      · rw [if_pos (decide_eq_true h), if_pos h, if_pos (by omega), if_pos (by omega), hget, wrap64_of (b - s.f0) (by omega) (by omega), Int.toNat_natCast]
        simp
      · rw [if_neg (by simpa using h), if_neg h, if_pos (by omega), wrap64_of (b - a) (by omega) (by omega)]
end Go.Proofs.Ytapbmkcncjkanaa.P
namespace Go.Proofs.Ytapbmkcncjkanaa.P
open Go.RowKit Go.Proofs Go.Proofs.YtapbmkcncjkanaaW.PrintWords Go.Proofs.YtapbmkcncjkanaaW.PrintLast Go.Proofs.YtapbmkcncjkanaaW.PrintMore

def comb (g : Int → Bool) : List Sp → List Int → List Sp
  | out, c :: d :: r => comb g (if g c = true then addL out c d else out) (d :: r)
  | out, _ => out
/-- What is known of the spans so far, up to a place. -/
structure Swept (G : Int → Bool) (out : List Sp) (c : Int) : Prop where
  norm : Norm out
  le : ∀ s ∈ out, s.f0 + s.f1 ≤ c
  mem : ∀ n, n < c → inL out n = G n
theorem Swept.off {G : Int → Bool} {out : List Sp} {c n : Int} (h : Swept G out c) (hn : c ≤ n) : inL out n = false := by
  cases hx : inL out n with
  | false => rfl
  | true =>
    obtain ⟨s, hs, _, _, h2⟩ := (inL_iff out n).1 hx
    have := h.le s hs
    omega
theorem Swept.step {G : Int → Bool} {out : List Sp} {c d : Int} (h : Swept G out c) (hc : 0 ≤ c ∧ c < d ∧ d ≤ 1125899906842624) (hG : ∀ n, c ≤ n → n < d → G n = G c) : Swept G (if G c = true then addL out c d else out) d := by
  by_cases hg : G c = true
  · rw [if_pos hg]
    rcases eq_nil_or_snoc out with rfl | ⟨m, s, rfl⟩
    · have hs : hasS (⟨c, d - c⟩ : Sp) = true := (hasS_iff _).2 ⟨hc.1, by simp only; omega, by simp only; omega⟩
      refine ⟨⟨fun t ht => by rw [List.mem_singleton.1 ht]; exact hs, List.pairwise_singleton _ _⟩, fun t ht => by rw [List.mem_singleton.1 ht]; simp only; omega, fun n hn => ?_⟩
      simp only [addL]
      rw [inL_cons, inL_nil, Bool.or_false]
      by_cases h1 : c ≤ n
      · rw [hG n h1 hn, hg]
        exact (memS_iff _ n).2 ⟨hs, h1, by simp only; omega⟩
      · rw [← h.mem n (by omega), inL_nil, Bool.eq_false_iff]
        intro hm
        exact h1 ((memS_iff _ n).1 hm).2.1
    · rw [addL_snoc]
      have hsm : hasS s = true := h.norm.1 s (by simp)
      have hs := (hasS_iff s).1 hsm
      have hse := h.le s (by simp)
      have hpm := List.pairwise_append.1 h.norm.2
      by_cases he : s.f0 + s.f1 = c
      · rw [if_pos he]
        have ht : hasS (⟨s.f0, d - s.f0⟩ : Sp) = true := (hasS_iff _).2 ⟨hs.1, by simp only; omega, by simp only; omega⟩
        have hNm : Norm m := ⟨fun t ht => h.norm.1 t (by simp [ht]), hpm.1⟩
        refine ⟨hNm.snoc ht fun t ht => hpm.2.2 t ht s (by simp), fun t ht => ?_, fun n hn => ?_⟩
        · rcases List.mem_append.1 ht with ht | ht
          · have := h.le t (by simp [ht]); omega
          · rw [List.mem_singleton.1 ht]; simp only; omega
        · rw [inL_append, inL_cons, inL_nil, Bool.or_false]
          by_cases h1 : c ≤ n
          · rw [hG n h1 hn, hg, (memS_iff _ n).2 ⟨ht, by simp only; omega, by simp only; omega⟩, Bool.or_true]
          · rw [← h.mem n (by omega), inL_append, inL_cons, inL_nil, Bool.or_false]
            congr 1
            rw [Bool.eq_iff_iff, memS_iff, memS_iff]
            simp only
            constructor
            · rintro ⟨_, h2, h3⟩; exact ⟨hsm, h2, by omega⟩
            · rintro ⟨_, h2, h3⟩; exact ⟨ht, h2, by omega⟩
      · rw [if_neg he]
        have ht : hasS (⟨c, d - c⟩ : Sp) = true := (hasS_iff _).2 ⟨hc.1, by simp only; omega, by simp only; omega⟩
        refine ⟨h.norm.snoc ht fun t ht => ?_, fun t ht => ?_, fun n hn => ?_⟩
        · simp only
          rcases List.mem_append.1 ht with ht | ht
          · have := hpm.2.2 t ht s (by simp); omega
          · rw [List.mem_singleton.1 ht]; omega
        · rcases List.mem_append.1 ht with ht | ht
          · have := h.le t ht; omega
          · rw [List.mem_singleton.1 ht]; simp only; omega
        · rw [inL_append, inL_cons, inL_nil, Bool.or_false]
          by_cases h1 : c ≤ n
          · rw [hG n h1 hn, hg, (memS_iff _ n).2 ⟨ht, h1, by simp only; omega⟩, Bool.or_true]
          · rw [← h.mem n (by omega), show memS ⟨c, d - c⟩ n = false by rw [Bool.eq_false_iff]; intro hm; exact h1 ((memS_iff _ n).1 hm).2.1, Bool.or_false]
  · rw [if_neg hg]
    refine ⟨h.norm, fun s hs => by have := h.le s hs; omega, fun n hn => ?_⟩
    by_cases h1 : c ≤ n
    · rw [hG n h1 hn, h.off h1]
      simpa using hg
    · exact h.mem n (by omega)
theorem comb_spec (G : Int → Bool) : ∀ (cs : List Int) (out : List Sp), cs.Pairwise (· < ·) → (∀ c ∈ cs, 0 ≤ c ∧ c ≤ 1125899906842624) → (∀ n m : Int, n < m → (∀ c ∈ cs, ¬ (n < c ∧ c ≤ m)) → (∀ c, cs.head? = some c → c ≤ n) → G n = G m) → (∀ n, (∀ c ∈ cs, c ≤ n) → G n = false) → (∀ c, cs.head? = some c → Swept G out c) → cs ≠ [] → Norm (comb G out cs) ∧ ∀ n, inL (comb G out cs) n = G n
  | [], _, _, _, _, _, _, hne => absurd rfl hne
  | [c], out, _, _, _, hlast, hsw, _ => by
    have h := hsw c rfl
    refine ⟨h.norm, fun n => ?_⟩
    show inL out n = G n
    by_cases h1 : c ≤ n
    · rw [h.off h1, hlast n (by simpa using h1)]
    · exact h.mem n (by omega)
  | c :: d :: r, out, hp, hb, hG, hlast, hsw, _ => by
    have h := hsw c rfl
    have hp' := List.pairwise_cons.1 hp
    have hcd := hp'.1 d List.mem_cons_self
    have hc := hb c List.mem_cons_self
    have hd := hb d (by simp)
    have h1 := h.step (d := d) ⟨hc.1, hcd, hd.2⟩ (fun n h2 h3 => by
      by_cases h4 : c = n
      · rw [h4]
      · refine (hG c n (by omega) (fun e he => ?_) (by simp)).symm
        rcases List.mem_cons.1 he with rfl | he
        · omega
        · rcases List.mem_cons.1 he with rfl | he
          · omega
          · have := (List.pairwise_cons.1 hp'.2).1 e he
            omega)
    refine comb_spec G (d :: r) (if G c = true then addL out c d else out) hp'.2 (fun e he => hb e (List.mem_cons_of_mem _ he)) (fun n m hnm h2 h3 => hG n m hnm (fun e he => ?_) (by simp; have := h3 d rfl; omega)) (fun n hn => hlast n (fun e he => ?_)) (by simpa using h1) (by simp)
    · rcases List.mem_cons.1 he with rfl | he
      · have := h3 d rfl; omega
      · exact h2 e he
    · rcases List.mem_cons.1 he with rfl | he
      · have := hn d List.mem_cons_self; omega
      · exact hn e he

/-- A list's integers do not change where no span begins or ends. -/
theorem inL_flat (l : List Sp) (n m : Int) (hnm : n < m) (h : ∀ s ∈ l, hasS s = true → ¬ (n < s.f0 ∧ s.f0 ≤ m) ∧ ¬ (n < s.f0 + s.f1 ∧ s.f0 + s.f1 ≤ m)) : inL l n = inL l m := by
  rw [Bool.eq_iff_iff, inL_iff, inL_iff]
  constructor
  · rintro ⟨s, hs, h1, h2, h3⟩
    have := h s hs h1
    exact ⟨s, hs, h1, by omega, by omega⟩
  · rintro ⟨s, hs, h1, h2, h3⟩
    have := h s hs h1
    have := (hasS_iff s).1 h1
    exact ⟨s, hs, h1, by omega, by omega⟩

theorem addL_norm {out : List Sp} {c d : Int} (hN : Norm out ∧ ∀ s ∈ out, s.f0 + s.f1 ≤ c) (h1 : 0 ≤ c) (h2 : c < d) (h3 : d ≤ 1125899906842624) : Norm (addL out c d) ∧ ∀ s ∈ addL out c d, s.f0 + s.f1 ≤ d := by
  have h0 : Swept (fun n => if n < c then inL out n else true) out c := ⟨hN.1, hN.2, fun n hn => (if_pos hn).symm⟩
  have h := h0.step (d := d) ⟨h1, h2, h3⟩ (fun n h1 h2 => (if_neg (by omega)).trans (if_neg (by omega)).symm)
  have e : (fun n => if n < c then inL out n else true) c = true := if_neg (by omega)
  rw [if_pos e] at h
  exact ⟨h.norm, h.le⟩
theorem rd_get (l pre : List Int) (c : Int) (suf : List Int) (h : l = pre ++ c :: suf) : rd l (pre.length : Int) = c := by
  unfold rd
  rw [Int.toNat_natCast, h]
  simp [List.getD_eq_getElem?_getD]
def ruleOf (op : Int) (a b : Bool) : Bool := if op = 1 then a || b else if op = 2 then a && b else if op = 3 then a && !b else false
theorem combine_l0 (a b : List Sp) (op : Int) (cs : List Int) (ha : a.length < 68719476736) (hb : b.length < 68719476736) (hcl : cs.length < 549755813888) (hcs : ∀ c ∈ cs, 0 ≤ c ∧ c ≤ 1125899906842624) (hp : cs.Pairwise (· < ·)) : ∀ (suf pre : List Int) (out : List Sp), cs = pre ++ suf → out.length ≤ pre.length → (∀ c, suf.head? = some c → Norm out ∧ ∀ s ∈ out, s.f0 + s.f1 ≤ c) →
    Ev (fun k => r34_combine.l0 k a b op cs out (pre.length : Int)) (comb (fun c => ruleOf op (inL a c) (inL b c)) out suf)
  | [], pre, out, hpre, ho, _ => by
    have hlen : (pre.length : Int) = cs.length := by rw [hpre]; simp
    refine Ev.step (f := fun _ => some out) (fun k => ?_) (Ev.now _)
    simp only [r34_combine.l0]
    rw [wrap_succ _ (by omega), if_neg (by omega)]
  | [c], pre, out, hpre, ho, _ => by
    have hlen : cs.length = pre.length + 1 := by rw [hpre]; simp
    refine Ev.step (f := fun _ => some out) (fun k => ?_) (Ev.now _)
    simp only [r34_combine.l0]
    rw [wrap_succ _ (by omega), if_neg (by omega)]
  | c :: d :: r, pre, out, hpre, ho, hN => by
    have hlen : cs.length = pre.length + (r.length + 1 + 1) := by rw [hpre]; simp
    have hgc := rd_get cs pre c (d :: r) hpre
    have hgd : rd cs ((pre.length + 1 : Nat) : Int) = d := by
      have := rd_get cs (pre ++ [c]) d r (by simp [hpre])
      rw [List.length_append, List.length_singleton] at this
      exact this
    have hcb := hcs c (by rw [hpre]; simp)
    have hdb := hcs d (by rw [hpre]; simp)
    have hcd : c < d := by
      rw [hpre] at hp
      exact (List.pairwise_cons.1 (List.pairwise_append.1 hp).2.1).1 d List.mem_cons_self
    have hN' := hN c rfl
    have hAN := addL_norm hN' hcb.1 hcd hdb.2
    have hON : Norm out ∧ ∀ s ∈ out, s.f0 + s.f1 ≤ d := ⟨hN'.1, fun s hs => Int.le_trans (hN'.2 s hs) (Int.le_of_lt hcd)⟩
    have hAl : (addL out c d).length ≤ (pre ++ [c]).length := by have := addL_length out c d; rw [List.length_append, List.length_singleton]; omega
    have hOl : out.length ≤ (pre ++ [c]).length := by rw [List.length_append, List.length_singleton]; omega
    have ep : ((pre ++ [c]).length : Int) = ((pre.length + 1 : Nat) : Int) := by simp
    have n0 : 0 ≤ (pre.length : Int) := by omega
    have n1 : (pre.length : Int) < (cs.length : Int) := by omega
    have n2 : 0 ≤ ((pre.length + 1 : Nat) : Int) := by omega
    have n3 : ((pre.length + 1 : Nat) : Int) < (cs.length : Int) := by omega
    have n4 : out.length < 1099511627776 := by omega
    have n5 : a.length < 1099511627776 := by omega
    have n6 : b.length < 1099511627776 := by omega
    have hw := wrap_succ pre.length (by omega)
    have hstep : ∀ q : Bool, q = ruleOf op (inL a c) (inL b c) → Ev (fun k => r34_combine.j1 k a b op cs out (pre.length : Int) q) (comb (fun c => ruleOf op (inL a c) (inL b c)) out (c :: d :: r)) := by
      intro q hq
      have hcomb : comb (fun c => ruleOf op (inL a c) (inL b c)) out (c :: d :: r) = comb (fun c => ruleOf op (inL a c) (inL b c)) (if q = true then addL out c d else out) (d :: r) := by rw [hq]; rfl
      rw [hcomb]
      have hSw : Norm (if q = true then addL out c d else out) ∧ ∀ s ∈ (if q = true then addL out c d else out), s.f0 + s.f1 ≤ d := by
        cases q with
        | true => exact hAN
        | false => exact hON
      have hol : (if q = true then addL out c d else out).length ≤ (pre ++ [c]).length := by
        cases q with
        | true => exact hAl
        | false => exact hOl
      have ih := combine_l0 a b op cs ha hb hcl hcs hp (d :: r) (pre ++ [c]) (if q = true then addL out c d else out) (by simp [hpre]) hol (fun e he => by
        simp only [List.head?_cons, Option.some.injEq] at he
        subst he
        exact hSw)
      rw [ep] at ih
      cases q with
      | true =>
        rw [if_pos rfl] at ih ⊢
        have h2 := Ev.bind (f := fun k t => r34_combine.l0 k a b op cs t ((pre.length + 1 : Nat) : Int)) (add_ev out c d n4 hN'.1 ⟨hcb.1, hcb.2, hdb.1, hdb.2⟩) ih
        refine Ev.step (fun k => ?_) h2
        simp only [r34_combine.j1]
        rw [if_pos trivial, hw, if_pos n0, if_pos n1, if_pos n2, if_pos n3, hgc, hgd]
      | false =>
        rw [if_neg (by simp)] at ih ⊢
        refine Ev.step (fun k => ?_) ih
        simp only [r34_combine.j1]
        rw [if_neg (by simp), hw]
    have hlast := hstep _ rfl
    have hin := Ev.bind (f := fun k t => (r34_In.f k b c).bind fun t301 => r34_combine.j1 k a b op cs out (pre.length : Int) (ruleOf op t t301)) (In_ev a c n5) (Ev.bind (f := fun k t301 => r34_combine.j1 k a b op cs out (pre.length : Int) (ruleOf op (inL a c) t301)) (In_ev b c n6) hlast)
    refine Ev.step (fun k => ?_) hin
    simp only [r34_combine.l0]
    rw [hw, if_pos n3, if_pos n0, if_pos n1, hgc]
    refine congrArg _ (funext fun t => congrArg _ (funext fun u => ?_))
    unfold ruleOf
    by_cases h1 : op = 1
    · subst h1
      rw [if_pos rfl]
      cases t <;> cases u <;> simp
    · rw [if_neg h1]
      by_cases h2 : op = 2
      · subst h2
        rw [if_pos rfl]
        cases t <;> cases u <;> simp
      · rw [if_neg h2]
        by_cases h3 : op = 3
        · subst h3
          rw [if_pos rfl]
          cases t <;> cases u <;> simp
        · rw [if_neg h3]
          cases t <;> cases u <;> simp [h1, h2, h3]

theorem comb_len (g : Int → Bool) : ∀ (cs : List Int) (out : List Sp), (comb g out cs).length ≤ out.length + cs.length
  | [], out => by simp [comb]
  | [c], out => by simp [comb]
  | c :: d :: r, out => by
    have h := addL_length out c d
    have ih := comb_len g (d :: r) (if g c = true then addL out c d else out)
    have h2 : (if g c = true then addL out c d else out).length ≤ out.length + 1 := by split <;> omega
    show (comb g (if g c = true then addL out c d else out) (d :: r)).length ≤ _
    simp only [List.length_cons] at ih ⊢
    omega
theorem combine_all (a b : List Sp) (op : Int) (ha : a.length < 68719476736) (hb : b.length < 68719476736) :
    Ev (fun k => r34_combine.f k a b op) (canon fun n => ruleOf op (inL a n) (inL b n)) ∧ Norm (canon fun n => ruleOf op (inL a n) (inL b n)) ∧ (∀ n, inL (canon fun n => ruleOf op (inL a n) (inL b n)) n = ruleOf op (inL a n) (inL b n)) ∧ (canon fun n => ruleOf op (inL a n) (inL b n)).length ≤ 2 * (a.length + b.length) := by
  have hl : (a ++ b).length < 274877906944 := by rw [List.length_append]; omega
  have hE := redges_ev (a ++ b) hl
  have hcl := cutsI_length (a ++ b) []
  have hso := cutsI_sorted (a ++ b) [] List.Pairwise.nil
  have hme := cutsI_mem (a ++ b) []
  generalize hcs : cutsI [] (a ++ b) = cs at *
  have hrng : ∀ c ∈ cs, 0 ≤ c ∧ c ≤ 1125899906842624 := fun c hc => by
    rcases (hme c).1 hc with h | ⟨s, _, hs, h⟩
    · simp at h
    · have := (hasS_iff s).1 hs
      omega
  have hR := combine_l0 a b op cs ha hb (by rw [List.length_append] at hcl; simp only [List.length_nil] at hcl; omega) hrng hso cs [] [] rfl (by simp) (fun c _ => ⟨Norm.nil, fun s hs => by simp at hs⟩)
  have hfF : ruleOf op false false = false := by unfold ruleOf; split; · rfl
                                                 split; · rfl
                                                 split <;> rfl
  have hG : ∀ n m : Int, n < m → (∀ c ∈ cs, ¬ (n < c ∧ c ≤ m)) → ruleOf op (inL a n) (inL b n) = ruleOf op (inL a m) (inL b m) := by
    intro n m hnm hno
    have hk : ∀ l : List Sp, (∀ s ∈ l, s ∈ a ++ b) → inL l n = inL l m := fun l hl => inL_flat l n m hnm (fun s hs h1 => ⟨hno _ ((hme _).2 (.inr ⟨s, hl s hs, h1, .inl rfl⟩)), hno _ ((hme _).2 (.inr ⟨s, hl s hs, h1, .inr rfl⟩))⟩)
    rw [hk a (by intro s hs; simp [hs]), hk b (by intro s hs; simp [hs])]
  have hhi : ∀ n, (∀ c ∈ cs, c ≤ n) → ruleOf op (inL a n) (inL b n) = false := by
    intro n hn
    have hk : ∀ l : List Sp, (∀ s ∈ l, s ∈ a ++ b) → inL l n = false := fun l hl => by
      rw [Bool.eq_false_iff]
      intro hx
      obtain ⟨s, hs, h1, h2, h3⟩ := (inL_iff l n).1 hx
      have := hn _ ((hme (s.f0 + s.f1)).2 (.inr ⟨s, hl s hs, h1, .inr rfl⟩))
      omega
    rw [hk a (by intro s hs; simp [hs]), hk b (by intro s hs; simp [hs]), hfF]
  have hlo : ∀ n, (∀ c ∈ cs, n < c) → ruleOf op (inL a n) (inL b n) = false := by
    intro n hn
    have hk : ∀ l : List Sp, (∀ s ∈ l, s ∈ a ++ b) → inL l n = false := fun l hl => by
      rw [Bool.eq_false_iff]
      intro hx
      obtain ⟨s, hs, h1, h2, h3⟩ := (inL_iff l n).1 hx
      have := hn _ ((hme s.f0).2 (.inr ⟨s, hl s hs, h1, .inl rfl⟩))
      omega
    rw [hk a (by intro s hs; simp [hs]), hk b (by intro s hs; simp [hs]), hfF]
  have hcan : canon (fun n => ruleOf op (inL a n) (inL b n)) = comb (fun c => ruleOf op (inL a c) (inL b c)) [] cs ∧ Norm (comb (fun c => ruleOf op (inL a c) (inL b c)) [] cs) ∧ ∀ n, inL (comb (fun c => ruleOf op (inL a c) (inL b c)) [] cs) n = ruleOf op (inL a n) (inL b n) := by
    match cs, hso, hrng, hG, hhi, hlo with
    | [], _, _, _, hhi, _ => exact ⟨canon_eq (l := comb _ [] []) Norm.nil fun n => (hhi n (by simp)).symm, Norm.nil, fun n => (hhi n (by simp)).symm⟩
    | c :: cs, hso, hrng, hG, hhi, hlo =>
      have h := comb_spec (fun c => ruleOf op (inL a c) (inL b c)) (c :: cs) [] hso hrng (fun n m hnm h1 _ => hG n m hnm h1) hhi (fun e he => ⟨Norm.nil, fun s hs => by simp at hs, fun n hn => by
        simp only [List.head?_cons, Option.some.injEq] at he
        subst he
        rw [inL_nil]
        refine (hlo n fun e he => ?_).symm
        rcases List.mem_cons.1 he with rfl | he
        · exact hn
        · have := (List.pairwise_cons.1 hso).1 e he; omega⟩) (by simp)
      exact ⟨canon_eq h.1 h.2, h.1, h.2⟩
  rw [hcan.1]
  have hlc := comb_len (fun c => ruleOf op (inL a c) (inL b c)) cs []
  refine ⟨?_, hcan.2.1, hcan.2.2, by rw [List.length_append] at hcl; simp only [List.length_nil] at hcl hlc; omega⟩
  have h2 := Ev.bind (f := fun k t => r34_combine.l0 k a b op t [] 0) hE hR
  refine Ev.congr (fun k => ?_) h2
  unfold r34_combine.f
  simp only [Option.bind_some, List.nil_append]
  rw [if_pos (by simp; omega), if_pos (by omega)]
theorem combine_ev (a b : List Sp) (op : Int) (ha : a.length < 68719476736) (hb : b.length < 68719476736) :
    Ev (fun k => r34_combine.f k a b op) (canon fun n => ruleOf op (inL a n) (inL b n)) := (combine_all a b op ha hb).1
theorem interL_spec (a b : List Sp) (ha : a.length < 68719476736) (hb : b.length < 68719476736) : Norm (interL a b) ∧ ∀ n, inL (interL a b) n = (inL a n && inL b n) := by
  have h := (combine_all a b 2 ha hb).2
  exact ⟨h.1, h.2.1⟩
theorem inter_len (a b : List Sp) (ha : a.length < 68719476736) (hb : b.length < 68719476736) : (interL a b).length ≤ 2 * (a.length + b.length) := (combine_all a b 2 ha hb).2.2.2

theorem refNormal_ev (a : List Sp) (ha : a.length < 68719476736) : Ev (fun k => r34_Normal.f k a) (nrm a) := by
  have h := combine_ev a [] 1 ha (by simp)
  have e : (canon fun n => ruleOf 1 (inL a n) (inL [] n)) = nrm a := by
    unfold nrm
    congr 1
    funext n
    simp [ruleOf, inL_nil]
  rw [e] at h
  refine Ev.congr (fun k => ?_) h
  unfold r34_Normal.f
  simp
theorem refUnion_ev (a b : List Sp) (ha : a.length < 68719476736) (hb : b.length < 68719476736) : Ev (fun k => r34_Union.f k a b) (unionL a b) := by
  have h := combine_ev a b 1 ha hb
  refine Ev.congr (fun k => ?_) h
  unfold r34_Union.f
  simp
theorem refInter_ev (a b : List Sp) (ha : a.length < 68719476736) (hb : b.length < 68719476736) : Ev (fun k => r34_Intersect.f k a b) (interL a b) := by
  have h := combine_ev a b 2 ha hb
  refine Ev.congr (fun k => ?_) h
  unfold r34_Intersect.f
  simp
theorem refSub_ev (a b : List Sp) (ha : a.length < 68719476736) (hb : b.length < 68719476736) : Ev (fun k => r34_Subtract.f k a b) (subL a b) := by
  have h := combine_ev a b 3 ha hb
  refine Ev.congr (fun k => ?_) h
  unfold r34_Subtract.f
  simp

end Go.Proofs.Ytapbmkcncjkanaa.P
namespace Go.Proofs.Ytapbmkcncjkanaa.P
open Go.RowKit Go.Proofs Go.Proofs.YtapbmkcncjkanaaW.PrintWords Go.Proofs.YtapbmkcncjkanaaW.PrintLast Go.Proofs.YtapbmkcncjkanaaW.PrintMore

theorem refTotal_l0 (m : List Sp) (hl : m.length < 137438953472) : ∀ (suf pre : List Sp) (x : Int), m = pre ++ suf → Norm suf → 0 ≤ x → x + totL suf ≤ 1125899906842624 →
    Ev (fun k => r34_Total.l0 k x m (pre.length : Int)) (x + totL suf)
  | [], pre, x, hpre, _, _, _ => by
    have : (pre.length : Int) = m.length := by rw [hpre]; simp
    refine Ev.step (f := fun _ => some x) (fun k => ?_) (by simpa [totL] using Ev.now x)
    simp only [r34_Total.l0]
    rw [if_neg (by omega)]
  | s :: suf, pre, x, hpre, hN, hx, hb => by
    have hlen : m.length = pre.length + (suf.length + 1) := by rw [hpre]; simp
    have hget := rd_at m pre s suf hpre
    have hs' := (hasS_iff s).1 hN.head
    have ht := hN.tail.totL_le.1
    rw [totL_cons] at hb
    have ih' := refTotal_l0 m hl suf (pre ++ [s]) (x + s.f1) (by simp [hpre]) hN.tail (by omega) (by omega)
    have ep : ((pre ++ [s]).length : Int) = ((pre.length + 1 : Nat) : Int) := by simp
    rw [ep, show x + s.f1 + totL suf = x + totL (s :: suf) by rw [totL_cons]; omega] at ih'
    refine Ev.step (fun k => ?_) ih'
    simp only [r34_Total.l0]
    rw [if_pos (by omega), if_pos (by omega), hget, wrap_succ pre.length (by omega), wrap64_of (x + s.f1) (by omega) (by omega)]
theorem refTotal_ev (l : List Sp) (hl : l.length < 34359738368) : Ev (fun k => r34_Total.f k l) (totL (nrm l)) := by
  have hb := normal_ev l (by unfold bigS; omega)
  have h := refTotal_l0 (nrm l) (by omega) (nrm l) [] 0 rfl hb.2.1.1 (by omega) (by have := hb.2.1.1.totL_max; omega)
  rw [Int.zero_add] at h
  have h2 := Ev.bind (f := fun k t => r34_Total.l0 k 0 t 0) (refNormal_ev l (by omega)) h
  refine Ev.congr (fun k => ?_) h2
  unfold r34_Total.f
  rfl
theorem refCovers_ev (l : List Sp) (a b : Int) (hl : l.length < 34359738368) : Ev (fun k => r34_Covers.f k l a b) (((subL [⟨a, b⟩] l).length : Int) == 0) := by
  have h := Ev.bind (f := fun k t => some ((t.length : Int) == 0)) (refSub_ev [⟨a, b⟩] l (by simp) (by omega)) (Ev.now _)
  refine Ev.congr (fun k => ?_) h
  unfold r34_Covers.f
  rfl
end Go.Proofs.Ytapbmkcncjkanaa.P
