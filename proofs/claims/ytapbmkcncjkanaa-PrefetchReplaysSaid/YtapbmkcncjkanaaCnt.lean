/- How many integers a set has below a bound, and the total of a normal list. -/
import Derived.Test.YtapbmkcncjkanaaLives
set_option linter.unusedVariables false
set_option linter.unusedSimpArgs false
namespace Go.Proofs.Ytapbmkcncjkanaa.P
open Go.RowKit Go.Proofs Go.Proofs.YtapbmkcncjkanaaW.PrintWords Go.Proofs.YtapbmkcncjkanaaW.PrintLast Go.Proofs.YtapbmkcncjkanaaW.PrintMore

/-! ### How many integers a set has below a bound -/
def ind (b : Bool) : Int := if b = true then 1 else 0
def cnt (g : Int → Bool) : Nat → Int
  | 0 => 0
  | k + 1 => cnt g k + ind (g (k : Int))
theorem cnt_two (g1 g2 g3 g4 : Int → Bool) (h : ∀ n, ind (g1 n) + ind (g2 n) = ind (g3 n) + ind (g4 n)) : ∀ k, cnt g1 k + cnt g2 k = cnt g3 k + cnt g4 k
  | 0 => rfl
  | k + 1 => by
    have ih := cnt_two g1 g2 g3 g4 h k
    have h1 := h (k : Int)
    simp only [cnt]
    omega
theorem cnt_false : ∀ k, cnt (fun _ => false) k = 0
  | 0 => rfl
  | k + 1 => by simp [cnt, cnt_false k, ind]
theorem cnt_span (s : Sp) (hs : hasS s = true) : ∀ k : Nat, cnt (memS s) k = if (k : Int) ≤ s.f0 then 0 else if (k : Int) ≤ s.f0 + s.f1 then (k : Int) - s.f0 else s.f1
  | 0 => by
    have h := (hasS_iff s).1 hs
    simp only [cnt]
    rw [if_pos (by omega)]
  | k + 1 => by
    have h := (hasS_iff s).1 hs
    have ih := cnt_span s hs k
    have hm : ind (memS s (k : Int)) = if s.f0 ≤ (k : Int) ∧ (k : Int) < s.f0 + s.f1 then 1 else 0 := by
      unfold ind
      by_cases hc : s.f0 ≤ (k : Int) ∧ (k : Int) < s.f0 + s.f1
      · rw [if_pos hc, if_pos ((memS_iff s _).2 ⟨hs, hc.1, hc.2⟩)]
      · rw [if_neg hc, if_neg (fun hx => hc ((memS_iff s _).1 hx).2)]
    simp only [cnt]
    rw [ih, hm]
    split <;> split <;> split <;> (try split) <;> omega
theorem cnt_norm (K : Nat) : ∀ (l : List Sp), Norm l → (∀ s ∈ l, s.f0 + s.f1 ≤ (K : Int)) → cnt (inL l) K = totL l
  | [], _, _ => cnt_false K
  | s :: l, h, hK => by
    have ih := cnt_norm K l h.tail fun t ht => hK t (List.mem_cons_of_mem _ ht)
    have hs := (hasS_iff s).1 h.head
    have hk := hK s List.mem_cons_self
    have h1 := cnt_two (inL (s :: l)) (fun _ => false) (memS s) (inL l) (fun n => by
      rw [inL_cons]
      have hd : memS s n = true → inL l n = false := fun hm => by
        rw [Bool.eq_false_iff]
        intro hx
        have := h.gt hx
        have := ((memS_iff s n).1 hm).2.2
        omega
      revert hd
      cases memS s n <;> cases inL l n <;> simp [ind]) K
    rw [cnt_false, ih, cnt_span s h.head] at h1
    rw [totL_cons]
    split at h1 <;> (try split at h1) <;> omega
theorem cnt_le (g : Int → Bool) : ∀ k : Nat, 0 ≤ cnt g k ∧ cnt g k ≤ (k : Int)
  | 0 => by simp [cnt]
  | k + 1 => by
    have h := cnt_le g k
    have h1 : 0 ≤ ind (g (k : Int)) ∧ ind (g (k : Int)) ≤ 1 := by unfold ind; split <;> omega
    simp only [cnt]
    omega
theorem len_le_totL : ∀ l : List Sp, (∀ s ∈ l, hasS s = true) → (l.length : Int) ≤ totL l
  | [], _ => by simp [totL]
  | s :: l, h => by
    have ih := len_le_totL l fun t ht => h t (List.mem_cons_of_mem _ ht)
    have hs := (hasS_iff s).1 (h s List.mem_cons_self)
    rw [totL_cons, List.length_cons]
    omega
/-- A normal list below a bound is not longer than it. -/
theorem norm_len (K : Nat) (l : List Sp) (h : Norm l) (hK : ∀ s ∈ l, s.f0 + s.f1 ≤ (K : Int)) : l.length ≤ K := by
  have h1 := cnt_norm K l h hK
  have h2 := (cnt_le (inL l) K).2
  have h3 := len_le_totL l h.1
  omega
end Go.Proofs.Ytapbmkcncjkanaa.P
