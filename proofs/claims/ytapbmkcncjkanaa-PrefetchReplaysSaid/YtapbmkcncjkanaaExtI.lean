/- tapearchiveref34.insert: an ascending list with a number, out of its two halves. -/
import Derived.Test.YtapbmkcncjkanaaP14
import Derived.Test.YtapbmkcncjkanaaP15
set_option linter.unusedVariables false
set_option linter.unusedSimpArgs false
namespace Go.Proofs.Ytapbmkcncjkanaa.P
open Go.RowKit Go.Proofs Go.Proofs.YtapbmkcncjkanaaW.PrintWords Go.Proofs.YtapbmkcncjkanaaW.PrintLast Go.Proofs.YtapbmkcncjkanaaW.PrintMore

def insI : List Int → Int → List Int
  | [], a => [a]
  | x :: l, a => if x < a then x :: insI l a else if x = a then x :: l else a :: x :: l
def foundI : List Int → Int → Bool
  | [], _ => false
  | x :: l, a => if x < a then foundI l a else x == a
theorem insI_found : ∀ (l : List Int) (a : Int), foundI l a = true → insI l a = l
  | [], _, h => by simp [foundI] at h
  | x :: l, a, h => by
    unfold foundI at h
    unfold insI
    split
    · rename_i hx
      rw [if_pos hx] at h
      rw [insI_found l a h]
    · rename_i hx
      rw [if_neg hx] at h
      rw [if_pos (by simpa using h)]
theorem wrap_suc (i : Nat) (h : i < 9223372036854775807) : wrap64 ((i : Int) + 1) = ((i + 1 : Nat) : Int) := by unfold wrap64; omega

theorem insert_new_ev (l : List Int) (a : Int) (hl : l.length < 1099511627776) : ∀ (suf pre : List Int), l = pre ++ suf → foundI suf a = false → Ev (fun k => r34_insert_new.l0 k l a (pre.length : Int)) (pre ++ insI suf a)
  | [], pre, hpre, _ => by
    have hlen : (pre.length : Int) = l.length := by rw [hpre]; simp
    refine Ev.step (f := fun k => r34_insert_new.j1 k l a (pre.length : Int) false) (fun k => ?_) (Ev.step (f := fun k => r34_insert_new.j2 k l a (pre.length : Int) false) (fun k => ?_) (Ev.step (f := fun _ => some (pre ++ [a])) (fun k => ?_) (Ev.now _)))
    · simp only [r34_insert_new.l0]
      rw [if_neg (by omega)]
    · simp only [r34_insert_new.j1]
      rw [if_neg (by simp), if_neg (by omega)]
    · have hp : l = pre := by rw [hpre]; simp
      subst hp
      simp only [r34_insert_new.j2]
      rw [if_neg (by simp)]
      simp only [Option.bind_some]
      rw [if_pos (by omega), if_pos (by omega), Int.toNat_natCast, List.take_length, List.drop_length]
      rw [if_pos (by simp; omega), if_pos (by simp; omega), if_pos (by simp; omega)]
      simp
  | x :: suf, pre, hpre, hf => by
    have hlen : l.length = pre.length + (suf.length + 1) := by rw [hpre]; simp
    have hget : rd l (pre.length : Int) = x := by
      unfold rd
      rw [Int.toNat_natCast, hpre]
      simp [List.getD_eq_getElem?_getD]
    unfold foundI at hf
    unfold insI
    by_cases hx : x < a
    · rw [if_pos hx] at hf ⊢
      have ih := insert_new_ev l a hl suf (pre ++ [x]) (by simp [hpre]) hf
      refine Ev.step (f := fun k => r34_insert_new.j1 k l a (pre.length : Int) true) (fun k => ?_) (Ev.step (f := fun k => r34_insert_new.l0 k l a ((pre ++ [x]).length : Int)) (fun k => ?_) (by simpa using ih))
      · simp only [r34_insert_new.l0]
        rw [if_pos (by omega), if_pos (by omega), hget, decide_eq_true hx]
      · simp only [r34_insert_new.j1]
        rw [if_pos trivial, wrap_suc _ (by omega)]
        simp
    · rw [if_neg hx] at hf ⊢
      have hxa : x ≠ a := by simpa using hf
      rw [if_neg hxa]
      refine Ev.step (f := fun k => r34_insert_new.j1 k l a (pre.length : Int) false) (fun k => ?_) (Ev.step (f := fun k => r34_insert_new.j2 k l a (pre.length : Int) false) (fun k => ?_) (Ev.step (f := fun _ => some (pre ++ a :: x :: suf)) (fun k => ?_) (Ev.now _)))
      · simp only [r34_insert_new.l0]
        rw [if_pos (by omega), if_pos (by omega), hget, decide_eq_false hx]
      · simp only [r34_insert_new.j1]
        rw [if_neg (by simp), if_pos (by omega), if_pos (by omega), hget, show (x == a) = false by simpa using hxa]
      · simp only [r34_insert_new.j2]
        rw [if_neg (by simp)]
        simp only [Option.bind_some]
        have h1 : l.take pre.length = pre := by rw [hpre]; simp
        have h2 : l.drop pre.length = x :: suf := by rw [hpre]; simp
        rw [if_pos (by omega), if_pos (by omega), Int.toNat_natCast, h1, h2]
        rw [if_pos (by simp; omega), if_pos (by simp; omega), if_pos (by simp; omega)]
        simp

theorem insert_back_ev (l : List Int) (a : Int) (hl : l.length < 1099511627776) : ∀ (suf pre : List Int), l = pre ++ suf → foundI suf a = true → Ev (fun k => r34_insert_back.l0 k l a (pre.length : Int)) l
  | [], pre, hpre, h => by simp [foundI] at h
  | x :: suf, pre, hpre, hf => by
    have hlen : l.length = pre.length + (suf.length + 1) := by rw [hpre]; simp
    have hget : rd l (pre.length : Int) = x := by
      unfold rd
      rw [Int.toNat_natCast, hpre]
      simp [List.getD_eq_getElem?_getD]
    unfold foundI at hf
    by_cases hx : x < a
    · rw [if_pos hx] at hf
      have ih := insert_back_ev l a hl suf (pre ++ [x]) (by simp [hpre]) hf
      refine Ev.step (f := fun k => r34_insert_back.j1 k l a (pre.length : Int) true) (fun k => ?_) (Ev.step (f := fun k => r34_insert_back.l0 k l a ((pre ++ [x]).length : Int)) (fun k => ?_) (by simpa using ih))
      · simp only [r34_insert_back.l0]
        rw [if_pos (by omega), if_pos (by omega), hget, decide_eq_true hx]
      · simp only [r34_insert_back.j1]
        rw [if_pos trivial, wrap_suc _ (by omega)]
        simp
    · rw [if_neg hx] at hf
      refine Ev.step (f := fun k => r34_insert_back.j1 k l a (pre.length : Int) false) (fun k => ?_) (Ev.step (f := fun k => r34_insert_back.j2 k l a (pre.length : Int) true) (fun k => ?_) (Ev.step (f := fun _ => some l) (fun k => ?_) (Ev.now _)))
      · simp only [r34_insert_back.l0]
        rw [if_pos (by omega), if_pos (by omega), hget, decide_eq_false hx]
      · simp only [r34_insert_back.j1]
        rw [if_neg (by simp), if_pos (by omega), if_pos (by omega), hget, hf]
      · simp only [r34_insert_back.j2]
        rw [if_pos trivial]

def r34_insert.f (l : List Int) (a : Int) : Option (List Int) := if l.length < 1099511627776 then some (insI l a) else none
theorem r34_insert.calls (P0_ : Nat → Prop) (u9000_ : Value) (l0 : List Int) (a1 : Int) (r : List Int) (w0 w : World) (hB : Below w0.heap.size w0 w) (ho0 : Kd.R (Kd.int .i64) 3 w w0.heap.size P0_ u9000_ l0) (h : r34_insert.f l0 a1 = some r) :
    Calls Try.prog 50 #[u9000_, .int .i64 a1] w fun e w' => ∃ v0_ : Value, e = .returned (v0_) ∧ Kd.R (Kd.int .i64) 3 w' w0.heap.size (fun k_ => (P0_ k_ ∨ w.heap.size ≤ k_)) v0_ r ∧ Below w0.heap.size w0 w' ∧ Kept w w' (fun k_ => P0_ k_) := by
  unfold r34_insert.f at h
  split at h
  · rename_i hl
    obtain rfl := Option.some.inj h
    cases hf : foundI l0 a1 with
    | true =>
      obtain ⟨k, hk⟩ := (insert_back_ev l0 a1 hl l0 [] rfl hf).rounds
      rw [insI_found l0 a1 hf]
      exact r34_insert_back.calls k P0_ u9000_ l0 a1 l0 w0 w hB ho0 hk
    | false =>
      obtain ⟨k, hk⟩ := (insert_new_ev l0 a1 hl l0 [] rfl hf).rounds
      obtain ⟨A, c, rfl, hlc, hC⟩ := Kd.R_reads ho0
      refine (r34_insert_new.calls k A c l0 a1 _ w hC hlc hk).mono ?_
      rintro e w' ⟨v, rfl, hR, hb⟩
      exact ⟨v, rfl, Kd.R_mono (Kd.R_lower (Kd.R_bound hR) hB.size) (fun k_ hk_ => .inr hk_.2.1), below_step hB hb, Kept.of_below hb _⟩
  · exact absurd h (by simp)
end Go.Proofs.Ytapbmkcncjkanaa.P
