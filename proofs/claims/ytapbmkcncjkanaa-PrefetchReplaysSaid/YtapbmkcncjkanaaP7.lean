-- Written by this session's wip/tools/px.py out of the translation. Lean checks it.
import Derived.Test.YtapbmkcncjkanaaP0
import Derived.Test.YtapbmkcncjkanaaP6
namespace Go.Proofs.Ytapbmkcncjkanaa.P
noncomputable section
open Go.RowKit Go.Proofs.YtapbmkcncjkanaaW.PrintWords Go.Proofs.YtapbmkcncjkanaaW.PrintLast Go.Proofs.YtapbmkcncjkanaaW.PrintMore
attribute [local go_sem] max2_int min2_int max_two min_two max_three min_three max_four min_four   -- for this text's walks alone
set_option linter.unusedVariables false
set_option linter.unusedSimpArgs false

/-! ### extent_spans_1: function 47 -/
def extent_spans_1.f (a0_0 : Int) (a0_1 : Int) : Option (Int × Int) := some (a0_0, a0_1)
set_option maxHeartbeats 8000000 in
set_option maxRecDepth 100000 in
theorem extent_spans_1.calls (a0_0 : Int) (a0_1 : Int) (r1 : Int) (r2 : Int) (w : World) (h : extent_spans_1.f a0_0 a0_1 = some (r1, r2)) :
  Calls Try.prog 47 #[.agg #[.int .i64 a0_0, .int .i64 a0_1]] w fun e w' => e = .returned (.agg #[.int .i64 r1, .int .i64 r2]) ∧ Below w.heap.size w w' := by
 have hu25 := Try.underlying25
 have HB := am (Below.refl w.heap.size w)
 have H : (some (a0_0, a0_1)) = some (r1, r2) := h
 clear h
 simp only [Option.some.injEq, Prod.mk.injEq] at H
 obtain ⟨rfl, rfl⟩ := H
 go_enter Try.func47, Try.ntmps47
 go_wp2_with (first | ((with_reducible refine gate_dst (N := 1) rfl ?_); refine box_event ?hg (N := 1) ?hd (cs := #[.int .i64 a0_0, .int .i64 a0_1]) (t := 25) ?hr ?_; (case hd => rfl); (case hg => rfl); (case hr => first | (go_simp; done) | (go_simp; rfl)); intro gb174 hg w2 hbox hb; have n0_ := am (below_step (zB HB) hb); have n1_ := am (hbox); have n2_ := am ((by rw [hg]; exact (below_size (zB HB)) : w.heap.size ≤ gb174)); have n3_ := am ((by rw [hg]; exact (below_size (zB HB)) : w.heap.size ≤ gb174)); clear HB; have HB := n0_; have BK174 := n1_; have GW174 := n2_; have GE174 := n3_; clear n0_ n1_ n2_ n3_; clear hb hbox hg) | ((with_reducible refine gate_dst (N := 2) rfl ?_); refine box_event ?hg (N := 2) ?hd (cs := #[.int .i64 0, .int .i64 0]) (t := 25) ?hr ?_; (case hd => rfl); (case hg => rfl); (case hr => first | (go_simp; done) | (go_simp; rfl)); intro gb175 hg w3 hbox hb; have n0_ := am (blk_below (g := gb174) (o := .cells #[.int .i64 a0_0, .int .i64 a0_1] 25 (0, 0)) (zL BK174.out) hb); have n1_ := am (below_step (zG HB GE174) hb); have n2_ := am (hbox); have n3_ := am ((by rw [hg]; exact (below_size (zG HB GE174)) : w.heap.size ≤ gb175)); have n4_ := am ((by rw [hg]; exact (below_size (zG HB GE174)) : w.heap.size ≤ gb175)); have n5_ := am ((by rw [hg]; exact Nat.ne_of_lt (blk_lt (g := gb174) (o := .cells #[.int .i64 a0_0, .int .i64 a0_1] 25 (0, 0)) (zL BK174.out)) : gb174 ≠ gb175)); have n6_ := am ((by rw [hg]; exact Nat.ne_of_gt (blk_lt (g := gb174) (o := .cells #[.int .i64 a0_0, .int .i64 a0_1] 25 (0, 0)) (zL BK174.out)) : gb175 ≠ gb174)); clear BK174; clear HB; have BK174 := n0_; have HB := n1_; have BK175 := n2_; have GW175 := n3_; have GE175 := n4_; have NB174_175 := n5_; have NB175_174 := n6_; clear n0_ n1_ n2_ n3_ n4_ n5_ n6_; clear hb hbox hg; have hnb4 := NB174_175.out; have hnc4 := NB175_174.out; have hcz5_0 : w3.cell? ⟨gb174, 0, none⟩ = some (.int .i64 a0_0) := (blk_cell BK174.out 0).trans rfl; have hcz5_1 : w3.cell? ⟨gb174, 1, none⟩ = some (.int .i64 a0_1) := (blk_cell BK174.out 1).trans rfl; have hfz5_0 := blk_frozen BK174.out 0; have hfz5_1 := blk_frozen BK174.out 1; have hcz6_0 : w3.cell? ⟨gb175, 0, none⟩ = some (.int .i64 0) := (blk_cell BK175.out 0).trans rfl; have hcz6_1 : w3.cell? ⟨gb175, 1, none⟩ = some (.int .i64 0) := (blk_cell BK175.out 1).trans rfl; have hfz6_0 := blk_frozen BK175.out 0; have hfz6_1 := blk_frozen BK175.out 1))
 refine bodyPost_ret (results_cell_row rfl _ _ gb175 25 #[.int .i64 a0_0, .int .i64 a0_1] (0, 0) _ rfl (by refine zL ?_; refine blk_put (cs := #[.int .i64 a0_0, .int .i64 0]) ?_ 1 _ rfl; refine zL ?_; refine blk_put (cs := #[.int .i64 0, .int .i64 0]) ?_ 0 _ rfl; refine zL ?_; exact BK175.out) Try.underlying25 rfl (by kernel_rfl)) rfl ?_
 exact ⟨by first | rfl | (simp [errW_none, errW_some] <;> rfl) | (simp [*, errW_none, errW_some] <;> rfl), zG2 HB GE174 GE175⟩

theorem ent_47 : ∀ (args : Array Value) (W : World), (callFunc 47 args).run Try.prog W = .ok (.enter 47 args) W := Go.Proofs.enters_of Try.func47 (by kernel_rfl) rfl
/-! ### extent_spans: function 39 -/
def extent_spans.f (k : Nat) (a0 : ((List Bool) → Option (Bool))) (l1 : List (List (S25))) : Option ((List (S25))) := (extent_merge.f k a0 extent_spans_1.f l1).bind fun t176 => (some t176)
theorem extent_spans.mono : ∀ a0 a1 k, LeO (extent_spans.f k a0 a1) (extent_spans.f (k + 1) a0 a1) := by
 intro a0 a1 k
 unfold extent_spans.f
 repeat' first
   | (with_reducible exact extent_merge.mono _ _ _ _)
   | (with_reducible exact LeO.refl _)
   | (with_reducible exact LeO.none _)
   | (with_reducible refine LeO.ite ?_ ?_)
   | (with_reducible refine LeO.bind ?_ (fun _ => ?_))
   | exact extent_merge.mono _ _ _ _
   | exact LeO.none _
   | refine LeO.ite ?_ ?_
   | refine LeO.bind ?_ (fun _ => ?_)
set_option maxHeartbeats 8000000 in
set_option maxRecDepth 100000 in
theorem extent_spans.calls (k : Nat) (a0 : ((List Bool) → Option (Bool))) (g0 : Nat) (cb0 : Array Value) (en0 : ∀ args W, (callFunc g0 args).run Try.prog W = .ok (.enter g0 args) W) (A1 : Option Addr) (c1 : Nat) (l1 : List (List (S25))) (r : List (S25)) (w : World) (hr1 : Kd.C (Kd.slice 25 k25) w A1 l1.length l1) (hc1 : l1.length ≤ c1) (hF0 : ∀ (A0_ : Option Addr) (c0_ : Nat) (y0_ : List Bool) (z0_ : Bool) (W_ : World), Below w.heap.size w W_ → Kd.C Kd.bool W_ A0_ y0_.length y0_ → y0_.length ≤ c0_ → a0 y0_ = some z0_ → Calls Try.prog g0 (#[.slice A0_ y0_.length c0_] ++ cb0) W_ fun e w' => e = .returned (.bool z0_) ∧ Below W_.heap.size W_ w') (h : extent_spans.f k a0 l1 = some r) :
  Calls Try.prog 39 #[.func (.func g0) #[] cb0, .slice A1 l1.length c1] w fun e w' => ∃ v0_ : Value, e = .returned (v0_) ∧ Kd.R k25 25 w' w.heap.size (fun _ => True) v0_ r ∧ Below w.heap.size w w' := by
 have HF0 := am hF0
 clear hF0
 have HR1 := am hr1
 have HC1 := am hc1
 clear hr1 hc1
 have HB := am (Below.refl w.heap.size w)
 have H : ((extent_merge.f k a0 extent_spans_1.f l1).bind fun t176 => (some t176)) = some r := h
 clear h
 replace H := Option.bind_eq_some_iff.mp H
 obtain ⟨t176, A30, H⟩ := H
 replace H : (some t176) = some r := H
 have A3 := am A30
 clear A30
 obtain rfl := Option.some.inj H
 go_enter Try.func39, Try.ntmps39
 go_wp2_with (first | ((with_reducible refine gate_callee (f := 46) rfl ?_); refine goesL_ (some 7) rfl rfl Try.func46 (by kernel_rfl) rfl #[.func (.func g0) #[] cb0, .func (.func 47) #[] #[], .slice A1 l1.length c1] rfl zM ?_; (with_reducible refine (extent_merge.calls k a0 g0 cb0 en0 extent_spans_1.f 47 #[] ent_47 _ _ l1 t176 _ ?side1 ?side2 ?side3 ?side4 A3.out).mono ?_); (case side1 => repeat (first | exact HR1.out | (with_reducible refine Kd.C_alloc ?_ _) | (with_reducible refine Kd.C_drewN ?_ _) | (with_reducible refine Kd.C_drew ?_))); (case side2 => exact HC1.out); (case side3 => exact fun A0_ c0_ y0_ z0_ W_ hb_ hr0_ hc0_ h_ => HF0.out A0_ c0_ y0_ z0_ W_ (below_step (zB HB) hb_) hr0_ hc0_ h_); (case side4 => exact fun y0_ y1_ z0_ z1_ W_ hb_ h_ => extent_spans_1.calls y0_ y1_ z0_ z1_ W_ h_); rintro e w4 ⟨v177, rfl, ho0, hb⟩; refine ⟨_, rfl, ?_⟩; have n0_ := am (Kd.R_lower ho0 (below_size (zB HB))); have n1_ := am (below_step (zB HB) hb); clear HB; have HO178 := n0_; have HB := n1_; clear n0_ n1_; (try clear hb); (try clear hb2); (try clear hk); (try clear hi); (try clear ho0)))
 go_ret
 exact ⟨_, by first | rfl | (simp [errW_none, errW_some] <;> rfl) | (simp [*, errW_none, errW_some] <;> rfl), by refine zR ?_; exact HO178.out, by repeat (first | (with_reducible first | exact HB.out | apply below_alloc | apply pw_below_drewN | apply below_drew1) | exact HB.out)⟩

/-! ### extent_Union_1: function 40 -/
def extent_Union_1.f (l0 : List Bool) : Option (Bool) := if 0 < (l0.length : Int) then (if rdOf false l0 0 = true then (some true) else (if 1 < (l0.length : Int) then (some (rdOf false l0 1)) else (none))) else (none)
set_option maxHeartbeats 8000000 in
set_option maxRecDepth 100000 in
theorem extent_Union_1.calls (A0 : Option Addr) (c0 : Nat) (l0 : List Bool) (r : Bool) (w : World) (hr0 : Kd.C Kd.bool w A0 l0.length l0) (hc0 : l0.length ≤ c0) (h : extent_Union_1.f l0 = some r) :
  Calls Try.prog 40 #[.slice A0 l0.length c0] w fun e w' => e = .returned (.bool r) ∧ Drawn0 w w' := by
 have HR0 := am hr0
 have HC0 := am hc0
 clear hr0 hc0
 have H : (if 0 < (l0.length : Int) then (if rdOf false l0 0 = true then (some true) else (if 1 < (l0.length : Int) then (some (rdOf false l0 1)) else (none))) else (none)) = some r := h
 clear h
 by_cases c2 : 0 < (l0.length : Int)
 ·rw [if_pos c2] at H
  have c2b0 : decide (0 < (l0.length : Int)) = true := decide_eq_true c2
  have c2b1 : decide (0 < l0.length) = true := decide_eq_true (by omega)
  clear c2
  obtain ⟨bq3, hbq3⟩ : ∃ b_ : Bool, b_ = (rdOf false l0 0) := ⟨_, rfl⟩
  replace H : (if bq3 = true then (some true) else (if 1 < (l0.length : Int) then (some (rdOf false l0 1)) else (none))) = some r := by rw [← hbq3] at H; exact H
  have Nbq3 := am hbq3
  clear hbq3
  by_cases c4 : bq3 = true
  ·subst c4
   have H1 : (some true) = some r := by rw [if_pos rfl] at H; exact H
   clear H
   have H := H1
   clear H1
   obtain rfl := Option.some.inj H
   have p179 : 0 ≤ (0 : Int) := (by omega)
   have q179 : 0 < (l0.length : Int) := of_decide_eq_true zA
   obtain ⟨ad179, e179, hx179_0⟩ := Kd.at_bool HR0.out 0 p179 q179
   (try rw [← Nbq3.out] at hx179_0)
   cases e179
   have qi179 : (0 < l0.length) = True := eq_true (by omega)
   (try rw [show ((0 : Int)).toNat = 0 from rfl] at hx179_0)
   (try rw [Addr.add_zero'] at hx179_0)
   replace p179 := eq_true p179
   replace q179 := eq_true q179
   go_enter Try.func40, Try.ntmps40
   go_wp2
   go_ret
   exact ⟨by first | rfl | (simp; done) | (simp [*]; done), by repeat (first | exact Drawn0.refl _ | apply Drawn0.step)⟩
  ·replace c4 := Bool.eq_false_iff.mpr c4
   subst c4
   have H1 : (if 1 < (l0.length : Int) then (some (rdOf false l0 1)) else (none)) = some r := by rw [if_neg (show ¬ (false = true) by decide)] at H; exact H
   clear H
   have H := H1
   clear H1
   by_cases c5 : 1 < (l0.length : Int)
   ·rw [if_pos c5] at H
    have c5b0 : decide (1 < (l0.length : Int)) = true := decide_eq_true c5
    have c5b1 : decide (1 < l0.length) = true := decide_eq_true (by omega)
    clear c5
    obtain rfl := Option.some.inj H
    have p179 : 0 ≤ (0 : Int) := (by omega)
    have q179 : 0 < (l0.length : Int) := of_decide_eq_true zA
    obtain ⟨ad179, e179, hx179_0⟩ := Kd.at_bool HR0.out 0 p179 q179
    (try rw [← Nbq3.out] at hx179_0)
    cases e179
    have qi179 : (0 < l0.length) = True := eq_true (by omega)
    (try rw [show ((0 : Int)).toNat = 0 from rfl] at hx179_0)
    (try rw [Addr.add_zero'] at hx179_0)
    replace p179 := eq_true p179
    replace q179 := eq_true q179
    have p180 : 0 ≤ (1 : Int) := (by omega)
    have q180 : 1 < (l0.length : Int) := of_decide_eq_true zA
    obtain ⟨ad180, e180, hx180_0⟩ := Kd.at_bool HR0.out 1 p180 q180
    (try rw [← Nbq3.out] at hx180_0)
    obtain rfl : ad179 = ad180 := (by injection e180)
    (try simp only [show (1 : Int).toNat = 1 from rfl, Nat.reduceMul, Nat.reduceEqDiff, Go.Addr.add, ↓reduceIte] at hx180_0)
    have qi180 : (1 < l0.length) = True := eq_true (by omega)
    (try rw [show ((1 : Int)).toNat = 1 from rfl] at hx180_0)
    replace p180 := eq_true p180
    replace q180 := eq_true q180
    go_enter Try.func40, Try.ntmps40
    go_wp2
    go_ret
    exact ⟨by first | rfl | (simp; done) | (simp [*]; done), by repeat (first | exact Drawn0.refl _ | apply Drawn0.step)⟩
   ·rw [if_neg c5] at H
    exact absurd H (by simp)
 ·rw [if_neg c2] at H
  exact absurd H (by simp)

/-! ### extent_Subtract_1: function 42 -/
def extent_Subtract_1.f (l0 : List Bool) : Option (Bool) := if 0 < (l0.length : Int) then (if rdOf false l0 0 = true then (if 1 < (l0.length : Int) then (some (!(rdOf false l0 1))) else (none)) else (some false)) else (none)
set_option maxHeartbeats 8000000 in
set_option maxRecDepth 100000 in
theorem extent_Subtract_1.calls (A0 : Option Addr) (c0 : Nat) (l0 : List Bool) (r : Bool) (w : World) (hr0 : Kd.C Kd.bool w A0 l0.length l0) (hc0 : l0.length ≤ c0) (h : extent_Subtract_1.f l0 = some r) :
  Calls Try.prog 42 #[.slice A0 l0.length c0] w fun e w' => e = .returned (.bool r) ∧ Drawn0 w w' := by
 have HR0 := am hr0
 have HC0 := am hc0
 clear hr0 hc0
 have H : (if 0 < (l0.length : Int) then (if rdOf false l0 0 = true then (if 1 < (l0.length : Int) then (some (!(rdOf false l0 1))) else (none)) else (some false)) else (none)) = some r := h
 clear h
 by_cases c2 : 0 < (l0.length : Int)
 ·rw [if_pos c2] at H
  have c2b0 : decide (0 < (l0.length : Int)) = true := decide_eq_true c2
  have c2b1 : decide (0 < l0.length) = true := decide_eq_true (by omega)
  clear c2
  obtain ⟨bq3, hbq3⟩ : ∃ b_ : Bool, b_ = (rdOf false l0 0) := ⟨_, rfl⟩
  replace H : (if bq3 = true then (if 1 < (l0.length : Int) then (some (!(rdOf false l0 1))) else (none)) else (some false)) = some r := by rw [← hbq3] at H; exact H
  have Nbq3 := am hbq3
  clear hbq3
  by_cases c4 : bq3 = true
  ·subst c4
   have H1 : (if 1 < (l0.length : Int) then (some (!(rdOf false l0 1))) else (none)) = some r := by rw [if_pos rfl] at H; exact H
   clear H
   have H := H1
   clear H1
   by_cases c5 : 1 < (l0.length : Int)
   ·rw [if_pos c5] at H
    have c5b0 : decide (1 < (l0.length : Int)) = true := decide_eq_true c5
    have c5b1 : decide (1 < l0.length) = true := decide_eq_true (by omega)
    clear c5
    obtain rfl := Option.some.inj H
    have p181 : 0 ≤ (0 : Int) := (by omega)
    have q181 : 0 < (l0.length : Int) := of_decide_eq_true zA
    obtain ⟨ad181, e181, hx181_0⟩ := Kd.at_bool HR0.out 0 p181 q181
    (try rw [← Nbq3.out] at hx181_0)
    cases e181
    have qi181 : (0 < l0.length) = True := eq_true (by omega)
    (try rw [show ((0 : Int)).toNat = 0 from rfl] at hx181_0)
    (try rw [Addr.add_zero'] at hx181_0)
    replace p181 := eq_true p181
    replace q181 := eq_true q181
    have p182 : 0 ≤ (1 : Int) := (by omega)
    have q182 : 1 < (l0.length : Int) := of_decide_eq_true zA
    obtain ⟨ad182, e182, hx182_0⟩ := Kd.at_bool HR0.out 1 p182 q182
    (try rw [← Nbq3.out] at hx182_0)
    obtain rfl : ad181 = ad182 := (by injection e182)
    (try simp only [show (1 : Int).toNat = 1 from rfl, Nat.reduceMul, Nat.reduceEqDiff, Go.Addr.add, ↓reduceIte] at hx182_0)
    have qi182 : (1 < l0.length) = True := eq_true (by omega)
    (try rw [show ((1 : Int)).toNat = 1 from rfl] at hx182_0)
    replace p182 := eq_true p182
    replace q182 := eq_true q182
    go_enter Try.func42, Try.ntmps42
    go_wp2
    go_ret
    exact ⟨by first | rfl | (simp; done) | (simp [*]; done), by repeat (first | exact Drawn0.refl _ | apply Drawn0.step)⟩
   ·rw [if_neg c5] at H
    exact absurd H (by simp)
  ·replace c4 := Bool.eq_false_iff.mpr c4
   subst c4
   have H1 : (some false) = some r := by rw [if_neg (show ¬ (false = true) by decide)] at H; exact H
   clear H
   have H := H1
   clear H1
   obtain rfl := Option.some.inj H
   have p181 : 0 ≤ (0 : Int) := (by omega)
   have q181 : 0 < (l0.length : Int) := of_decide_eq_true zA
   obtain ⟨ad181, e181, hx181_0⟩ := Kd.at_bool HR0.out 0 p181 q181
   (try rw [← Nbq3.out] at hx181_0)
   cases e181
   have qi181 : (0 < l0.length) = True := eq_true (by omega)
   (try rw [show ((0 : Int)).toNat = 0 from rfl] at hx181_0)
   (try rw [Addr.add_zero'] at hx181_0)
   replace p181 := eq_true p181
   replace q181 := eq_true q181
   go_enter Try.func42, Try.ntmps42
   go_wp2
   go_ret
   exact ⟨by first | rfl | (simp; done) | (simp [*]; done), by repeat (first | exact Drawn0.refl _ | apply Drawn0.step)⟩
 ·rw [if_neg c2] at H
  exact absurd H (by simp)

/-! ### extent_Normal_1: function 48 -/
def extent_Normal_1.f (l0 : List Bool) : Option (Bool) := if 0 < (l0.length : Int) then (some (rdOf false l0 0)) else (none)
set_option maxHeartbeats 8000000 in
set_option maxRecDepth 100000 in
theorem extent_Normal_1.calls (A0 : Option Addr) (c0 : Nat) (l0 : List Bool) (r : Bool) (w : World) (hr0 : Kd.C Kd.bool w A0 l0.length l0) (hc0 : l0.length ≤ c0) (h : extent_Normal_1.f l0 = some r) :
  Calls Try.prog 48 #[.slice A0 l0.length c0] w fun e w' => e = .returned (.bool r) ∧ Drawn0 w w' := by
 have HR0 := am hr0
 have HC0 := am hc0
 clear hr0 hc0
 have H : (if 0 < (l0.length : Int) then (some (rdOf false l0 0)) else (none)) = some r := h
 clear h
 by_cases c2 : 0 < (l0.length : Int)
 ·rw [if_pos c2] at H
  have c2b0 : decide (0 < (l0.length : Int)) = true := decide_eq_true c2
  have c2b1 : decide (0 < l0.length) = true := decide_eq_true (by omega)
  clear c2
  obtain rfl := Option.some.inj H
  have p183 : 0 ≤ (0 : Int) := (by omega)
  have q183 : 0 < (l0.length : Int) := of_decide_eq_true zA
  obtain ⟨ad183, e183, hx183_0⟩ := Kd.at_bool HR0.out 0 p183 q183
  cases e183
  have qi183 : (0 < l0.length) = True := eq_true (by omega)
  (try rw [show ((0 : Int)).toNat = 0 from rfl] at hx183_0)
  (try rw [Addr.add_zero'] at hx183_0)
  replace p183 := eq_true p183
  replace q183 := eq_true q183
  go_enter Try.func48, Try.ntmps48
  go_wp2
  go_ret
  exact ⟨by first | rfl | (simp; done) | (simp [*]; done), by repeat (first | exact Drawn0.refl _ | apply Drawn0.step)⟩
 ·rw [if_neg c2] at H
  exact absurd H (by simp)

end
end Go.Proofs.Ytapbmkcncjkanaa.P
