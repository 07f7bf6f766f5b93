-- Written by this session's wip/tools/px.py out of the translation. Lean checks it.
import Derived.Test.YtcckacamocaofaaP0
import Derived.Test.YtcckacamocaofaaP4
namespace Go.Proofs.Ytcckacamocaofaa.P
noncomputable section
open Go.RowKit Go.Proofs.YtcckacamocaofaaW.PrintWords Go.Proofs.YtcckacamocaofaaW.PrintLast Go.Proofs.YtcckacamocaofaaW.PrintMore
attribute [local go_sem] max2_int min2_int max_two min_two max_three min_three max_four min_four   -- for this text's walks alone
set_option linter.unusedVariables false
set_option linter.unusedSimpArgs false

/-! ### extent_spans_1: function 37 -/
def extent_spans_1.f (a0_0 : Int) (a0_1 : Int) : Option (Int × Int) := some (a0_0, a0_1)
set_option maxHeartbeats 8000000 in
set_option maxRecDepth 100000 in
theorem extent_spans_1.calls (a0_0 : Int) (a0_1 : Int) (r1 : Int) (r2 : Int) (w : World) (h : extent_spans_1.f a0_0 a0_1 = some (r1, r2)) :
  Calls Try.prog 37 #[.agg #[.int .i64 a0_0, .int .i64 a0_1]] w fun e w' => e = .returned (.agg #[.int .i64 r1, .int .i64 r2]) ∧ Below w.heap.size w w' := by
 have hu30 := Try.underlying30
 have HB := Aside0.mk (Below.refl w.heap.size w)
 have H : (some (a0_0, a0_1)) = some (r1, r2) := h
 clear h
 simp only [Option.some.injEq, Prod.mk.injEq] at H
 obtain ⟨rfl, rfl⟩ := H
 go_enter Try.func37, Try.ntmps37
 go_wp2_with (first | ((with_reducible refine gate_dst (N := 1) rfl ?_); refine box_event ?hg (N := 1) ?hd (cs := #[.int .i64 a0_0, .int .i64 a0_1]) (t := 30) ?hr ?_; (case hd => rfl); (case hg => rfl); (case hr => first | (go_simp; done) | (go_simp; rfl)); intro gb140 hg w2 hbox hb; have n0_ := Aside0.mk (below_step (zB HB) hb); have n1_ := Aside0.mk (hbox); have n2_ := Aside0.mk ((by rw [hg]; exact (below_size (zB HB)) : w.heap.size ≤ gb140)); have n3_ := Aside0.mk ((by rw [hg]; exact (below_size (zB HB)) : w.heap.size ≤ gb140)); clear HB; have HB := n0_; have BK140 := n1_; have GW140 := n2_; have GE140 := n3_; clear n0_ n1_ n2_ n3_; clear hb hbox hg) | ((with_reducible refine gate_dst (N := 2) rfl ?_); refine box_event ?hg (N := 2) ?hd (cs := #[.int .i64 0, .int .i64 0]) (t := 30) ?hr ?_; (case hd => rfl); (case hg => rfl); (case hr => first | (go_simp; done) | (go_simp; rfl)); intro gb141 hg w3 hbox hb; have n0_ := Aside0.mk (blk_below (g := gb140) (o := .cells #[.int .i64 a0_0, .int .i64 a0_1] 30 (0, 0)) (zL BK140.out) hb); have n1_ := Aside0.mk (below_step (zG HB GE140) hb); have n2_ := Aside0.mk (hbox); have n3_ := Aside0.mk ((by rw [hg]; exact (below_size (zG HB GE140)) : w.heap.size ≤ gb141)); have n4_ := Aside0.mk ((by rw [hg]; exact (below_size (zG HB GE140)) : w.heap.size ≤ gb141)); have n5_ := Aside0.mk ((by rw [hg]; exact Nat.ne_of_lt (blk_lt (g := gb140) (o := .cells #[.int .i64 a0_0, .int .i64 a0_1] 30 (0, 0)) (zL BK140.out)) : gb140 ≠ gb141)); have n6_ := Aside0.mk ((by rw [hg]; exact Nat.ne_of_gt (blk_lt (g := gb140) (o := .cells #[.int .i64 a0_0, .int .i64 a0_1] 30 (0, 0)) (zL BK140.out)) : gb141 ≠ gb140)); clear BK140; clear HB; have BK140 := n0_; have HB := n1_; have BK141 := n2_; have GW141 := n3_; have GE141 := n4_; have NB140_141 := n5_; have NB141_140 := n6_; clear n0_ n1_ n2_ n3_ n4_ n5_ n6_; clear hb hbox hg; have hnb4 := NB140_141.out; have hnc4 := NB141_140.out; have hcz5_0 : w3.cell? ⟨gb140, 0, none⟩ = some (.int .i64 a0_0) := (blk_cell BK140.out 0).trans rfl; have hcz5_1 : w3.cell? ⟨gb140, 1, none⟩ = some (.int .i64 a0_1) := (blk_cell BK140.out 1).trans rfl; have hfz5_0 := blk_frozen BK140.out 0; have hfz5_1 := blk_frozen BK140.out 1; have hcz6_0 : w3.cell? ⟨gb141, 0, none⟩ = some (.int .i64 0) := (blk_cell BK141.out 0).trans rfl; have hcz6_1 : w3.cell? ⟨gb141, 1, none⟩ = some (.int .i64 0) := (blk_cell BK141.out 1).trans rfl; have hfz6_0 := blk_frozen BK141.out 0; have hfz6_1 := blk_frozen BK141.out 1))
 refine bodyPost_ret (results_cell_row rfl _ _ gb141 30 #[.int .i64 a0_0, .int .i64 a0_1] (0, 0) _ rfl (by (with_reducible repeat (first | refine blk_drewN ?_ _ | refine blk_drew ?_ | refine blk_alloc ?_ _)); refine blk_put (cs := #[.int .i64 a0_0, .int .i64 0]) ?_ 1 _ rfl; (with_reducible repeat (first | refine blk_drewN ?_ _ | refine blk_drew ?_ | refine blk_alloc ?_ _)); refine blk_put (cs := #[.int .i64 0, .int .i64 0]) ?_ 0 _ rfl; (with_reducible repeat (first | refine blk_drewN ?_ _ | refine blk_drew ?_ | refine blk_alloc ?_ _)); exact BK141.out) Try.underlying30 rfl (by kernel_rfl)) rfl ?_
 exact ⟨by first | rfl | (simp [errW_none, errW_some] <;> rfl) | (simp [*, errW_none, errW_some] <;> rfl), by repeat (first | (with_reducible first | exact HB.out | apply below_alloc | apply pw_below_drewN | apply below_drew1 | refine below_set ?_ GE140.out | refine below_set ?_ GE141.out) | exact HB.out)⟩

theorem ent_37 : ∀ (args : Array Value) (W : World), (callFunc 37 args).run Try.prog W = .ok (.enter 37 args) W := Go.Proofs.enters_of Try.func37 (by kernel_rfl) rfl
/-! ### extent_spans: function 29 -/
def extent_spans.f (k : Nat) (a0 : ((List Bool) → Option (Bool))) (l1 : List (List (S30))) : Option ((List (S30))) := (extent_merge.f k a0 extent_spans_1.f l1).bind fun t142 => (some t142)
theorem extent_spans.mono : ∀ a0 a1 k, LeO (extent_spans.f k a0 a1) (extent_spans.f (k + 1) a0 a1) := by
 intro a0 a1 k
 unfold extent_spans.f
 repeat' first
   | (with_reducible exact extent_merge.mono _ _ _ _)
   | (with_reducible exact LeO.refl _)
   | (with_reducible exact LeO.none _)
   | (with_reducible refine LeO.ite ?_ ?_)
   | (with_reducible refine LeO.bind ?_ (fun _ => ?_))
   | exact extent_merge.mono _ _ _ _
   | exact LeO.none _
   | refine LeO.ite ?_ ?_
   | refine LeO.bind ?_ (fun _ => ?_)
set_option maxHeartbeats 8000000 in
set_option maxRecDepth 100000 in
theorem extent_spans.calls (k : Nat) (a0 : ((List Bool) → Option (Bool))) (g0 : Nat) (cb0 : Array Value) (en0 : ∀ args W, (callFunc g0 args).run Try.prog W = .ok (.enter g0 args) W) (A1 : Option Addr) (c1 : Nat) (l1 : List (List (S30))) (r : List (S30)) (w : World) (hr1 : Kd.C (Kd.slice 30 k30) w A1 l1.length l1) (hc1 : l1.length ≤ c1) (hF0 : ∀ (A0_ : Option Addr) (c0_ : Nat) (y0_ : List Bool) (z0_ : Bool) (W_ : World), Below w.heap.size w W_ → Kd.C Kd.bool W_ A0_ y0_.length y0_ → y0_.length ≤ c0_ → a0 y0_ = some z0_ → Calls Try.prog g0 (#[.slice A0_ y0_.length c0_] ++ cb0) W_ fun e w' => e = .returned (.bool z0_) ∧ Below W_.heap.size W_ w') (h : extent_spans.f k a0 l1 = some r) :
  Calls Try.prog 29 #[.func (.func g0) #[] cb0, .slice A1 l1.length c1] w fun e w' => ∃ v0_ : Value, e = .returned (v0_) ∧ Kd.R k30 30 w' w.heap.size (fun _ => True) v0_ r ∧ Below w.heap.size w w' := by
 have HF0 := Aside0.mk hF0
 clear hF0
 have HR1 := Aside0.mk hr1
 have HC1 := Aside0.mk hc1
 clear hr1 hc1
 have HB := Aside0.mk (Below.refl w.heap.size w)
 have H : ((extent_merge.f k a0 extent_spans_1.f l1).bind fun t142 => (some t142)) = some r := h
 clear h
 replace H := Option.bind_eq_some_iff.mp H
 obtain ⟨t142, A30, H⟩ := H
 replace H : (some t142) = some r := H
 have A3 := Aside0.mk A30
 clear A30
 obtain rfl := Option.some.inj H
 go_enter Try.func29, Try.ntmps29
 go_wp2_with (first | ((with_reducible refine gate_callee (f := 36) rfl ?_); refine goesL_ (some 7) rfl rfl Try.func36 (by kernel_rfl) rfl #[.func (.func g0) #[] cb0, .func (.func 37) #[] #[], .slice A1 l1.length c1] rfl zM ?_; (with_reducible refine (extent_merge.calls k a0 g0 cb0 en0 extent_spans_1.f 37 #[] ent_37 _ _ l1 t142 _ ?side1 ?side2 ?side3 ?side4 A3.out).mono ?_); (case side1 => repeat (first | exact HR1.out | (with_reducible refine Kd.C_alloc ?_ _) | (with_reducible refine Kd.C_drewN ?_ _) | (with_reducible refine Kd.C_drew ?_))); (case side2 => exact HC1.out); (case side3 => exact fun A0_ c0_ y0_ z0_ W_ hb_ hr0_ hc0_ h_ => HF0.out A0_ c0_ y0_ z0_ W_ (below_step (zB HB) hb_) hr0_ hc0_ h_); (case side4 => exact fun y0_ y1_ z0_ z1_ W_ hb_ h_ => extent_spans_1.calls y0_ y1_ z0_ z1_ W_ h_); rintro e w4 ⟨v143, rfl, ho0, hb⟩; refine ⟨_, rfl, ?_⟩; have n0_ := Aside0.mk (Kd.R_lower ho0 (below_size (zB HB))); have n1_ := Aside0.mk (below_step (zB HB) hb); clear HB; have HO144 := n0_; have HB := n1_; clear n0_ n1_; (try clear hb); (try clear hb2); (try clear hk); (try clear hi); (try clear ho0)))
 go_ret
 exact ⟨_, by first | rfl | (simp [errW_none, errW_some] <;> rfl) | (simp [*, errW_none, errW_some] <;> rfl), by (with_reducible repeat (first | apply Kd.R_alloc | apply Kd.R_drewN | apply Kd.R_drew)); exact HO144.out, by repeat (first | (with_reducible first | exact HB.out | apply below_alloc | apply pw_below_drewN | apply below_drew1) | exact HB.out)⟩

/-! ### extent_Normal_1: function 30 -/
def extent_Normal_1.f (l0 : List Bool) : Option (Bool) := if 0 < (l0.length : Int) then (some (rdOf false l0 0)) else (none)
set_option maxHeartbeats 8000000 in
set_option maxRecDepth 100000 in
theorem extent_Normal_1.calls (A0 : Option Addr) (c0 : Nat) (l0 : List Bool) (r : Bool) (w : World) (hr0 : Kd.C Kd.bool w A0 l0.length l0) (hc0 : l0.length ≤ c0) (h : extent_Normal_1.f l0 = some r) :
  Calls Try.prog 30 #[.slice A0 l0.length c0] w fun e w' => e = .returned (.bool r) ∧ Drawn0 w w' := by
 have HR0 := Aside0.mk hr0
 have HC0 := Aside0.mk hc0
 clear hr0 hc0
 have H : (if 0 < (l0.length : Int) then (some (rdOf false l0 0)) else (none)) = some r := h
 clear h
 by_cases c2 : 0 < (l0.length : Int)
 ·rw [if_pos c2] at H
  have c2b0 : decide (0 < (l0.length : Int)) = true := decide_eq_true c2
  have c2b1 : decide (0 < l0.length) = true := decide_eq_true (by omega)
  clear c2
  obtain rfl := Option.some.inj H
  have p145 : 0 ≤ (0 : Int) := (by omega)
  have q145 : 0 < (l0.length : Int) := of_decide_eq_true zA
  obtain ⟨ad145, e145, hx145_0⟩ := Kd.at_bool HR0.out 0 p145 q145
  cases e145
  have qi145 : (0 < l0.length) = True := eq_true (by omega)
  (try rw [show ((0 : Int)).toNat = 0 from rfl] at hx145_0)
  (try rw [Addr.add_zero'] at hx145_0)
  replace p145 := eq_true p145
  replace q145 := eq_true q145
  go_enter Try.func30, Try.ntmps30
  go_wp2
  go_ret
  exact ⟨by first | rfl | (simp; done) | (simp [*]; done), by repeat (first | exact Drawn0.refl _ | apply Drawn0.step)⟩
 ·rw [if_neg c2] at H
  exact absurd H (by simp)

/-! ### extent_Subtract_1: function 31 -/
def extent_Subtract_1.f (l0 : List Bool) : Option (Bool) := if 0 < (l0.length : Int) then (if rdOf false l0 0 = true then (if 1 < (l0.length : Int) then (some (!(rdOf false l0 1))) else (none)) else (some false)) else (none)
set_option maxHeartbeats 8000000 in
set_option maxRecDepth 100000 in
theorem extent_Subtract_1.calls (A0 : Option Addr) (c0 : Nat) (l0 : List Bool) (r : Bool) (w : World) (hr0 : Kd.C Kd.bool w A0 l0.length l0) (hc0 : l0.length ≤ c0) (h : extent_Subtract_1.f l0 = some r) :
  Calls Try.prog 31 #[.slice A0 l0.length c0] w fun e w' => e = .returned (.bool r) ∧ Drawn0 w w' := by
 have HR0 := Aside0.mk hr0
 have HC0 := Aside0.mk hc0
 clear hr0 hc0
 have H : (if 0 < (l0.length : Int) then (if rdOf false l0 0 = true then (if 1 < (l0.length : Int) then (some (!(rdOf false l0 1))) else (none)) else (some false)) else (none)) = some r := h
 clear h
 by_cases c2 : 0 < (l0.length : Int)
 ·rw [if_pos c2] at H
  have c2b0 : decide (0 < (l0.length : Int)) = true := decide_eq_true c2
  have c2b1 : decide (0 < l0.length) = true := decide_eq_true (by omega)
  clear c2
  obtain ⟨bq3, hbq3⟩ : ∃ b_ : Bool, b_ = (rdOf false l0 0) := ⟨_, rfl⟩
  replace H : (if bq3 = true then (if 1 < (l0.length : Int) then (some (!(rdOf false l0 1))) else (none)) else (some false)) = some r := by rw [← hbq3] at H; exact H
  have Nbq3 := Aside0.mk hbq3
  clear hbq3
  by_cases c4 : bq3 = true
  ·subst c4
   have H1 : (if 1 < (l0.length : Int) then (some (!(rdOf false l0 1))) else (none)) = some r := by rw [if_pos rfl] at H; exact H
   clear H
   have H := H1
   clear H1
   by_cases c5 : 1 < (l0.length : Int)
   ·rw [if_pos c5] at H
    have c5b0 : decide (1 < (l0.length : Int)) = true := decide_eq_true c5
    have c5b1 : decide (1 < l0.length) = true := decide_eq_true (by omega)
    clear c5
    obtain rfl := Option.some.inj H
    have p146 : 0 ≤ (0 : Int) := (by omega)
    have q146 : 0 < (l0.length : Int) := of_decide_eq_true zA
    obtain ⟨ad146, e146, hx146_0⟩ := Kd.at_bool HR0.out 0 p146 q146
    (try rw [← Nbq3.out] at hx146_0)
    cases e146
    have qi146 : (0 < l0.length) = True := eq_true (by omega)
    (try rw [show ((0 : Int)).toNat = 0 from rfl] at hx146_0)
    (try rw [Addr.add_zero'] at hx146_0)
    replace p146 := eq_true p146
    replace q146 := eq_true q146
    have p147 : 0 ≤ (1 : Int) := (by omega)
    have q147 : 1 < (l0.length : Int) := of_decide_eq_true zA
    obtain ⟨ad147, e147, hx147_0⟩ := Kd.at_bool HR0.out 1 p147 q147
    (try rw [← Nbq3.out] at hx147_0)
    obtain rfl : ad146 = ad147 := (by injection e147)
    (try simp only [show (1 : Int).toNat = 1 from rfl, Nat.reduceMul, Nat.reduceEqDiff, Go.Addr.add, ↓reduceIte] at hx147_0)
    have qi147 : (1 < l0.length) = True := eq_true (by omega)
    (try rw [show ((1 : Int)).toNat = 1 from rfl] at hx147_0)
    replace p147 := eq_true p147
    replace q147 := eq_true q147
    go_enter Try.func31, Try.ntmps31
    go_wp2
    go_ret
    exact ⟨by first | rfl | (simp; done) | (simp [*]; done), by repeat (first | exact Drawn0.refl _ | apply Drawn0.step)⟩
   ·rw [if_neg c5] at H
    exact absurd H (by simp)
  ·replace c4 := Bool.eq_false_iff.mpr c4
   subst c4
   have H1 : (some false) = some r := by rw [if_neg (show ¬ (false = true) by decide)] at H; exact H
   clear H
   have H := H1
   clear H1
   obtain rfl := Option.some.inj H
   have p146 : 0 ≤ (0 : Int) := (by omega)
   have q146 : 0 < (l0.length : Int) := of_decide_eq_true zA
   obtain ⟨ad146, e146, hx146_0⟩ := Kd.at_bool HR0.out 0 p146 q146
   (try rw [← Nbq3.out] at hx146_0)
   cases e146
   have qi146 : (0 < l0.length) = True := eq_true (by omega)
   (try rw [show ((0 : Int)).toNat = 0 from rfl] at hx146_0)
   (try rw [Addr.add_zero'] at hx146_0)
   replace p146 := eq_true p146
   replace q146 := eq_true q146
   go_enter Try.func31, Try.ntmps31
   go_wp2
   go_ret
   exact ⟨by first | rfl | (simp; done) | (simp [*]; done), by repeat (first | exact Drawn0.refl _ | apply Drawn0.step)⟩
 ·rw [if_neg c2] at H
  exact absurd H (by simp)

/-! ### extent_Union_1: function 32 -/
def extent_Union_1.f (l0 : List Bool) : Option (Bool) := if 0 < (l0.length : Int) then (if rdOf false l0 0 = true then (some true) else (if 1 < (l0.length : Int) then (some (rdOf false l0 1)) else (none))) else (none)
set_option maxHeartbeats 8000000 in
set_option maxRecDepth 100000 in
theorem extent_Union_1.calls (A0 : Option Addr) (c0 : Nat) (l0 : List Bool) (r : Bool) (w : World) (hr0 : Kd.C Kd.bool w A0 l0.length l0) (hc0 : l0.length ≤ c0) (h : extent_Union_1.f l0 = some r) :
  Calls Try.prog 32 #[.slice A0 l0.length c0] w fun e w' => e = .returned (.bool r) ∧ Drawn0 w w' := by
 have HR0 := Aside0.mk hr0
 have HC0 := Aside0.mk hc0
 clear hr0 hc0
 have H : (if 0 < (l0.length : Int) then (if rdOf false l0 0 = true then (some true) else (if 1 < (l0.length : Int) then (some (rdOf false l0 1)) else (none))) else (none)) = some r := h
 clear h
 by_cases c2 : 0 < (l0.length : Int)
 ·rw [if_pos c2] at H
  have c2b0 : decide (0 < (l0.length : Int)) = true := decide_eq_true c2
  have c2b1 : decide (0 < l0.length) = true := decide_eq_true (by omega)
  clear c2
  obtain ⟨bq3, hbq3⟩ : ∃ b_ : Bool, b_ = (rdOf false l0 0) := ⟨_, rfl⟩
  replace H : (if bq3 = true then (some true) else (if 1 < (l0.length : Int) then (some (rdOf false l0 1)) else (none))) = some r := by rw [← hbq3] at H; exact H
  have Nbq3 := Aside0.mk hbq3
  clear hbq3
  by_cases c4 : bq3 = true
  ·subst c4
   have H1 : (some true) = some r := by rw [if_pos rfl] at H; exact H
   clear H
   have H := H1
   clear H1
   obtain rfl := Option.some.inj H
   have p148 : 0 ≤ (0 : Int) := (by omega)
   have q148 : 0 < (l0.length : Int) := of_decide_eq_true zA
   obtain ⟨ad148, e148, hx148_0⟩ := Kd.at_bool HR0.out 0 p148 q148
   (try rw [← Nbq3.out] at hx148_0)
   cases e148
   have qi148 : (0 < l0.length) = True := eq_true (by omega)
   (try rw [show ((0 : Int)).toNat = 0 from rfl] at hx148_0)
   (try rw [Addr.add_zero'] at hx148_0)
   replace p148 := eq_true p148
   replace q148 := eq_true q148
   go_enter Try.func32, Try.ntmps32
   go_wp2
   go_ret
   exact ⟨by first | rfl | (simp; done) | (simp [*]; done), by repeat (first | exact Drawn0.refl _ | apply Drawn0.step)⟩
  ·replace c4 := Bool.eq_false_iff.mpr c4
   subst c4
   have H1 : (if 1 < (l0.length : Int) then (some (rdOf false l0 1)) else (none)) = some r := by rw [if_neg (show ¬ (false = true) by decide)] at H; exact H
   clear H
   have H := H1
   clear H1
   by_cases c5 : 1 < (l0.length : Int)
   ·rw [if_pos c5] at H
    have c5b0 : decide (1 < (l0.length : Int)) = true := decide_eq_true c5
    have c5b1 : decide (1 < l0.length) = true := decide_eq_true (by omega)
    clear c5
    obtain rfl := Option.some.inj H
    have p148 : 0 ≤ (0 : Int) := (by omega)
    have q148 : 0 < (l0.length : Int) := of_decide_eq_true zA
    obtain ⟨ad148, e148, hx148_0⟩ := Kd.at_bool HR0.out 0 p148 q148
    (try rw [← Nbq3.out] at hx148_0)
    cases e148
    have qi148 : (0 < l0.length) = True := eq_true (by omega)
    (try rw [show ((0 : Int)).toNat = 0 from rfl] at hx148_0)
    (try rw [Addr.add_zero'] at hx148_0)
    replace p148 := eq_true p148
    replace q148 := eq_true q148
    have p149 : 0 ≤ (1 : Int) := (by omega)
    have q149 : 1 < (l0.length : Int) := of_decide_eq_true zA
    obtain ⟨ad149, e149, hx149_0⟩ := Kd.at_bool HR0.out 1 p149 q149
    (try rw [← Nbq3.out] at hx149_0)
    obtain rfl : ad148 = ad149 := (by injection e149)
    (try simp only [show (1 : Int).toNat = 1 from rfl, Nat.reduceMul, Nat.reduceEqDiff, Go.Addr.add, ↓reduceIte] at hx149_0)
    have qi149 : (1 < l0.length) = True := eq_true (by omega)
    (try rw [show ((1 : Int)).toNat = 1 from rfl] at hx149_0)
    replace p149 := eq_true p149
    replace q149 := eq_true q149
    go_enter Try.func32, Try.ntmps32
    go_wp2
    go_ret
    exact ⟨by first | rfl | (simp; done) | (simp [*]; done), by repeat (first | exact Drawn0.refl _ | apply Drawn0.step)⟩
   ·rw [if_neg c5] at H
    exact absurd H (by simp)
 ·rw [if_neg c2] at H
  exact absurd H (by simp)

/-! ### extent_Intersect_1: function 33 -/
def extent_Intersect_1.f (l0 : List Bool) : Option (Bool) := if 0 < (l0.length : Int) then (if rdOf false l0 0 = true then (if 1 < (l0.length : Int) then (some (rdOf false l0 1)) else (none)) else (some false)) else (none)
set_option maxHeartbeats 8000000 in
set_option maxRecDepth 100000 in
theorem extent_Intersect_1.calls (A0 : Option Addr) (c0 : Nat) (l0 : List Bool) (r : Bool) (w : World) (hr0 : Kd.C Kd.bool w A0 l0.length l0) (hc0 : l0.length ≤ c0) (h : extent_Intersect_1.f l0 = some r) :
  Calls Try.prog 33 #[.slice A0 l0.length c0] w fun e w' => e = .returned (.bool r) ∧ Drawn0 w w' := by
 have HR0 := Aside0.mk hr0
 have HC0 := Aside0.mk hc0
 clear hr0 hc0
 have H : (if 0 < (l0.length : Int) then (if rdOf false l0 0 = true then (if 1 < (l0.length : Int) then (some (rdOf false l0 1)) else (none)) else (some false)) else (none)) = some r := h
 clear h
 by_cases c2 : 0 < (l0.length : Int)
 ·rw [if_pos c2] at H
  have c2b0 : decide (0 < (l0.length : Int)) = true := decide_eq_true c2
  have c2b1 : decide (0 < l0.length) = true := decide_eq_true (by omega)
  clear c2
  obtain ⟨bq3, hbq3⟩ : ∃ b_ : Bool, b_ = (rdOf false l0 0) := ⟨_, rfl⟩
  replace H : (if bq3 = true then (if 1 < (l0.length : Int) then (some (rdOf false l0 1)) else (none)) else (some false)) = some r := by rw [← hbq3] at H; exact H
  have Nbq3 := Aside0.mk hbq3
  clear hbq3
  by_cases c4 : bq3 = true
  ·subst c4
   have H1 : (if 1 < (l0.length : Int) then (some (rdOf false l0 1)) else (none)) = some r := by rw [if_pos rfl] at H; exact H
   clear H
   have H := H1
   clear H1
   by_cases c5 : 1 < (l0.length : Int)
   ·rw [if_pos c5] at H
    have c5b0 : decide (1 < (l0.length : Int)) = true := decide_eq_true c5
    have c5b1 : decide (1 < l0.length) = true := decide_eq_true (by omega)
    clear c5
    obtain rfl := Option.some.inj H
    have p150 : 0 ≤ (0 : Int) := (by omega)
    have q150 : 0 < (l0.length : Int) := of_decide_eq_true zA
    obtain ⟨ad150, e150, hx150_0⟩ := Kd.at_bool HR0.out 0 p150 q150
    (try rw [← Nbq3.out] at hx150_0)
    cases e150
    have qi150 : (0 < l0.length) = True := eq_true (by omega)
    (try rw [show ((0 : Int)).toNat = 0 from rfl] at hx150_0)
    (try rw [Addr.add_zero'] at hx150_0)
    replace p150 := eq_true p150
    replace q150 := eq_true q150
    have p151 : 0 ≤ (1 : Int) := (by omega)
    have q151 : 1 < (l0.length : Int) := of_decide_eq_true zA
    obtain ⟨ad151, e151, hx151_0⟩ := Kd.at_bool HR0.out 1 p151 q151
    (try rw [← Nbq3.out] at hx151_0)
    obtain rfl : ad150 = ad151 := (by injection e151)
    (try simp only [show (1 : Int).toNat = 1 from rfl, Nat.reduceMul, Nat.reduceEqDiff, Go.Addr.add, ↓reduceIte] at hx151_0)
    have qi151 : (1 < l0.length) = True := eq_true (by omega)
    (try rw [show ((1 : Int)).toNat = 1 from rfl] at hx151_0)
    replace p151 := eq_true p151
    replace q151 := eq_true q151
    go_enter Try.func33, Try.ntmps33
    go_wp2
    go_ret
    exact ⟨by first | rfl | (simp; done) | (simp [*]; done), by repeat (first | exact Drawn0.refl _ | apply Drawn0.step)⟩
   ·rw [if_neg c5] at H
    exact absurd H (by simp)
  ·replace c4 := Bool.eq_false_iff.mpr c4
   subst c4
   have H1 : (some false) = some r := by rw [if_neg (show ¬ (false = true) by decide)] at H; exact H
   clear H
   have H := H1
   clear H1
   obtain rfl := Option.some.inj H
   have p150 : 0 ≤ (0 : Int) := (by omega)
   have q150 : 0 < (l0.length : Int) := of_decide_eq_true zA
   obtain ⟨ad150, e150, hx150_0⟩ := Kd.at_bool HR0.out 0 p150 q150
   (try rw [← Nbq3.out] at hx150_0)
   cases e150
   have qi150 : (0 < l0.length) = True := eq_true (by omega)
   (try rw [show ((0 : Int)).toNat = 0 from rfl] at hx150_0)
   (try rw [Addr.add_zero'] at hx150_0)
   replace p150 := eq_true p150
   replace q150 := eq_true q150
   go_enter Try.func33, Try.ntmps33
   go_wp2
   go_ret
   exact ⟨by first | rfl | (simp; done) | (simp [*]; done), by repeat (first | exact Drawn0.refl _ | apply Drawn0.step)⟩
 ·rw [if_neg c2] at H
  exact absurd H (by simp)

end
end Go.Proofs.Ytcckacamocaofaa.P
