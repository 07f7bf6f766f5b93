-- Written by this session's wip/tools/px.py out of the translation. Lean checks it.
import Derived.Test.YtcckacamocaofaaP0
import Derived.Test.YtcckacamocaofaaP1
import Derived.Test.YtcckacamocaofaaP6
import Derived.Test.YtcckacamocaofaaP7
import Derived.Test.YtcckacamocaofaaExtE
namespace Go.Proofs.Ytcckacamocaofaa.P
noncomputable section
open Go.RowKit Go.Proofs.YtcckacamocaofaaW.PrintWords Go.Proofs.YtcckacamocaofaaW.PrintLast Go.Proofs.YtcckacamocaofaaW.PrintMore
attribute [local go_sem] max2_int min2_int max_two min_two max_three min_three max_four min_four   -- for this text's walks alone
set_option linter.unusedVariables false
set_option linter.unusedSimpArgs false

attribute [local go_sem high] eqA30
/-! ### extent_Total: function 21 -/
def extent_Total.l0 : Nat → Int → List (S30) → Int → Int → Option (Int)
 | 0, _, _, _, _ => none
 | k + 1, x3, x7, x8, x9 => if x9 < x8 then (if 0 ≤ x9 then (if x9 < (x7.length : Int) then (extent_Total.l0 k (wrap64 (x3 + ((rd_T30 x7 x9).f1))) x7 x8 (wrap64 (x9 + 1))) else (none)) else (none)) else (some x3)
def extent_Total.f (k : Nat) (l0 : List (S30)) : Option (Int) := (extent_Normal.f l0).bind fun t175 => (extent_Total.l0 k 0 t175 (t175.length : Int) 0)
theorem extent_Total.mono_l : ∀ k, (∀ y0 y1 y2 y3, LeO (extent_Total.l0 k y0 y1 y2 y3) (extent_Total.l0 (k + 1) y0 y1 y2 y3))
 | 0 => fun _ _ _ _ r h => by simp [extent_Total.l0] at h
 | k + 1 => by
  have ih0 := extent_Total.mono_l k
  ·intro y0 y1 y2 y3
   unfold extent_Total.l0
   repeat' first
   | (with_reducible exact ih0 _ _ _ _)
   | (with_reducible exact LeO.refl _)
   | (with_reducible exact LeO.none _)
   | (with_reducible refine LeO.ite ?_ ?_)
   | (with_reducible refine LeO.bind ?_ (fun _ => ?_))
   | exact ih0 _ _ _ _
   | exact LeO.none _
   | refine LeO.ite ?_ ?_
   | refine LeO.bind ?_ (fun _ => ?_)
theorem extent_Total.mono : ∀ a0 k, LeO (extent_Total.f k a0) (extent_Total.f (k + 1) a0) := by
 intro a0 k
 have ih0 := extent_Total.mono_l k
 unfold extent_Total.f
 repeat' first
   | (with_reducible exact ih0 _ _ _ _)
   | (with_reducible exact LeO.refl _)
   | (with_reducible exact LeO.none _)
   | (with_reducible refine LeO.ite ?_ ?_)
   | (with_reducible refine LeO.bind ?_ (fun _ => ?_))
   | exact ih0 _ _ _ _
   | exact LeO.none _
   | refine LeO.ite ?_ ?_
   | refine LeO.bind ?_ (fun _ => ?_)
set_option maxHeartbeats 8000000 in
set_option maxRecDepth 100000 in
theorem extent_Total.calls (k : Nat) (A0 : Option Addr) (c0 : Nat) (l0 : List (S30)) (r : Int) (w : World) (hr0 : Kd.C k30 w A0 l0.length l0) (hc0 : l0.length ≤ c0) (h : extent_Total.f k l0 = some r) :
  Calls Try.prog 21 #[.slice A0 l0.length c0] w fun e w' => e = .returned (.int .i64 r) ∧ Below w.heap.size w w' := by
 have hu30 := Try.underlying30
 have HR0 := Aside0.mk hr0
 have HC0 := Aside0.mk hc0
 clear hr0 hc0
 have HB := Aside0.mk (Below.refl w.heap.size w)
 have H : ((extent_Normal.f l0).bind fun t175 => (extent_Total.l0 k 0 t175 (t175.length : Int) 0)) = some r := h
 clear h
 replace H := Option.bind_eq_some_iff.mp H
 obtain ⟨t175, A20, H⟩ := H
 replace H : (extent_Total.l0 k 0 t175 (t175.length : Int) 0) = some r := H
 have A2 := Aside0.mk A20
 clear A20
 have H' := Aside0.mk H
 clear H
 go_enter Try.func21, Try.ntmps21
 go_wp2_with (first | ((with_reducible refine gate_callee (f := 15) rfl ?_); refine goesL_ (some 7) rfl rfl Try.func15 (by kernel_rfl) rfl #[.slice A0 l0.length c0] rfl zM ?_; (with_reducible refine (extent_Normal.calls _ _ l0 t175 _ ?side1 ?side2 A2.out).mono ?_); (case side1 => repeat (first | exact HR0.out | (with_reducible refine Kd.C_alloc ?_ _) | (with_reducible refine Kd.C_drewN ?_ _) | (with_reducible refine Kd.C_drew ?_))); (case side2 => exact HC0.out); rintro e w3 ⟨v176, rfl, ho0, hb⟩; refine ⟨_, rfl, ?_⟩; have n0_ := Aside0.mk (Kd.R_lower ho0 (below_size (zB HB))); have n1_ := Aside0.mk (below_step (zB HB) hb); clear HB; have HO177 := n0_; have HB := n1_; clear n0_ n1_; (try clear hb); (try clear hb2); (try clear hk); (try clear hi); (try clear ho0); obtain ⟨Ao4, co4, eo4⟩ := Kd.R_slice HO177.out; subst eo4))
 go_loopg [3, 9] k (fun kq v3 v9 w' => ∃ (x3_1 : Int) (x9_1 : Int), v3 = .int .i64 x3_1 ∧ v9 = .int .i64 x9_1 ∧ Aside0 (extent_Total.l0 kq x3_1 t175 (t175.length : Int) x9_1 = some r) ∧ Aside0 (kq ≤ k) ∧ Aside0 (Kd.R k30 30 w' w.heap.size (fun _ => True) (.slice Ao4 t175.length co4) t175) ∧ Aside0 (Below w.heap.size w w'))
 case atStart => exact ⟨(0), (0), zS, zS, H', ⟨Nat.le_refl _⟩, ⟨zR HO177.out⟩, ⟨zB HB⟩⟩
 case round =>
  clear H'
  try clear c1
  try clear c2
  try clear p2
  obtain ⟨x3_1, x9_1, rfl, rfl, HA, HK1, HO_7, HB⟩ := hrel
  cases gk with
  | zero => exact absurd HA.out (by simp [extent_Total.l0])
  | succ k1 =>
   have H := HA.out
   clear HA
   simp only [extent_Total.l0] at H
   by_cases c5 : x9_1 < (t175.length : Int)
   ·rw [if_pos c5] at H
    have c5b0 : decide (x9_1 < (t175.length : Int)) = true := decide_eq_true c5
    clear c5
    by_cases c6 : 0 ≤ x9_1
    ·rw [if_pos c6] at H
     have c6b0 : decide (0 ≤ x9_1) = true := decide_eq_true c6
     clear c6
     by_cases c7 : x9_1 < (t175.length : Int)
     ·rw [if_pos c7] at H
      have c7b0 : decide (x9_1 < (t175.length : Int)) = true := decide_eq_true c7
      clear c7
      have H' := Aside0.mk H
      clear H
      have p178 : 0 ≤ (x9_1 : Int) := of_decide_eq_true zA
      have q178 : x9_1 < (t175.length : Int) := of_decide_eq_true zA
      obtain ⟨ad178, e178, hx178_0, hx178_1⟩ := at_T30 (Kd.R_reads' HO_7.out).2.2 x9_1 p178 q178
      cases e178
      replace p178 := eq_true p178
      replace q178 := eq_true q178
      go_wp2_with (first | ((with_reducible refine gate_dst (N := 5) rfl ?_); refine box_event ?hg (N := 5) ?hd (cs := #[.int .i64 0, .int .i64 0]) (t := 30) ?hr ?_; (case hd => rfl); (case hg => rfl); (case hr => first | (go_simp; done) | (go_simp; rfl)); intro gb179 hg w8 hbox hb; have n0_ := Aside0.mk (Kd.R_below (Kd.R_elderB (zR HO_7.out) gb179 (Nat.le_of_eq hg.symm)) hb); have n1_ := Aside0.mk (below_step (zB HB) hb); have n2_ := Aside0.mk (hbox); have n3_ := Aside0.mk ((by rw [hg]; exact (below_size (zB HB)) : w.heap.size ≤ gb179)); have n4_ := Aside0.mk ((by rw [hg]; exact (below_size (zB HB)) : w.heap.size ≤ gb179)); clear HO_7; clear HB; have HO_7 := n0_; have HB := n1_; have BK179 := n2_; have GW179 := n3_; have GE179 := n4_; clear n0_ n1_ n2_ n3_ n4_; clear hb hbox hg; have hcz9_0 : w8.cell? ⟨gb179, 0, none⟩ = some (.int .i64 0) := (blk_cell BK179.out 0).trans rfl; have hcz9_1 : w8.cell? ⟨gb179, 1, none⟩ = some (.int .i64 0) := (blk_cell BK179.out 1).trans rfl; have hfz9_0 := blk_frozen BK179.out 0; have hfz9_1 := blk_frozen BK179.out 1))
      go_roundg k1
      case measure => have := HK1.out; omega
      case rel => exact ⟨(wrap64 (x3_1 + ((rd_T30 t175 x9_1).f1))), (wrap64 (x9_1 + 1)), zS, zS, H', ⟨by have := HK1.out; omega⟩, ⟨by (with_reducible repeat (first | apply Kd.R_alloc | apply Kd.R_drewN | apply Kd.R_drew)); exact Kd.R_mono (Kd.R_far (p := ⟨gb179, 1, none⟩) (Kd.R_far (p := ⟨gb179, 0, none⟩) (Kd.R_mono HO_7.out (fun k_ hk => (⟨hk, hk.2⟩ : _ ∧ k_ ≠ gb179))) (fun _ hk => hk.2) (.int .i64 ((rd_T30 t175 x9_1).f0))) (fun _ hk => hk.2) (.int .i64 ((rd_T30 t175 x9_1).f1))) (fun _ hk => trivial)⟩, ⟨zG HB GE179⟩⟩
     ·rw [if_neg c7] at H
      exact absurd H (by simp)
    ·rw [if_neg c6] at H
     exact absurd H (by simp)
   ·rw [if_neg c5] at H
    have c5b0 : decide (x9_1 < (t175.length : Int)) = false := decide_eq_false c5
    clear c5
    obtain rfl := Option.some.inj H
    go_wp2
    go_ret
    exact ⟨by first | rfl | (simp [errW_none, errW_some] <;> rfl) | (simp [*, errW_none, errW_some] <;> rfl), by repeat (first | (with_reducible first | exact HB.out | apply below_alloc | apply pw_below_drewN | apply below_drew1) | exact HB.out)⟩

/-! ### tapearchivelaw34_lives: function 8 -/
def tapearchivelaw34_lives.f (k : Nat)  : Option (Bool) := (extent_Normal.f (([(⟨5, 2⟩ : S30), (⟨0, 3⟩ : S30), (⟨3, 1⟩ : S30), (⟨9, 0⟩ : S30)] : List (S30)))).bind fun t183 => ((extent_Subtract.f (([(⟨0, 10⟩ : S30)] : List (S30))) (([(⟨3, 2⟩ : S30)] : List (S30)))).bind fun t192 => ((extent_Align.f k (([(⟨70, 1⟩ : S30), (⟨100, 30⟩ : S30)] : List (S30))) 64 150).bind fun t198 => ((extent_Gaps.f k (([(⟨0, 2⟩ : S30), (⟨4, 1⟩ : S30), (⟨9, 1⟩ : S30)] : List (S30))) 2).bind fun t204 => (if (t183.length : Int) = 2 then (if 0 < (t183.length : Int) then (if (((rd_T30 t183 0).f0) == 0 && (((rd_T30 t183 0).f1) == 4)) = true then (if 1 < (t183.length : Int) then (if (((rd_T30 t183 1).f0) == 5 && (((rd_T30 t183 1).f1) == 2)) = true then (if (t192.length : Int) = 2 then (if 1 < (t192.length : Int) then (if (((rd_T30 t192 1).f0) == 5 && (((rd_T30 t192 1).f1) == 5)) = true then (if (t198.length : Int) = 1 then (if 0 < (t198.length : Int) then (if (((rd_T30 t198 0).f0) == 64 && (((rd_T30 t198 0).f1) == 86)) = true then (if (t204.length : Int) = 2 then (if 0 < (t204.length : Int) then (if (((rd_T30 t204 0).f0) == 0 && (((rd_T30 t204 0).f1) == 5)) = true then ((extent_Total.f k t183).bind fun t212 => (some (t212 == 6))) else (some false)) else (none)) else (some false)) else (some false)) else (none)) else (some false)) else (some false)) else (none)) else (some false)) else (some false)) else (none)) else (some false)) else (none)) else (some false)))))
theorem tapearchivelaw34_lives.mono : ∀ k, LeO (tapearchivelaw34_lives.f k ) (tapearchivelaw34_lives.f (k + 1) ) := by
 intro  k
 unfold tapearchivelaw34_lives.f
 repeat' first
   | (with_reducible exact extent_Align.mono _ _ _ _)
   | (with_reducible exact extent_Gaps.mono _ _ _)
   | (with_reducible exact extent_Total.mono _ _)
   | (with_reducible exact LeO.refl _)
   | (with_reducible exact LeO.none _)
   | (with_reducible refine LeO.ite ?_ ?_)
   | (with_reducible refine LeO.bind ?_ (fun _ => ?_))
   | exact extent_Align.mono _ _ _ _
   | exact extent_Gaps.mono _ _ _
   | exact extent_Total.mono _ _
   | exact LeO.none _
   | refine LeO.ite ?_ ?_
   | refine LeO.bind ?_ (fun _ => ?_)
set_option maxHeartbeats 8000000 in
set_option maxRecDepth 100000 in
theorem tapearchivelaw34_lives.calls (k : Nat)  (r : Bool) (w : World) (ht_ : Aside0 (r = true)) (h : tapearchivelaw34_lives.f k  = some r) :
  Calls Try.prog 8 #[] w fun e w' => e = .returned (.bool r) ∧ Below w.heap.size w w' := by
 have hu30 := Try.underlying30
 have HB := Aside0.mk (Below.refl w.heap.size w)
 have H : ((extent_Normal.f (([(⟨5, 2⟩ : S30), (⟨0, 3⟩ : S30), (⟨3, 1⟩ : S30), (⟨9, 0⟩ : S30)] : List (S30)))).bind fun t183 => ((extent_Subtract.f (([(⟨0, 10⟩ : S30)] : List (S30))) (([(⟨3, 2⟩ : S30)] : List (S30)))).bind fun t192 => ((extent_Align.f k (([(⟨70, 1⟩ : S30), (⟨100, 30⟩ : S30)] : List (S30))) 64 150).bind fun t198 => ((extent_Gaps.f k (([(⟨0, 2⟩ : S30), (⟨4, 1⟩ : S30), (⟨9, 1⟩ : S30)] : List (S30))) 2).bind fun t204 => (if (t183.length : Int) = 2 then (if 0 < (t183.length : Int) then (if (((rd_T30 t183 0).f0) == 0 && (((rd_T30 t183 0).f1) == 4)) = true then (if 1 < (t183.length : Int) then (if (((rd_T30 t183 1).f0) == 5 && (((rd_T30 t183 1).f1) == 2)) = true then (if (t192.length : Int) = 2 then (if 1 < (t192.length : Int) then (if (((rd_T30 t192 1).f0) == 5 && (((rd_T30 t192 1).f1) == 5)) = true then (if (t198.length : Int) = 1 then (if 0 < (t198.length : Int) then (if (((rd_T30 t198 0).f0) == 64 && (((rd_T30 t198 0).f1) == 86)) = true then (if (t204.length : Int) = 2 then (if 0 < (t204.length : Int) then (if (((rd_T30 t204 0).f0) == 0 && (((rd_T30 t204 0).f1) == 5)) = true then ((extent_Total.f k t183).bind fun t212 => (some (t212 == 6))) else (some false)) else (none)) else (some false)) else (some false)) else (none)) else (some false)) else (some false)) else (none)) else (some false)) else (some false)) else (none)) else (some false)) else (none)) else (some false)))))) = some r := h
 clear h
 obtain ⟨y180, hy180⟩ : ∃ y_ : List (S30), y_ = (([(⟨5, 2⟩ : S30), (⟨0, 3⟩ : S30), (⟨3, 1⟩ : S30), (⟨9, 0⟩ : S30)] : List (S30))) := ⟨_, rfl⟩
 replace H : ((extent_Normal.f y180).bind fun t183 => ((extent_Subtract.f (([(⟨0, 10⟩ : S30)] : List (S30))) (([(⟨3, 2⟩ : S30)] : List (S30)))).bind fun t192 => ((extent_Align.f k (([(⟨70, 1⟩ : S30), (⟨100, 30⟩ : S30)] : List (S30))) 64 150).bind fun t198 => ((extent_Gaps.f k (([(⟨0, 2⟩ : S30), (⟨4, 1⟩ : S30), (⟨9, 1⟩ : S30)] : List (S30))) 2).bind fun t204 => (if (t183.length : Int) = 2 then (if 0 < (t183.length : Int) then (if (((rd_T30 t183 0).f0) == 0 && (((rd_T30 t183 0).f1) == 4)) = true then (if 1 < (t183.length : Int) then (if (((rd_T30 t183 1).f0) == 5 && (((rd_T30 t183 1).f1) == 2)) = true then (if (t192.length : Int) = 2 then (if 1 < (t192.length : Int) then (if (((rd_T30 t192 1).f0) == 5 && (((rd_T30 t192 1).f1) == 5)) = true then (if (t198.length : Int) = 1 then (if 0 < (t198.length : Int) then (if (((rd_T30 t198 0).f0) == 64 && (((rd_T30 t198 0).f1) == 86)) = true then (if (t204.length : Int) = 2 then (if 0 < (t204.length : Int) then (if (((rd_T30 t204 0).f0) == 0 && (((rd_T30 t204 0).f1) == 5)) = true then ((extent_Total.f k t183).bind fun t212 => (some (t212 == 6))) else (some false)) else (none)) else (some false)) else (some false)) else (none)) else (some false)) else (some false)) else (none)) else (some false)) else (some false)) else (none)) else (some false)) else (none)) else (some false)))))) = some r := by first | (rw [hy180]; with_reducible exact H) | (have H2_ := (Option.bind_some _ _).symm.trans H; rw [hy180]; with_reducible exact H2_) | (have H2_ := (Option.bind_some _ _).symm.trans H; with_reducible exact H2_) | with_reducible exact H | (rw [hy180]; exact H) | exact H
 have Ny180 := Aside0.mk hy180
 clear hy180
 replace H := Option.bind_eq_some_iff.mp H
 obtain ⟨t183, A10, H⟩ := H
 replace H : ((extent_Subtract.f (([(⟨0, 10⟩ : S30)] : List (S30))) (([(⟨3, 2⟩ : S30)] : List (S30)))).bind fun t192 => ((extent_Align.f k (([(⟨70, 1⟩ : S30), (⟨100, 30⟩ : S30)] : List (S30))) 64 150).bind fun t198 => ((extent_Gaps.f k (([(⟨0, 2⟩ : S30), (⟨4, 1⟩ : S30), (⟨9, 1⟩ : S30)] : List (S30))) 2).bind fun t204 => (if (t183.length : Int) = 2 then (if 0 < (t183.length : Int) then (if (((rd_T30 t183 0).f0) == 0 && (((rd_T30 t183 0).f1) == 4)) = true then (if 1 < (t183.length : Int) then (if (((rd_T30 t183 1).f0) == 5 && (((rd_T30 t183 1).f1) == 2)) = true then (if (t192.length : Int) = 2 then (if 1 < (t192.length : Int) then (if (((rd_T30 t192 1).f0) == 5 && (((rd_T30 t192 1).f1) == 5)) = true then (if (t198.length : Int) = 1 then (if 0 < (t198.length : Int) then (if (((rd_T30 t198 0).f0) == 64 && (((rd_T30 t198 0).f1) == 86)) = true then (if (t204.length : Int) = 2 then (if 0 < (t204.length : Int) then (if (((rd_T30 t204 0).f0) == 0 && (((rd_T30 t204 0).f1) == 5)) = true then ((extent_Total.f k t183).bind fun t212 => (some (t212 == 6))) else (some false)) else (none)) else (some false)) else (some false)) else (none)) else (some false)) else (some false)) else (none)) else (some false)) else (some false)) else (none)) else (some false)) else (none)) else (some false))))) = some r := H
 have A1 := Aside0.mk A10
 clear A10
 obtain ⟨y186, hy186⟩ : ∃ y_ : List (S30), y_ = (([(⟨0, 10⟩ : S30)] : List (S30))) := ⟨_, rfl⟩
 replace H : ((extent_Subtract.f y186 (([(⟨3, 2⟩ : S30)] : List (S30)))).bind fun t192 => ((extent_Align.f k (([(⟨70, 1⟩ : S30), (⟨100, 30⟩ : S30)] : List (S30))) 64 150).bind fun t198 => ((extent_Gaps.f k (([(⟨0, 2⟩ : S30), (⟨4, 1⟩ : S30), (⟨9, 1⟩ : S30)] : List (S30))) 2).bind fun t204 => (if (t183.length : Int) = 2 then (if 0 < (t183.length : Int) then (if (((rd_T30 t183 0).f0) == 0 && (((rd_T30 t183 0).f1) == 4)) = true then (if 1 < (t183.length : Int) then (if (((rd_T30 t183 1).f0) == 5 && (((rd_T30 t183 1).f1) == 2)) = true then (if (t192.length : Int) = 2 then (if 1 < (t192.length : Int) then (if (((rd_T30 t192 1).f0) == 5 && (((rd_T30 t192 1).f1) == 5)) = true then (if (t198.length : Int) = 1 then (if 0 < (t198.length : Int) then (if (((rd_T30 t198 0).f0) == 64 && (((rd_T30 t198 0).f1) == 86)) = true then (if (t204.length : Int) = 2 then (if 0 < (t204.length : Int) then (if (((rd_T30 t204 0).f0) == 0 && (((rd_T30 t204 0).f1) == 5)) = true then ((extent_Total.f k t183).bind fun t212 => (some (t212 == 6))) else (some false)) else (none)) else (some false)) else (some false)) else (none)) else (some false)) else (some false)) else (none)) else (some false)) else (some false)) else (none)) else (some false)) else (none)) else (some false))))) = some r := by first | (rw [hy186]; with_reducible exact H) | (have H2_ := (Option.bind_some _ _).symm.trans H; rw [hy186]; with_reducible exact H2_) | (have H2_ := (Option.bind_some _ _).symm.trans H; with_reducible exact H2_) | with_reducible exact H | (rw [hy186]; exact H) | exact H
 have Ny186 := Aside0.mk hy186
 clear hy186
 obtain ⟨y189, hy189⟩ : ∃ y_ : List (S30), y_ = (([(⟨3, 2⟩ : S30)] : List (S30))) := ⟨_, rfl⟩
 replace H : ((extent_Subtract.f y186 y189).bind fun t192 => ((extent_Align.f k (([(⟨70, 1⟩ : S30), (⟨100, 30⟩ : S30)] : List (S30))) 64 150).bind fun t198 => ((extent_Gaps.f k (([(⟨0, 2⟩ : S30), (⟨4, 1⟩ : S30), (⟨9, 1⟩ : S30)] : List (S30))) 2).bind fun t204 => (if (t183.length : Int) = 2 then (if 0 < (t183.length : Int) then (if (((rd_T30 t183 0).f0) == 0 && (((rd_T30 t183 0).f1) == 4)) = true then (if 1 < (t183.length : Int) then (if (((rd_T30 t183 1).f0) == 5 && (((rd_T30 t183 1).f1) == 2)) = true then (if (t192.length : Int) = 2 then (if 1 < (t192.length : Int) then (if (((rd_T30 t192 1).f0) == 5 && (((rd_T30 t192 1).f1) == 5)) = true then (if (t198.length : Int) = 1 then (if 0 < (t198.length : Int) then (if (((rd_T30 t198 0).f0) == 64 && (((rd_T30 t198 0).f1) == 86)) = true then (if (t204.length : Int) = 2 then (if 0 < (t204.length : Int) then (if (((rd_T30 t204 0).f0) == 0 && (((rd_T30 t204 0).f1) == 5)) = true then ((extent_Total.f k t183).bind fun t212 => (some (t212 == 6))) else (some false)) else (none)) else (some false)) else (some false)) else (none)) else (some false)) else (some false)) else (none)) else (some false)) else (some false)) else (none)) else (some false)) else (none)) else (some false))))) = some r := by first | (rw [hy189]; with_reducible exact H) | (have H2_ := (Option.bind_some _ _).symm.trans H; rw [hy189]; with_reducible exact H2_) | (have H2_ := (Option.bind_some _ _).symm.trans H; with_reducible exact H2_) | with_reducible exact H | (rw [hy189]; exact H) | exact H
 have Ny189 := Aside0.mk hy189
 clear hy189
 replace H := Option.bind_eq_some_iff.mp H
 obtain ⟨t192, A20, H⟩ := H
 replace H : ((extent_Align.f k (([(⟨70, 1⟩ : S30), (⟨100, 30⟩ : S30)] : List (S30))) 64 150).bind fun t198 => ((extent_Gaps.f k (([(⟨0, 2⟩ : S30), (⟨4, 1⟩ : S30), (⟨9, 1⟩ : S30)] : List (S30))) 2).bind fun t204 => (if (t183.length : Int) = 2 then (if 0 < (t183.length : Int) then (if (((rd_T30 t183 0).f0) == 0 && (((rd_T30 t183 0).f1) == 4)) = true then (if 1 < (t183.length : Int) then (if (((rd_T30 t183 1).f0) == 5 && (((rd_T30 t183 1).f1) == 2)) = true then (if (t192.length : Int) = 2 then (if 1 < (t192.length : Int) then (if (((rd_T30 t192 1).f0) == 5 && (((rd_T30 t192 1).f1) == 5)) = true then (if (t198.length : Int) = 1 then (if 0 < (t198.length : Int) then (if (((rd_T30 t198 0).f0) == 64 && (((rd_T30 t198 0).f1) == 86)) = true then (if (t204.length : Int) = 2 then (if 0 < (t204.length : Int) then (if (((rd_T30 t204 0).f0) == 0 && (((rd_T30 t204 0).f1) == 5)) = true then ((extent_Total.f k t183).bind fun t212 => (some (t212 == 6))) else (some false)) else (none)) else (some false)) else (some false)) else (none)) else (some false)) else (some false)) else (none)) else (some false)) else (some false)) else (none)) else (some false)) else (none)) else (some false)))) = some r := H
 have A2 := Aside0.mk A20
 clear A20
 obtain ⟨y195, hy195⟩ : ∃ y_ : List (S30), y_ = (([(⟨70, 1⟩ : S30), (⟨100, 30⟩ : S30)] : List (S30))) := ⟨_, rfl⟩
 replace H : ((extent_Align.f k y195 64 150).bind fun t198 => ((extent_Gaps.f k (([(⟨0, 2⟩ : S30), (⟨4, 1⟩ : S30), (⟨9, 1⟩ : S30)] : List (S30))) 2).bind fun t204 => (if (t183.length : Int) = 2 then (if 0 < (t183.length : Int) then (if (((rd_T30 t183 0).f0) == 0 && (((rd_T30 t183 0).f1) == 4)) = true then (if 1 < (t183.length : Int) then (if (((rd_T30 t183 1).f0) == 5 && (((rd_T30 t183 1).f1) == 2)) = true then (if (t192.length : Int) = 2 then (if 1 < (t192.length : Int) then (if (((rd_T30 t192 1).f0) == 5 && (((rd_T30 t192 1).f1) == 5)) = true then (if (t198.length : Int) = 1 then (if 0 < (t198.length : Int) then (if (((rd_T30 t198 0).f0) == 64 && (((rd_T30 t198 0).f1) == 86)) = true then (if (t204.length : Int) = 2 then (if 0 < (t204.length : Int) then (if (((rd_T30 t204 0).f0) == 0 && (((rd_T30 t204 0).f1) == 5)) = true then ((extent_Total.f k t183).bind fun t212 => (some (t212 == 6))) else (some false)) else (none)) else (some false)) else (some false)) else (none)) else (some false)) else (some false)) else (none)) else (some false)) else (some false)) else (none)) else (some false)) else (none)) else (some false)))) = some r := by first | (rw [hy195]; with_reducible exact H) | (have H2_ := (Option.bind_some _ _).symm.trans H; rw [hy195]; with_reducible exact H2_) | (have H2_ := (Option.bind_some _ _).symm.trans H; with_reducible exact H2_) | with_reducible exact H | (rw [hy195]; exact H) | exact H
 have Ny195 := Aside0.mk hy195
 clear hy195
 replace H := Option.bind_eq_some_iff.mp H
 obtain ⟨t198, A30, H⟩ := H
 replace H : ((extent_Gaps.f k (([(⟨0, 2⟩ : S30), (⟨4, 1⟩ : S30), (⟨9, 1⟩ : S30)] : List (S30))) 2).bind fun t204 => (if (t183.length : Int) = 2 then (if 0 < (t183.length : Int) then (if (((rd_T30 t183 0).f0) == 0 && (((rd_T30 t183 0).f1) == 4)) = true then (if 1 < (t183.length : Int) then (if (((rd_T30 t183 1).f0) == 5 && (((rd_T30 t183 1).f1) == 2)) = true then (if (t192.length : Int) = 2 then (if 1 < (t192.length : Int) then (if (((rd_T30 t192 1).f0) == 5 && (((rd_T30 t192 1).f1) == 5)) = true then (if (t198.length : Int) = 1 then (if 0 < (t198.length : Int) then (if (((rd_T30 t198 0).f0) == 64 && (((rd_T30 t198 0).f1) == 86)) = true then (if (t204.length : Int) = 2 then (if 0 < (t204.length : Int) then (if (((rd_T30 t204 0).f0) == 0 && (((rd_T30 t204 0).f1) == 5)) = true then ((extent_Total.f k t183).bind fun t212 => (some (t212 == 6))) else (some false)) else (none)) else (some false)) else (some false)) else (none)) else (some false)) else (some false)) else (none)) else (some false)) else (some false)) else (none)) else (some false)) else (none)) else (some false))) = some r := H
 have A3 := Aside0.mk A30
 clear A30
 obtain ⟨y201, hy201⟩ : ∃ y_ : List (S30), y_ = (([(⟨0, 2⟩ : S30), (⟨4, 1⟩ : S30), (⟨9, 1⟩ : S30)] : List (S30))) := ⟨_, rfl⟩
 replace H : ((extent_Gaps.f k y201 2).bind fun t204 => (if (t183.length : Int) = 2 then (if 0 < (t183.length : Int) then (if (((rd_T30 t183 0).f0) == 0 && (((rd_T30 t183 0).f1) == 4)) = true then (if 1 < (t183.length : Int) then (if (((rd_T30 t183 1).f0) == 5 && (((rd_T30 t183 1).f1) == 2)) = true then (if (t192.length : Int) = 2 then (if 1 < (t192.length : Int) then (if (((rd_T30 t192 1).f0) == 5 && (((rd_T30 t192 1).f1) == 5)) = true then (if (t198.length : Int) = 1 then (if 0 < (t198.length : Int) then (if (((rd_T30 t198 0).f0) == 64 && (((rd_T30 t198 0).f1) == 86)) = true then (if (t204.length : Int) = 2 then (if 0 < (t204.length : Int) then (if (((rd_T30 t204 0).f0) == 0 && (((rd_T30 t204 0).f1) == 5)) = true then ((extent_Total.f k t183).bind fun t212 => (some (t212 == 6))) else (some false)) else (none)) else (some false)) else (some false)) else (none)) else (some false)) else (some false)) else (none)) else (some false)) else (some false)) else (none)) else (some false)) else (none)) else (some false))) = some r := by first | (rw [hy201]; with_reducible exact H) | (have H2_ := (Option.bind_some _ _).symm.trans H; rw [hy201]; with_reducible exact H2_) | (have H2_ := (Option.bind_some _ _).symm.trans H; with_reducible exact H2_) | with_reducible exact H | (rw [hy201]; exact H) | exact H
 have Ny201 := Aside0.mk hy201
 clear hy201
 replace H := Option.bind_eq_some_iff.mp H
 obtain ⟨t204, A40, H⟩ := H
 replace H : (if (t183.length : Int) = 2 then (if 0 < (t183.length : Int) then (if (((rd_T30 t183 0).f0) == 0 && (((rd_T30 t183 0).f1) == 4)) = true then (if 1 < (t183.length : Int) then (if (((rd_T30 t183 1).f0) == 5 && (((rd_T30 t183 1).f1) == 2)) = true then (if (t192.length : Int) = 2 then (if 1 < (t192.length : Int) then (if (((rd_T30 t192 1).f0) == 5 && (((rd_T30 t192 1).f1) == 5)) = true then (if (t198.length : Int) = 1 then (if 0 < (t198.length : Int) then (if (((rd_T30 t198 0).f0) == 64 && (((rd_T30 t198 0).f1) == 86)) = true then (if (t204.length : Int) = 2 then (if 0 < (t204.length : Int) then (if (((rd_T30 t204 0).f0) == 0 && (((rd_T30 t204 0).f1) == 5)) = true then ((extent_Total.f k t183).bind fun t212 => (some (t212 == 6))) else (some false)) else (none)) else (some false)) else (some false)) else (none)) else (some false)) else (some false)) else (none)) else (some false)) else (some false)) else (none)) else (some false)) else (none)) else (some false)) = some r := H
 have A4 := Aside0.mk A40
 clear A40
 by_cases c5 : (t183.length : Int) = 2
 ·rw [if_pos c5] at H
  have c5b0 : ((t183.length : Int) == 2) = true := beq_iff_eq.mpr c5
  have c5b1 : ((t183.length : Int) != 2) = false := bne_eq_false_iff_eq.mpr c5
  clear c5
  by_cases c6 : 0 < (t183.length : Int)
  ·rw [if_pos c6] at H
   have c6b0 : decide (0 < (t183.length : Int)) = true := decide_eq_true c6
   have c6b1 : decide (0 < t183.length) = true := decide_eq_true (by omega)
   clear c6
   by_cases c7 : (((rd_T30 t183 0).f0) == 0 && (((rd_T30 t183 0).f1) == 4)) = true
   ·rw [if_pos c7] at H
    have c7b0 : (((rd_T30 t183 0).f0) == 0 && (((rd_T30 t183 0).f1) == 4)) = true := c7
    (try (have c7b1 : decide (((rd_T30 t183 0).f0) = 0 && (((rd_T30 t183 0).f1) == 4)) = true := by simpa using c7))
    (try (have c7b2 : (((rd_T30 t183 0).f0) == 0 && (((rd_T30 t183 0).f1) == 4)) = true := by simpa using c7))
    clear c7
    by_cases c8 : 1 < (t183.length : Int)
    ·rw [if_pos c8] at H
     have c8b0 : decide (1 < (t183.length : Int)) = true := decide_eq_true c8
     have c8b1 : decide (1 < t183.length) = true := decide_eq_true (by omega)
     clear c8
     by_cases c9 : (((rd_T30 t183 1).f0) == 5 && (((rd_T30 t183 1).f1) == 2)) = true
     ·rw [if_pos c9] at H
      have c9b0 : (((rd_T30 t183 1).f0) == 5 && (((rd_T30 t183 1).f1) == 2)) = true := c9
      (try (have c9b1 : decide (((rd_T30 t183 1).f0) = 5 && (((rd_T30 t183 1).f1) == 2)) = true := by simpa using c9))
      (try (have c9b2 : (((rd_T30 t183 1).f0) == 5 && (((rd_T30 t183 1).f1) == 2)) = true := by simpa using c9))
      clear c9
      by_cases c10 : (t192.length : Int) = 2
      ·rw [if_pos c10] at H
       have c10b0 : ((t192.length : Int) == 2) = true := beq_iff_eq.mpr c10
       have c10b1 : ((t192.length : Int) != 2) = false := bne_eq_false_iff_eq.mpr c10
       clear c10
       by_cases c11 : 1 < (t192.length : Int)
       ·rw [if_pos c11] at H
        have c11b0 : decide (1 < (t192.length : Int)) = true := decide_eq_true c11
        have c11b1 : decide (1 < t192.length) = true := decide_eq_true (by omega)
        clear c11
        by_cases c12 : (((rd_T30 t192 1).f0) == 5 && (((rd_T30 t192 1).f1) == 5)) = true
        ·rw [if_pos c12] at H
         have c12b0 : (((rd_T30 t192 1).f0) == 5 && (((rd_T30 t192 1).f1) == 5)) = true := c12
         (try (have c12b1 : decide (((rd_T30 t192 1).f0) = 5 && (((rd_T30 t192 1).f1) == 5)) = true := by simpa using c12))
         (try (have c12b2 : (((rd_T30 t192 1).f0) == 5 && (((rd_T30 t192 1).f1) == 5)) = true := by simpa using c12))
         clear c12
         by_cases c13 : (t198.length : Int) = 1
         ·rw [if_pos c13] at H
          have c13b0 : ((t198.length : Int) == 1) = true := beq_iff_eq.mpr c13
          have c13b1 : ((t198.length : Int) != 1) = false := bne_eq_false_iff_eq.mpr c13
          clear c13
          by_cases c14 : 0 < (t198.length : Int)
          ·rw [if_pos c14] at H
           have c14b0 : decide (0 < (t198.length : Int)) = true := decide_eq_true c14
           have c14b1 : decide (0 < t198.length) = true := decide_eq_true (by omega)
           clear c14
           by_cases c15 : (((rd_T30 t198 0).f0) == 64 && (((rd_T30 t198 0).f1) == 86)) = true
           ·rw [if_pos c15] at H
            have c15b0 : (((rd_T30 t198 0).f0) == 64 && (((rd_T30 t198 0).f1) == 86)) = true := c15
            (try (have c15b1 : decide (((rd_T30 t198 0).f0) = 64 && (((rd_T30 t198 0).f1) == 86)) = true := by simpa using c15))
            (try (have c15b2 : (((rd_T30 t198 0).f0) == 64 && (((rd_T30 t198 0).f1) == 86)) = true := by simpa using c15))
            clear c15
            by_cases c16 : (t204.length : Int) = 2
            ·rw [if_pos c16] at H
             have c16b0 : ((t204.length : Int) == 2) = true := beq_iff_eq.mpr c16
             have c16b1 : ((t204.length : Int) != 2) = false := bne_eq_false_iff_eq.mpr c16
             clear c16
             by_cases c17 : 0 < (t204.length : Int)
             ·rw [if_pos c17] at H
              have c17b0 : decide (0 < (t204.length : Int)) = true := decide_eq_true c17
              have c17b1 : decide (0 < t204.length) = true := decide_eq_true (by omega)
              clear c17
              by_cases c18 : (((rd_T30 t204 0).f0) == 0 && (((rd_T30 t204 0).f1) == 5)) = true
              ·rw [if_pos c18] at H
               have c18b0 : (((rd_T30 t204 0).f0) == 0 && (((rd_T30 t204 0).f1) == 5)) = true := c18
               (try (have c18b1 : decide (((rd_T30 t204 0).f0) = 0 && (((rd_T30 t204 0).f1) == 5)) = true := by simpa using c18))
               (try (have c18b2 : (((rd_T30 t204 0).f0) == 0 && (((rd_T30 t204 0).f1) == 5)) = true := by simpa using c18))
               clear c18
               replace H := Option.bind_eq_some_iff.mp H
               obtain ⟨t212, A190, H⟩ := H
               replace H : (some (t212 == 6)) = some r := H
               have A19 := Aside0.mk A190
               clear A190
               obtain rfl := Option.some.inj H
               go_enter Try.func8, Try.ntmps8
               go_wp2_with (first | ((with_reducible refine gate_dst (N := 9) rfl ?_); (try (refine gate_guard (by rfl) ?_; dsimp only)); refine Kd.R_lit k30 _ 30 ?hg (N := 9) ?hd (xs := ([(⟨5, 2⟩ : S30), (⟨0, 3⟩ : S30), (⟨3, 1⟩ : S30), (⟨9, 0⟩ : S30)] : List (S30))) (inner := [.int .i64 5, .int .i64 2, .int .i64 0, .int .i64 3, .int .i64 3, .int .i64 1, .int .i64 9, .int .i64 0]) (ok := fun _ => True) (okp := fun _ => True) ?hr ?hp (fun _ hk => hk) trivial (Below.refl _ _) (Nat.le_refl _) (by simp) ?_; (case hd => rfl); (case hg => rfl); (case hr => first | (go_simp; done) | (go_simp; rfl)); (case hp => exact (Reps.c2 (show Kd.M k30 _ _ _ (⟨5, 2⟩ : S30) [.int .i64 5, .int .i64 2] from (k30_mkM _ _ _ (⟨5, 2⟩ : S30) )) (Reps.c2 (show Kd.M k30 _ _ _ (⟨0, 3⟩ : S30) [.int .i64 0, .int .i64 3] from (k30_mkM _ _ _ (⟨0, 3⟩ : S30) )) (Reps.c2 (show Kd.M k30 _ _ _ (⟨3, 1⟩ : S30) [.int .i64 3, .int .i64 1] from (k30_mkM _ _ _ (⟨3, 1⟩ : S30) )) (Reps.c2 (show Kd.M k30 _ _ _ (⟨9, 0⟩ : S30) [.int .i64 9, .int .i64 0] from (k30_mkM _ _ _ (⟨9, 0⟩ : S30) )) (Reps.none _ _)))))); intro v181 w20 ho21 hb hg_ hnew_; clear hg_ hnew_; (first | rw [← Ny180.out] at ho21 | (simp only [Int.reduceToNat] at ho21; rw [← Ny180.out] at ho21)); have n0_ := Aside0.mk (Kd.R_lower ho21 (below_size (zB HB))); have n1_ := Aside0.mk (below_step (zB HB) hb); clear HB; have HO182 := n0_; have HB := n1_; clear n0_ n1_; clear hb ho21; obtain ⟨Ao22, co22, eo22⟩ := Kd.R_slice HO182.out; subst eo22) | ((with_reducible refine gate_callee (f := 15) rfl ?_); refine goesL_ (some 10) rfl rfl Try.func15 (by kernel_rfl) rfl #[.slice Ao22 y180.length co22] rfl zM ?_; (with_reducible refine (extent_Normal.calls _ _ y180 t183 _ ?side1 ?side2 A1.out).mono ?_); (case side1 => exact zC (Kd.R_reads' HO182.out).2.2); (case side2 => exact (Kd.R_reads' HO182.out).2.1); rintro e w23 ⟨v184, rfl, ho0, hb⟩; refine ⟨_, rfl, ?_⟩; have n0_ := Aside0.mk (Kd.R_elder' (zR HO182.out) (Kd.R_base ho0) hb); have n1_ := Aside0.mk (Kd.R_lower (Kd.R_new' ho0 (Kd.R_lt (zR HO182.out))) (below_size (zB HB))); have n2_ := Aside0.mk (below_step (zB HB) hb); clear HO182; clear HB; have HO182 := n0_; have HO185 := n1_; have HB := n2_; clear n0_ n1_ n2_; (try clear hb); (try clear hb2); (try clear hk); (try clear hi); (try clear ho0)) | ((with_reducible refine gate_dst (N := 12) rfl ?_); (try (refine gate_guard (by rfl) ?_; dsimp only)); refine Kd.R_lit k30 _ 30 ?hg (N := 12) ?hd (xs := ([(⟨0, 10⟩ : S30)] : List (S30))) (inner := [.int .i64 0, .int .i64 10]) (ok := fun _ => True) (okp := fun _ => True) ?hr ?hp (fun _ hk => hk) trivial (Below.refl _ _) (Nat.le_refl _) (by simp) ?_; (case hd => rfl); (case hg => rfl); (case hr => first | (go_simp; done) | (go_simp; rfl)); (case hp => exact (Reps.c2 (show Kd.M k30 _ _ _ (⟨0, 10⟩ : S30) [.int .i64 0, .int .i64 10] from (k30_mkM _ _ _ (⟨0, 10⟩ : S30) )) (Reps.none _ _))); intro v187 w24 ho25 hb hg_ hnew_; clear hg_ hnew_; (first | rw [← Ny186.out] at ho25 | (simp only [Int.reduceToNat] at ho25; rw [← Ny186.out] at ho25)); have n0_ := Aside0.mk (Kd.R_elder' (zR HO182.out) (Kd.R_base ho25) hb); have n1_ := Aside0.mk (Kd.R_elder' (zR HO185.out) (Kd.R_base ho25) hb); have n2_ := Aside0.mk (Kd.R_lower (Kd.R_new' (Kd.R_new' ho25 (Kd.R_lt (zR HO182.out))) (Kd.R_lt (zR HO185.out))) (below_size (zB HB))); have n3_ := Aside0.mk (below_step (zB HB) hb); clear HO182; clear HO185; clear HB; have HO182 := n0_; have HO185 := n1_; have HO188 := n2_; have HB := n3_; clear n0_ n1_ n2_ n3_; clear hb ho25) | ((with_reducible refine gate_dst (N := 14) rfl ?_); (try (refine gate_guard (by rfl) ?_; dsimp only)); refine Kd.R_lit k30 _ 30 ?hg (N := 14) ?hd (xs := ([(⟨3, 2⟩ : S30)] : List (S30))) (inner := [.int .i64 3, .int .i64 2]) (ok := fun _ => True) (okp := fun _ => True) ?hr ?hp (fun _ hk => hk) trivial (Below.refl _ _) (Nat.le_refl _) (by simp) ?_; (case hd => rfl); (case hg => rfl); (case hr => first | (go_simp; done) | (go_simp; rfl)); (case hp => exact (Reps.c2 (show Kd.M k30 _ _ _ (⟨3, 2⟩ : S30) [.int .i64 3, .int .i64 2] from (k30_mkM _ _ _ (⟨3, 2⟩ : S30) )) (Reps.none _ _))); intro v190 w26 ho27 hb hg_ hnew_; clear hg_ hnew_; (first | rw [← Ny189.out] at ho27 | (simp only [Int.reduceToNat] at ho27; rw [← Ny189.out] at ho27)); have n0_ := Aside0.mk (Kd.R_elder' (zR HO182.out) (Kd.R_base ho27) hb); have n1_ := Aside0.mk (Kd.R_elder' (zR HO185.out) (Kd.R_base ho27) hb); have n2_ := Aside0.mk (Kd.R_elder' (zR HO188.out) (Kd.R_base ho27) hb); have n3_ := Aside0.mk (Kd.R_lower (Kd.R_new' (Kd.R_new' (Kd.R_new' ho27 (Kd.R_lt (zR HO182.out))) (Kd.R_lt (zR HO185.out))) (Kd.R_lt (zR HO188.out))) (below_size (zB HB))); have n4_ := Aside0.mk (below_step (zB HB) hb); clear HO182; clear HO185; clear HO188; clear HB; have HO182 := n0_; have HO185 := n1_; have HO188 := n2_; have HO191 := n3_; have HB := n4_; clear n0_ n1_ n2_ n3_ n4_; clear hb ho27; obtain ⟨Ao28, co28, eo28⟩ := Kd.R_slice HO188.out; subst eo28; obtain ⟨Ao29, co29, eo29⟩ := Kd.R_slice HO191.out; subst eo29) | ((with_reducible refine gate_callee (f := 17) rfl ?_); refine goesL_ (some 15) rfl rfl Try.func17 (by kernel_rfl) rfl #[.slice Ao28 y186.length co28, .slice Ao29 y189.length co29] rfl zM ?_; (with_reducible refine (extent_Subtract.calls _ _ y186 _ _ y189 t192 _ ?side1 ?side2 ?side3 ?side4 A2.out).mono ?_); (case side1 => exact zC (Kd.R_reads' HO188.out).2.2); (case side2 => exact (Kd.R_reads' HO188.out).2.1); (case side3 => exact zC (Kd.R_reads' HO191.out).2.2); (case side4 => exact (Kd.R_reads' HO191.out).2.1); rintro e w30 ⟨v193, rfl, ho0, hb⟩; refine ⟨_, rfl, ?_⟩; have n0_ := Aside0.mk (Kd.R_elder' (zR HO182.out) (Kd.R_base ho0) hb); have n1_ := Aside0.mk (Kd.R_elder' (zR HO185.out) (Kd.R_base ho0) hb); have n2_ := Aside0.mk (Kd.R_elder' (zR HO188.out) (Kd.R_base ho0) hb); have n3_ := Aside0.mk (Kd.R_elder' (zR HO191.out) (Kd.R_base ho0) hb); have n4_ := Aside0.mk (Kd.R_lower (Kd.R_new' (Kd.R_new' (Kd.R_new' (Kd.R_new' ho0 (Kd.R_lt (zR HO182.out))) (Kd.R_lt (zR HO185.out))) (Kd.R_lt (zR HO188.out))) (Kd.R_lt (zR HO191.out))) (below_size (zB HB))); have n5_ := Aside0.mk (below_step (zB HB) hb); clear HO182; clear HO185; clear HO188; clear HO191; clear HB; have HO182 := n0_; have HO185 := n1_; have HO188 := n2_; have HO191 := n3_; have HO194 := n4_; have HB := n5_; clear n0_ n1_ n2_ n3_ n4_ n5_; (try clear hb); (try clear hb2); (try clear hk); (try clear hi); (try clear ho0)) | ((with_reducible refine gate_dst (N := 18) rfl ?_); (try (refine gate_guard (by rfl) ?_; dsimp only)); refine Kd.R_lit k30 _ 30 ?hg (N := 18) ?hd (xs := ([(⟨70, 1⟩ : S30), (⟨100, 30⟩ : S30)] : List (S30))) (inner := [.int .i64 70, .int .i64 1, .int .i64 100, .int .i64 30]) (ok := fun _ => True) (okp := fun _ => True) ?hr ?hp (fun _ hk => hk) trivial (Below.refl _ _) (Nat.le_refl _) (by simp) ?_; (case hd => rfl); (case hg => rfl); (case hr => first | (go_simp; done) | (go_simp; rfl)); (case hp => exact (Reps.c2 (show Kd.M k30 _ _ _ (⟨70, 1⟩ : S30) [.int .i64 70, .int .i64 1] from (k30_mkM _ _ _ (⟨70, 1⟩ : S30) )) (Reps.c2 (show Kd.M k30 _ _ _ (⟨100, 30⟩ : S30) [.int .i64 100, .int .i64 30] from (k30_mkM _ _ _ (⟨100, 30⟩ : S30) )) (Reps.none _ _)))); intro v196 w31 ho32 hb hg_ hnew_; clear hg_ hnew_; (first | rw [← Ny195.out] at ho32 | (simp only [Int.reduceToNat] at ho32; rw [← Ny195.out] at ho32)); have n0_ := Aside0.mk (Kd.R_elder' (zR HO182.out) (Kd.R_base ho32) hb); have n1_ := Aside0.mk (Kd.R_elder' (zR HO185.out) (Kd.R_base ho32) hb); have n2_ := Aside0.mk (Kd.R_elder' (zR HO188.out) (Kd.R_base ho32) hb); have n3_ := Aside0.mk (Kd.R_elder' (zR HO191.out) (Kd.R_base ho32) hb); have n4_ := Aside0.mk (Kd.R_elder' (zR HO194.out) (Kd.R_base ho32) hb); have n5_ := Aside0.mk (Kd.R_lower (Kd.R_new' (Kd.R_new' (Kd.R_new' (Kd.R_new' (Kd.R_new' ho32 (Kd.R_lt (zR HO182.out))) (Kd.R_lt (zR HO185.out))) (Kd.R_lt (zR HO188.out))) (Kd.R_lt (zR HO191.out))) (Kd.R_lt (zR HO194.out))) (below_size (zB HB))); have n6_ := Aside0.mk (below_step (zB HB) hb); clear HO182; clear HO185; clear HO188; clear HO191; clear HO194; clear HB; have HO182 := n0_; have HO185 := n1_; have HO188 := n2_; have HO191 := n3_; have HO194 := n4_; have HO197 := n5_; have HB := n6_; clear n0_ n1_ n2_ n3_ n4_ n5_ n6_; clear hb ho32; obtain ⟨Ao33, co33, eo33⟩ := Kd.R_slice HO197.out; subst eo33) | ((with_reducible refine gate_callee (f := 11) rfl ?_); refine goesL_ (some 19) rfl rfl Try.func11 (by kernel_rfl) rfl #[.slice Ao33 y195.length co33, .int .i64 64, .int .i64 150] rfl zM ?_; (with_reducible refine (extent_Align.calls k _ _ y195 64 150 t198 _ ?side1 ?side2 A3.out).mono ?_); (case side1 => exact zC (Kd.R_reads' HO197.out).2.2); (case side2 => exact (Kd.R_reads' HO197.out).2.1); rintro e w34 ⟨v199, rfl, ho0, hb⟩; refine ⟨_, rfl, ?_⟩; have n0_ := Aside0.mk (Kd.R_elder' (zR HO182.out) (Kd.R_base ho0) hb); have n1_ := Aside0.mk (Kd.R_elder' (zR HO185.out) (Kd.R_base ho0) hb); have n2_ := Aside0.mk (Kd.R_elder' (zR HO188.out) (Kd.R_base ho0) hb); have n3_ := Aside0.mk (Kd.R_elder' (zR HO191.out) (Kd.R_base ho0) hb); have n4_ := Aside0.mk (Kd.R_elder' (zR HO194.out) (Kd.R_base ho0) hb); have n5_ := Aside0.mk (Kd.R_elder' (zR HO197.out) (Kd.R_base ho0) hb); have n6_ := Aside0.mk (Kd.R_lower (Kd.R_new' (Kd.R_new' (Kd.R_new' (Kd.R_new' (Kd.R_new' (Kd.R_new' ho0 (Kd.R_lt (zR HO182.out))) (Kd.R_lt (zR HO185.out))) (Kd.R_lt (zR HO188.out))) (Kd.R_lt (zR HO191.out))) (Kd.R_lt (zR HO194.out))) (Kd.R_lt (zR HO197.out))) (below_size (zB HB))); have n7_ := Aside0.mk (below_step (zB HB) hb); clear HO182; clear HO185; clear HO188; clear HO191; clear HO194; clear HO197; clear HB; have HO182 := n0_; have HO185 := n1_; have HO188 := n2_; have HO191 := n3_; have HO194 := n4_; have HO197 := n5_; have HO200 := n6_; have HB := n7_; clear n0_ n1_ n2_ n3_ n4_ n5_ n6_ n7_; (try clear hb); (try clear hb2); (try clear hk); (try clear hi); (try clear ho0)) | ((with_reducible refine gate_dst (N := 23) rfl ?_); (try (refine gate_guard (by rfl) ?_; dsimp only)); refine Kd.R_lit k30 _ 30 ?hg (N := 23) ?hd (xs := ([(⟨0, 2⟩ : S30), (⟨4, 1⟩ : S30), (⟨9, 1⟩ : S30)] : List (S30))) (inner := [.int .i64 0, .int .i64 2, .int .i64 4, .int .i64 1, .int .i64 9, .int .i64 1]) (ok := fun _ => True) (okp := fun _ => True) ?hr ?hp (fun _ hk => hk) trivial (Below.refl _ _) (Nat.le_refl _) (by simp) ?_; (case hd => rfl); (case hg => rfl); (case hr => first | (go_simp; done) | (go_simp; rfl)); (case hp => exact (Reps.c2 (show Kd.M k30 _ _ _ (⟨0, 2⟩ : S30) [.int .i64 0, .int .i64 2] from (k30_mkM _ _ _ (⟨0, 2⟩ : S30) )) (Reps.c2 (show Kd.M k30 _ _ _ (⟨4, 1⟩ : S30) [.int .i64 4, .int .i64 1] from (k30_mkM _ _ _ (⟨4, 1⟩ : S30) )) (Reps.c2 (show Kd.M k30 _ _ _ (⟨9, 1⟩ : S30) [.int .i64 9, .int .i64 1] from (k30_mkM _ _ _ (⟨9, 1⟩ : S30) )) (Reps.none _ _))))); intro v202 w35 ho36 hb hg_ hnew_; clear hg_ hnew_; (first | rw [← Ny201.out] at ho36 | (simp only [Int.reduceToNat] at ho36; rw [← Ny201.out] at ho36)); have n0_ := Aside0.mk (Kd.R_elder' (zR HO182.out) (Kd.R_base ho36) hb); have n1_ := Aside0.mk (Kd.R_elder' (zR HO185.out) (Kd.R_base ho36) hb); have n2_ := Aside0.mk (Kd.R_elder' (zR HO188.out) (Kd.R_base ho36) hb); have n3_ := Aside0.mk (Kd.R_elder' (zR HO191.out) (Kd.R_base ho36) hb); have n4_ := Aside0.mk (Kd.R_elder' (zR HO194.out) (Kd.R_base ho36) hb); have n5_ := Aside0.mk (Kd.R_elder' (zR HO197.out) (Kd.R_base ho36) hb); have n6_ := Aside0.mk (Kd.R_elder' (zR HO200.out) (Kd.R_base ho36) hb); have n7_ := Aside0.mk (Kd.R_lower (Kd.R_new' (Kd.R_new' (Kd.R_new' (Kd.R_new' (Kd.R_new' (Kd.R_new' (Kd.R_new' ho36 (Kd.R_lt (zR HO182.out))) (Kd.R_lt (zR HO185.out))) (Kd.R_lt (zR HO188.out))) (Kd.R_lt (zR HO191.out))) (Kd.R_lt (zR HO194.out))) (Kd.R_lt (zR HO197.out))) (Kd.R_lt (zR HO200.out))) (below_size (zB HB))); have n8_ := Aside0.mk (below_step (zB HB) hb); clear HO182; clear HO185; clear HO188; clear HO191; clear HO194; clear HO197; clear HO200; clear HB; have HO182 := n0_; have HO185 := n1_; have HO188 := n2_; have HO191 := n3_; have HO194 := n4_; have HO197 := n5_; have HO200 := n6_; have HO203 := n7_; have HB := n8_; clear n0_ n1_ n2_ n3_ n4_ n5_ n6_ n7_ n8_; clear hb ho36; obtain ⟨Ao37, co37, eo37⟩ := Kd.R_slice HO203.out; subst eo37) | ((with_reducible refine gate_callee (f := 13) rfl ?_); refine goesL_ (some 24) rfl rfl Try.func13 (by kernel_rfl) rfl #[.slice Ao37 y201.length co37, .int .i64 2] rfl zM ?_; (with_reducible refine (extent_Gaps.calls k _ _ y201 2 t204 _ ?side1 ?side2 A4.out).mono ?_); (case side1 => exact zC (Kd.R_reads' HO203.out).2.2); (case side2 => exact (Kd.R_reads' HO203.out).2.1); rintro e w38 ⟨v205, rfl, ho0, hb⟩; refine ⟨_, rfl, ?_⟩; have n0_ := Aside0.mk (Kd.R_elder' (zR HO182.out) (Kd.R_base ho0) hb); have n1_ := Aside0.mk (Kd.R_elder' (zR HO185.out) (Kd.R_base ho0) hb); have n2_ := Aside0.mk (Kd.R_elder' (zR HO188.out) (Kd.R_base ho0) hb); have n3_ := Aside0.mk (Kd.R_elder' (zR HO191.out) (Kd.R_base ho0) hb); have n4_ := Aside0.mk (Kd.R_elder' (zR HO194.out) (Kd.R_base ho0) hb); have n5_ := Aside0.mk (Kd.R_elder' (zR HO197.out) (Kd.R_base ho0) hb); have n6_ := Aside0.mk (Kd.R_elder' (zR HO200.out) (Kd.R_base ho0) hb); have n7_ := Aside0.mk (Kd.R_elder' (zR HO203.out) (Kd.R_base ho0) hb); have n8_ := Aside0.mk (Kd.R_lower (Kd.R_new' (Kd.R_new' (Kd.R_new' (Kd.R_new' (Kd.R_new' (Kd.R_new' (Kd.R_new' (Kd.R_new' ho0 (Kd.R_lt (zR HO182.out))) (Kd.R_lt (zR HO185.out))) (Kd.R_lt (zR HO188.out))) (Kd.R_lt (zR HO191.out))) (Kd.R_lt (zR HO194.out))) (Kd.R_lt (zR HO197.out))) (Kd.R_lt (zR HO200.out))) (Kd.R_lt (zR HO203.out))) (below_size (zB HB))); have n9_ := Aside0.mk (below_step (zB HB) hb); clear HO182; clear HO185; clear HO188; clear HO191; clear HO194; clear HO197; clear HO200; clear HO203; clear HB; have HO182 := n0_; have HO185 := n1_; have HO188 := n2_; have HO191 := n3_; have HO194 := n4_; have HO197 := n5_; have HO200 := n6_; have HO203 := n7_; have HO206 := n8_; have HB := n9_; clear n0_ n1_ n2_ n3_ n4_ n5_ n6_ n7_ n8_ n9_; (try clear hb); (try clear hb2); (try clear hk); (try clear hi); (try clear ho0); obtain ⟨Ao39, co39, eo39⟩ := Kd.R_slice HO185.out; subst eo39; have p207 : 0 ≤ (0 : Int) := (by omega); have q207 : 0 < (t183.length : Int) := of_decide_eq_true zA; obtain ⟨ad207, e207, hx207_0, hx207_1⟩ := at_T30 (Kd.R_reads' HO185.out).2.2 0 p207 q207; cases e207; have qi207 : (0 < t183.length) = True := eq_true (by omega); (try rw [show ((0 : Int)).toNat = 0 from rfl] at hx207_0); (try rw [show 0 * 2 = 0 from rfl] at hx207_0); (try rw [Addr.add_zero'] at hx207_0); (try rw [show ((0 : Int)).toNat = 0 from rfl] at hx207_1); (try rw [show 0 * 2 = 0 from rfl] at hx207_1); (try rw [Addr.add_zero'] at hx207_1); replace p207 := eq_true p207; replace q207 := eq_true q207; have p208 : 0 ≤ (1 : Int) := (by omega); have q208 : 1 < (t183.length : Int) := of_decide_eq_true zA; obtain ⟨ad208, e208, hx208_0, hx208_1⟩ := at_T30 (Kd.R_reads' HO185.out).2.2 1 p208 q208; obtain rfl : ad207 = ad208 := (by injection e208); (try simp only [show (1 : Int).toNat = 1 from rfl, Nat.reduceMul, Nat.reduceEqDiff, Go.Addr.add, ↓reduceIte] at hx208_0); (try simp only [show (1 : Int).toNat = 1 from rfl, Nat.reduceMul, Nat.reduceEqDiff, Go.Addr.add, ↓reduceIte] at hx208_1); have qi208 : (1 < t183.length) = True := eq_true (by omega); (try rw [show ((1 : Int)).toNat = 1 from rfl] at hx208_0); (try rw [show 1 * 2 = 2 from rfl] at hx208_0); (try rw [show ((1 : Int)).toNat = 1 from rfl] at hx208_1); (try rw [show 1 * 2 = 2 from rfl] at hx208_1); replace p208 := eq_true p208; replace q208 := eq_true q208; obtain ⟨Ao40, co40, eo40⟩ := Kd.R_slice HO194.out; subst eo40; have p209 : 0 ≤ (1 : Int) := (by omega); have q209 : 1 < (t192.length : Int) := of_decide_eq_true zA; obtain ⟨ad209, e209, hx209_0, hx209_1⟩ := at_T30 (Kd.R_reads' HO194.out).2.2 1 p209 q209; cases e209; (try simp only [show (1 : Int).toNat = 1 from rfl, Nat.reduceMul, Nat.reduceEqDiff, Go.Addr.add, ↓reduceIte] at hx209_0); (try simp only [show (1 : Int).toNat = 1 from rfl, Nat.reduceMul, Nat.reduceEqDiff, Go.Addr.add, ↓reduceIte] at hx209_1); have qi209 : (1 < t192.length) = True := eq_true (by omega); (try rw [show ((1 : Int)).toNat = 1 from rfl] at hx209_0); (try rw [show 1 * 2 = 2 from rfl] at hx209_0); (try rw [show ((1 : Int)).toNat = 1 from rfl] at hx209_1); (try rw [show 1 * 2 = 2 from rfl] at hx209_1); replace p209 := eq_true p209; replace q209 := eq_true q209; obtain ⟨Ao41, co41, eo41⟩ := Kd.R_slice HO200.out; subst eo41; have p210 : 0 ≤ (0 : Int) := (by omega); have q210 : 0 < (t198.length : Int) := of_decide_eq_true zA; obtain ⟨ad210, e210, hx210_0, hx210_1⟩ := at_T30 (Kd.R_reads' HO200.out).2.2 0 p210 q210; cases e210; have qi210 : (0 < t198.length) = True := eq_true (by omega); (try rw [show ((0 : Int)).toNat = 0 from rfl] at hx210_0); (try rw [show 0 * 2 = 0 from rfl] at hx210_0); (try rw [Addr.add_zero'] at hx210_0); (try rw [show ((0 : Int)).toNat = 0 from rfl] at hx210_1); (try rw [show 0 * 2 = 0 from rfl] at hx210_1); (try rw [Addr.add_zero'] at hx210_1); replace p210 := eq_true p210; replace q210 := eq_true q210; obtain ⟨Ao42, co42, eo42⟩ := Kd.R_slice HO206.out; subst eo42; have p211 : 0 ≤ (0 : Int) := (by omega); have q211 : 0 < (t204.length : Int) := of_decide_eq_true zA; obtain ⟨ad211, e211, hx211_0, hx211_1⟩ := at_T30 (Kd.R_reads' HO206.out).2.2 0 p211 q211; cases e211; have qi211 : (0 < t204.length) = True := eq_true (by omega); (try rw [show ((0 : Int)).toNat = 0 from rfl] at hx211_0); (try rw [show 0 * 2 = 0 from rfl] at hx211_0); (try rw [Addr.add_zero'] at hx211_0); (try rw [show ((0 : Int)).toNat = 0 from rfl] at hx211_1); (try rw [show 0 * 2 = 0 from rfl] at hx211_1); (try rw [Addr.add_zero'] at hx211_1); replace p211 := eq_true p211; replace q211 := eq_true q211) | (go_at_call 21; (with_reducible refine (extent_Total.calls k _ _ t183 t212 _ ?side1 ?side2 A19.out).mono ?_); (case side1 => exact zC (Kd.R_reads' HO185.out).2.2); (case side2 => exact (Kd.R_reads' HO185.out).2.1); rintro e w43 ⟨rfl, hb⟩; have n0_ := Aside0.mk (Kd.R_below (zR HO182.out) hb); have n1_ := Aside0.mk (Kd.R_below (zR HO185.out) hb); have n2_ := Aside0.mk (Kd.R_below (zR HO188.out) hb); have n3_ := Aside0.mk (Kd.R_below (zR HO191.out) hb); have n4_ := Aside0.mk (Kd.R_below (zR HO194.out) hb); have n5_ := Aside0.mk (Kd.R_below (zR HO197.out) hb); have n6_ := Aside0.mk (Kd.R_below (zR HO200.out) hb); have n7_ := Aside0.mk (Kd.R_below (zR HO203.out) hb); have n8_ := Aside0.mk (Kd.R_below (zR HO206.out) hb); have n9_ := Aside0.mk (below_step (zB HB) hb); clear HO182; clear HO185; clear HO188; clear HO191; clear HO194; clear HO197; clear HO200; clear HO203; clear HO206; clear HB; have HO182 := n0_; have HO185 := n1_; have HO188 := n2_; have HO191 := n3_; have HO194 := n4_; have HO197 := n5_; have HO200 := n6_; have HO203 := n7_; have HO206 := n8_; have HB := n9_; clear n0_ n1_ n2_ n3_ n4_ n5_ n6_ n7_ n8_ n9_; (try clear hb); (try clear hb2); (try clear hk); (try clear hi)))
               go_ret
               exact ⟨by first | rfl | (simp [errW_none, errW_some] <;> rfl) | (simp [*, errW_none, errW_some] <;> rfl), by repeat (first | (with_reducible first | exact HB.out | apply below_alloc | apply pw_below_drewN | apply below_drew1) | exact HB.out)⟩
              ·rw [if_neg c18] at H
               have c18b0 : (((rd_T30 t204 0).f0) == 0 && (((rd_T30 t204 0).f1) == 5)) = false := by simpa using c18
               (try (have c18b1 : decide (((rd_T30 t204 0).f0) = 0 && (((rd_T30 t204 0).f1) == 5)) = false := by simpa using c18))
               (try (have c18b2 : (((rd_T30 t204 0).f0) == 0 && (((rd_T30 t204 0).f1) == 5)) = false := by simpa using c18))
               (try (have c18b3 : ¬ (((rd_T30 t204 0).f0) = 0 && (((rd_T30 t204 0).f1) == 5)) := by simpa using c18))
               clear c18
               exact absurd (Option.some.inj H) (by rw [ht_.out]; simp)
             ·rw [if_neg c17] at H
              exact absurd H (by simp)
            ·rw [if_neg c16] at H
             have c16b0 : ((t204.length : Int) == 2) = false := beq_eq_false_iff_ne.mpr c16
             have c16b1 : ((t204.length : Int) != 2) = true := bne_iff_ne.mpr c16
             exact absurd (Option.some.inj H) (by rw [ht_.out]; simp)
           ·rw [if_neg c15] at H
            have c15b0 : (((rd_T30 t198 0).f0) == 64 && (((rd_T30 t198 0).f1) == 86)) = false := by simpa using c15
            (try (have c15b1 : decide (((rd_T30 t198 0).f0) = 64 && (((rd_T30 t198 0).f1) == 86)) = false := by simpa using c15))
            (try (have c15b2 : (((rd_T30 t198 0).f0) == 64 && (((rd_T30 t198 0).f1) == 86)) = false := by simpa using c15))
            (try (have c15b3 : ¬ (((rd_T30 t198 0).f0) = 64 && (((rd_T30 t198 0).f1) == 86)) := by simpa using c15))
            clear c15
            exact absurd (Option.some.inj H) (by rw [ht_.out]; simp)
          ·rw [if_neg c14] at H
           exact absurd H (by simp)
         ·rw [if_neg c13] at H
          have c13b0 : ((t198.length : Int) == 1) = false := beq_eq_false_iff_ne.mpr c13
          have c13b1 : ((t198.length : Int) != 1) = true := bne_iff_ne.mpr c13
          exact absurd (Option.some.inj H) (by rw [ht_.out]; simp)
        ·rw [if_neg c12] at H
         have c12b0 : (((rd_T30 t192 1).f0) == 5 && (((rd_T30 t192 1).f1) == 5)) = false := by simpa using c12
         (try (have c12b1 : decide (((rd_T30 t192 1).f0) = 5 && (((rd_T30 t192 1).f1) == 5)) = false := by simpa using c12))
         (try (have c12b2 : (((rd_T30 t192 1).f0) == 5 && (((rd_T30 t192 1).f1) == 5)) = false := by simpa using c12))
         (try (have c12b3 : ¬ (((rd_T30 t192 1).f0) = 5 && (((rd_T30 t192 1).f1) == 5)) := by simpa using c12))
         clear c12
         exact absurd (Option.some.inj H) (by rw [ht_.out]; simp)
       ·rw [if_neg c11] at H
        exact absurd H (by simp)
      ·rw [if_neg c10] at H
       have c10b0 : ((t192.length : Int) == 2) = false := beq_eq_false_iff_ne.mpr c10
       have c10b1 : ((t192.length : Int) != 2) = true := bne_iff_ne.mpr c10
       exact absurd (Option.some.inj H) (by rw [ht_.out]; simp)
     ·rw [if_neg c9] at H
      have c9b0 : (((rd_T30 t183 1).f0) == 5 && (((rd_T30 t183 1).f1) == 2)) = false := by simpa using c9
      (try (have c9b1 : decide (((rd_T30 t183 1).f0) = 5 && (((rd_T30 t183 1).f1) == 2)) = false := by simpa using c9))
      (try (have c9b2 : (((rd_T30 t183 1).f0) == 5 && (((rd_T30 t183 1).f1) == 2)) = false := by simpa using c9))
      (try (have c9b3 : ¬ (((rd_T30 t183 1).f0) = 5 && (((rd_T30 t183 1).f1) == 2)) := by simpa using c9))
      clear c9
      exact absurd (Option.some.inj H) (by rw [ht_.out]; simp)
    ·rw [if_neg c8] at H
     exact absurd H (by simp)
   ·rw [if_neg c7] at H
    have c7b0 : (((rd_T30 t183 0).f0) == 0 && (((rd_T30 t183 0).f1) == 4)) = false := by simpa using c7
    (try (have c7b1 : decide (((rd_T30 t183 0).f0) = 0 && (((rd_T30 t183 0).f1) == 4)) = false := by simpa using c7))
    (try (have c7b2 : (((rd_T30 t183 0).f0) == 0 && (((rd_T30 t183 0).f1) == 4)) = false := by simpa using c7))
    (try (have c7b3 : ¬ (((rd_T30 t183 0).f0) = 0 && (((rd_T30 t183 0).f1) == 4)) := by simpa using c7))
    clear c7
    exact absurd (Option.some.inj H) (by rw [ht_.out]; simp)
  ·rw [if_neg c6] at H
   exact absurd H (by simp)
 ·rw [if_neg c5] at H
  have c5b0 : ((t183.length : Int) == 2) = false := beq_eq_false_iff_ne.mpr c5
  have c5b1 : ((t183.length : Int) != 2) = true := bne_iff_ne.mpr c5
  exact absurd (Option.some.inj H) (by rw [ht_.out]; simp)

end
end Go.Proofs.Ytcckacamocaofaa.P
