-- Written by this session's wip/tools/px.py out of the translation. Lean checks it.
import Derived.Test.YtcckacamocaofaaP0
import Derived.Test.YtcckacamocaofaaP11
import Derived.Test.YtcckacamocaofaaP14
namespace Go.Proofs.Ytcckacamocaofaa.P
noncomputable section
open Go.RowKit Go.Proofs.YtcckacamocaofaaW.PrintWords Go.Proofs.YtcckacamocaofaaW.PrintLast Go.Proofs.YtcckacamocaofaaW.PrintMore
attribute [local go_sem] max2_int min2_int max_two min_two max_three min_three max_four min_four   -- for this text's walks alone
set_option linter.unusedVariables false
set_option linter.unusedSimpArgs false

/-! ### tapearchiveref34_combine: function 35 -/
mutual
def tapearchiveref34_combine.l0 : Nat → List (S30) → List (S30) → Int → List Int → List (S30) → Int → Option ((List (S30)))
 | 0, _, _, _, _, _, _ => none
 | k + 1, x0, x1, x2, x7, x8, x9 => if (wrap64 (x9 + 1)) < (x7.length : Int) then (if 0 ≤ x9 then (if x9 < (x7.length : Int) then ((tapearchiveref34_In.f k x0 (rd x7 x9)).bind fun t299 => ((tapearchiveref34_In.f k x1 (rd x7 x9)).bind fun t301 => (if x2 = 1 then (if t299 = true then (tapearchiveref34_combine.j1 k x0 x1 x2 x7 x8 x9 true) else (if t301 = true then (tapearchiveref34_combine.j1 k x0 x1 x2 x7 x8 x9 true) else (if x2 = 2 then (if x2 = 3 then (tapearchiveref34_combine.j1 k x0 x1 x2 x7 x8 x9 false) else (tapearchiveref34_combine.j1 k x0 x1 x2 x7 x8 x9 false)) else (if x2 = 3 then (tapearchiveref34_combine.j1 k x0 x1 x2 x7 x8 x9 false) else (tapearchiveref34_combine.j1 k x0 x1 x2 x7 x8 x9 false))))) else (if x2 = 2 then (if t299 = true then (if t301 = true then (tapearchiveref34_combine.j1 k x0 x1 x2 x7 x8 x9 true) else (if x2 = 3 then (tapearchiveref34_combine.j1 k x0 x1 x2 x7 x8 x9 (!t301)) else (tapearchiveref34_combine.j1 k x0 x1 x2 x7 x8 x9 false))) else (if x2 = 3 then (tapearchiveref34_combine.j1 k x0 x1 x2 x7 x8 x9 false) else (tapearchiveref34_combine.j1 k x0 x1 x2 x7 x8 x9 false))) else (if x2 = 3 then (if t299 = true then (tapearchiveref34_combine.j1 k x0 x1 x2 x7 x8 x9 (!t301)) else (tapearchiveref34_combine.j1 k x0 x1 x2 x7 x8 x9 false)) else (tapearchiveref34_combine.j1 k x0 x1 x2 x7 x8 x9 false)))))) else (none)) else (none)) else (some x8)
def tapearchiveref34_combine.j1 : Nat → List (S30) → List (S30) → Int → List Int → List (S30) → Int → Bool → Option ((List (S30)))
 | 0, _, _, _, _, _, _, _ => none
 | k + 1, x0, x1, x2, x7, x8, x9, x66 => if x66 = true then (if 0 ≤ x9 then (if x9 < (x7.length : Int) then (if 0 ≤ (wrap64 (x9 + 1)) then (if (wrap64 (x9 + 1)) < (x7.length : Int) then ((tapearchiveref34_add.f k x8 (rd x7 x9) (rd x7 (wrap64 (x9 + 1)))).bind fun t304 => (tapearchiveref34_combine.l0 k x0 x1 x2 x7 t304 (wrap64 (x9 + 1)))) else (none)) else (none)) else (none)) else (none)) else (tapearchiveref34_combine.l0 k x0 x1 x2 x7 x8 (wrap64 (x9 + 1)))
end
def tapearchiveref34_combine.f (k : Nat) (l0 : List (S30)) (l1 : List (S30)) (a2 : Int) : Option ((List (S30))) := (some (([] : List (S30)) : List (S30))).bind fun y283 => (if y283.length + l0.length < 8796093022208 then ((some (y283 ++ l0 : List (S30))).bind fun y286 => (if y286.length + l1.length < 8796093022208 then ((tapearchiveref34_edges.f k (y286 ++ l1)).bind fun t292 => (tapearchiveref34_combine.l0 k l0 l1 a2 t292 (([] : List (S30))) 0)) else (none))) else (none))
theorem tapearchiveref34_combine.mono_l : ∀ k, (∀ y0 y1 y2 y3 y4 y5, LeO (tapearchiveref34_combine.l0 k y0 y1 y2 y3 y4 y5) (tapearchiveref34_combine.l0 (k + 1) y0 y1 y2 y3 y4 y5)) ∧ (∀ y0 y1 y2 y3 y4 y5 y6, LeO (tapearchiveref34_combine.j1 k y0 y1 y2 y3 y4 y5 y6) (tapearchiveref34_combine.j1 (k + 1) y0 y1 y2 y3 y4 y5 y6))
 | 0 => ⟨fun _ _ _ _ _ _ r h => by simp [tapearchiveref34_combine.l0] at h, fun _ _ _ _ _ _ _ r h => by simp [tapearchiveref34_combine.j1] at h⟩
 | k + 1 => by
  obtain ⟨ih0, ih1⟩ := tapearchiveref34_combine.mono_l k
  refine ⟨?_, ?_⟩
  ·intro y0 y1 y2 y3 y4 y5
   unfold tapearchiveref34_combine.l0
   repeat' first
   | (with_reducible exact ih0 _ _ _ _ _ _)
   | (with_reducible exact ih1 _ _ _ _ _ _ _)
   | (with_reducible exact tapearchiveref34_In.mono _ _ _)
   | (with_reducible exact tapearchiveref34_add.mono _ _ _ _)
   | (with_reducible exact tapearchiveref34_edges.mono _ _)
   | (with_reducible exact LeO.refl _)
   | (with_reducible exact LeO.none _)
   | (with_reducible refine LeO.ite ?_ ?_)
   | (with_reducible refine LeO.bind ?_ (fun _ => ?_))
   | exact ih0 _ _ _ _ _ _
   | exact ih1 _ _ _ _ _ _ _
   | exact tapearchiveref34_In.mono _ _ _
   | exact tapearchiveref34_add.mono _ _ _ _
   | exact tapearchiveref34_edges.mono _ _
   | exact LeO.none _
   | refine LeO.ite ?_ ?_
   | refine LeO.bind ?_ (fun _ => ?_)
  ·intro y0 y1 y2 y3 y4 y5 y6
   unfold tapearchiveref34_combine.j1
   repeat' first
   | (with_reducible exact ih0 _ _ _ _ _ _)
   | (with_reducible exact ih1 _ _ _ _ _ _ _)
   | (with_reducible exact tapearchiveref34_In.mono _ _ _)
   | (with_reducible exact tapearchiveref34_add.mono _ _ _ _)
   | (with_reducible exact tapearchiveref34_edges.mono _ _)
   | (with_reducible exact LeO.refl _)
   | (with_reducible exact LeO.none _)
   | (with_reducible refine LeO.ite ?_ ?_)
   | (with_reducible refine LeO.bind ?_ (fun _ => ?_))
   | exact ih0 _ _ _ _ _ _
   | exact ih1 _ _ _ _ _ _ _
   | exact tapearchiveref34_In.mono _ _ _
   | exact tapearchiveref34_add.mono _ _ _ _
   | exact tapearchiveref34_edges.mono _ _
   | exact LeO.none _
   | refine LeO.ite ?_ ?_
   | refine LeO.bind ?_ (fun _ => ?_)
theorem tapearchiveref34_combine.mono : ∀ a0 a1 a2 k, LeO (tapearchiveref34_combine.f k a0 a1 a2) (tapearchiveref34_combine.f (k + 1) a0 a1 a2) := by
 intro a0 a1 a2 k
 obtain ⟨ih0, ih1⟩ := tapearchiveref34_combine.mono_l k
 unfold tapearchiveref34_combine.f
 repeat' first
   | (with_reducible exact ih0 _ _ _ _ _ _)
   | (with_reducible exact ih1 _ _ _ _ _ _ _)
   | (with_reducible exact tapearchiveref34_In.mono _ _ _)
   | (with_reducible exact tapearchiveref34_add.mono _ _ _ _)
   | (with_reducible exact tapearchiveref34_edges.mono _ _)
   | (with_reducible exact LeO.refl _)
   | (with_reducible exact LeO.none _)
   | (with_reducible refine LeO.ite ?_ ?_)
   | (with_reducible refine LeO.bind ?_ (fun _ => ?_))
   | exact ih0 _ _ _ _ _ _
   | exact ih1 _ _ _ _ _ _ _
   | exact tapearchiveref34_In.mono _ _ _
   | exact tapearchiveref34_add.mono _ _ _ _
   | exact tapearchiveref34_edges.mono _ _
   | exact LeO.none _
   | refine LeO.ite ?_ ?_
   | refine LeO.bind ?_ (fun _ => ?_)
def tapearchiveref34_combine.T6 : Bool × List (List Nat × List Nat) := (true, [([], []), ([], []), ([], []), ([1, 2], [1, 2]), ([3], [3]), ([0, 4], [0, 4]), ([], []), ([], []), ([], []), ([7, 8], [7, 8]), ([9], [9]), ([6, 10, 5], [6, 10]), ([5, 11, 0, 1, 2, 3, 4, 5], [5]), ([11, 12, 0, 1, 2, 3, 4, 5, 6, 7, 8, 9, 10, 11, 12], [11])])
def tapearchiveref34_combine.B6 : List Nat := [0, 0, 0, 6, 14, 31, 0, 0, 0, 384, 896, 2047, 4095, 8191]
theorem tapearchiveref34_combine.tab6 : rtab .any (opsOf Try.f35 6) = tapearchiveref34_combine.T6 := by kernel_rfl
theorem tapearchiveref34_combine.bits6 : waitsOk tapearchiveref34_combine.T6.2 tapearchiveref34_combine.B6 = true := by kernel_rfl
def tapearchiveref34_combine.T8 : Bool × List (List Nat × List Nat) := (true, [([], []), ([], []), ([], []), ([1, 2], [1, 2]), ([3], [3]), ([], []), ([], []), ([6], [6]), ([5, 7], [5, 7]), ([8], [8]), ([0, 4, 9], [0, 4, 9]), ([10, 10, 0, 1, 2, 3, 4, 5, 6, 7, 8, 9, 10], [0, 10])])
def tapearchiveref34_combine.B8 : List Nat := [0, 0, 0, 6, 14, 0, 0, 64, 224, 480, 1023, 2047]
theorem tapearchiveref34_combine.tab8 : rtab .any (opsOf Try.f35 8) = tapearchiveref34_combine.T8 := by kernel_rfl
theorem tapearchiveref34_combine.bits8 : waitsOk tapearchiveref34_combine.T8.2 tapearchiveref34_combine.B8 = true := by kernel_rfl
set_option maxHeartbeats 8000000 in
set_option maxRecDepth 100000 in
theorem tapearchiveref34_combine.calls (k : Nat) (A0 : Option Addr) (c0 : Nat) (l0 : List (S30)) (A1 : Option Addr) (c1 : Nat) (l1 : List (S30)) (a2 : Int) (r : List (S30)) (w : World) (hr0 : Kd.C k30 w A0 l0.length l0) (hc0 : l0.length ≤ c0) (hr1 : Kd.C k30 w A1 l1.length l1) (hc1 : l1.length ≤ c1) (h : tapearchiveref34_combine.f k l0 l1 a2 = some r) :
  Calls Try.prog 35 #[.slice A0 l0.length c0, .slice A1 l1.length c1, .int .i64 a2] w fun e w' => ∃ v0_ : Value, e = .returned (v0_) ∧ Kd.R k30 30 w' w.heap.size (fun _ => True) v0_ r ∧ Below w.heap.size w w' := by
 have HR0 := Aside0.mk hr0
 have HC0 := Aside0.mk hc0
 clear hr0 hc0
 have HR1 := Aside0.mk hr1
 have HC1 := Aside0.mk hc1
 clear hr1 hc1
 have HB := Aside0.mk (Below.refl w.heap.size w)
 have H : ((some (([] : List (S30)) : List (S30))).bind fun y283 => (if y283.length + l0.length < 8796093022208 then ((some (y283 ++ l0 : List (S30))).bind fun y286 => (if y286.length + l1.length < 8796093022208 then ((tapearchiveref34_edges.f k (y286 ++ l1)).bind fun t292 => (tapearchiveref34_combine.l0 k l0 l1 a2 t292 (([] : List (S30))) 0)) else (none))) else (none))) = some r := h
 clear h
 obtain ⟨y283, hy283⟩ : ∃ y_ : List (S30), y_ = (([] : List (S30))) := ⟨_, rfl⟩
 replace H : (if y283.length + l0.length < 8796093022208 then ((some (y283 ++ l0 : List (S30))).bind fun y286 => (if y286.length + l1.length < 8796093022208 then ((tapearchiveref34_edges.f k (y286 ++ l1)).bind fun t292 => (tapearchiveref34_combine.l0 k l0 l1 a2 t292 (([] : List (S30))) 0)) else (none))) else (none)) = some r := by first | (rw [hy283]; with_reducible exact H) | (have H2_ := (Option.bind_some _ _).symm.trans H; rw [hy283]; with_reducible exact H2_) | (have H2_ := (Option.bind_some _ _).symm.trans H; with_reducible exact H2_) | with_reducible exact H | (rw [hy283]; exact H) | exact H
 have Ny283 := Aside0.mk hy283
 clear hy283
 by_cases c4 : y283.length + l0.length < 8796093022208
 ·rw [if_pos c4] at H
  have LMc4 := Aside0.mk c4
  clear c4
  obtain ⟨y286, hy286⟩ : ∃ y_ : List (S30), y_ = (y283 ++ l0) := ⟨_, rfl⟩
  replace H : (if y286.length + l1.length < 8796093022208 then ((tapearchiveref34_edges.f k (y286 ++ l1)).bind fun t292 => (tapearchiveref34_combine.l0 k l0 l1 a2 t292 (([] : List (S30))) 0)) else (none)) = some r := by first | (rw [hy286]; with_reducible exact H) | (have H2_ := (Option.bind_some _ _).symm.trans H; rw [hy286]; with_reducible exact H2_) | (have H2_ := (Option.bind_some _ _).symm.trans H; with_reducible exact H2_) | with_reducible exact H | (rw [hy286]; exact H) | exact H
  have Ny286 := Aside0.mk hy286
  clear hy286
  by_cases c5 : y286.length + l1.length < 8796093022208
  ·rw [if_pos c5] at H
   have LMc5 := Aside0.mk c5
   clear c5
   obtain ⟨y289, hy289⟩ : ∃ y_ : List (S30), y_ = (y286 ++ l1) := ⟨_, rfl⟩
   replace H : ((tapearchiveref34_edges.f k y289).bind fun t292 => (tapearchiveref34_combine.l0 k l0 l1 a2 t292 (([] : List (S30))) 0)) = some r := by first | (rw [hy289]; with_reducible exact H) | (have H2_ := (Option.bind_some _ _).symm.trans H; rw [hy289]; with_reducible exact H2_) | (have H2_ := (Option.bind_some _ _).symm.trans H; with_reducible exact H2_) | with_reducible exact H | (rw [hy289]; exact H) | exact H
   have Ny289 := Aside0.mk hy289
   clear hy289
   replace H := Option.bind_eq_some_iff.mp H
   obtain ⟨t292, A60, H⟩ := H
   replace H : (tapearchiveref34_combine.l0 k l0 l1 a2 t292 (([] : List (S30))) 0) = some r := H
   have A6 := Aside0.mk A60
   clear A60
   obtain ⟨y295, hy295⟩ : ∃ y_ : List (S30), y_ = (([] : List (S30))) := ⟨_, rfl⟩
   replace H : (tapearchiveref34_combine.l0 k l0 l1 a2 t292 y295 0) = some r := by first | (rw [hy295]; with_reducible exact H) | (have H2_ := (Option.bind_some _ _).symm.trans H; rw [hy295]; with_reducible exact H2_) | (have H2_ := (Option.bind_some _ _).symm.trans H; with_reducible exact H2_) | with_reducible exact H | (rw [hy295]; exact H) | exact H
   have Ny295 := Aside0.mk hy295
   clear hy295
   have H' := Aside0.mk H
   clear H
   go_enter Try.func35, Try.ntmps35
   go_wp2_with (first | ((with_reducible refine gate_dst (N := 12) rfl ?_); refine Kd.R_lit k30 _ 30 ?hg (N := 12) ?hd (xs := ([] : List (S30))) (inner := []) (ok := fun _ => True) (okp := fun _ => True) ?hr ?hp (fun _ hk => hk) trivial (Below.refl _ _) (Nat.le_refl _) (by simp) ?_; (case hd => rfl); (case hg => rfl); (case hr => first | (go_simp; done) | (go_simp; rfl)); (case hp => exact (Reps.none _ _)); intro v284 w7 ho8 hb hg_ hnew_; clear hg_ hnew_; (first | rw [← Ny283.out] at ho8 | (simp only [Int.reduceToNat] at ho8; rw [← Ny283.out] at ho8)); have n0_ := Aside0.mk (Kd.R_lower ho8 (below_size (zB HB))); have n1_ := Aside0.mk (below_step (zB HB) hb); clear HB; have HO285 := n0_; have HB := n1_; clear n0_ n1_; clear hb ho8) | ((with_reducible refine gate_builtin (b := .append) (xs := #[.tmp 12, .tmp 13]) rfl ?_); at_builtin; refine Kd.R_append_rows k30 (w0 := w) w.heap.size rfl (.tmp 12) (.tmp 13) 22 30 (.agg #[(.int .i64 0), (.int .i64 0)]) 16 rfl Try.underlying22 info30 rfl (by decide) (by omega) v284 y283 l0 _ _ _ (fun _ => True) (fun _ => False) rfl rfl ?aO ?aR (fun _ _ h => h) (fun _ h => h.elim) ?aF ?aB ?aS ?aL ?_; (case aR => exact zC (Kd.C_below HR0.out HB.out)); (case aB => exact (zB HB)); (case aF => exact (fun _ _ => trivial)); (case aO => exact (zR HO285.out)); (case aS => exact (below_size (zB HB))); (case aL => have := LMc4.out; omega); intro v287 w9 ho hb hg hat; rw [← Ny286.out] at ho; have n0_ := Aside0.mk (hb); have n1_ := Aside0.mk (ho); clear HB; clear HO285; have HB := n0_; have HO288 := n1_; clear n0_ n1_; clear ho hb hg hat) | ((with_reducible refine gate_builtin (b := .append) (xs := #[.tmp 14, .tmp 15]) rfl ?_); at_builtin; refine Kd.R_append_rows k30 (w0 := w) w.heap.size rfl (.tmp 14) (.tmp 15) 22 30 (.agg #[(.int .i64 0), (.int .i64 0)]) 16 rfl Try.underlying22 info30 rfl (by decide) (by omega) v287 y286 l1 _ _ _ (fun _ => True) (fun _ => False) rfl rfl ?aO ?aR (fun _ _ h => h) (fun _ h => h.elim) ?aF ?aB ?aS ?aL ?_; (case aR => exact zC (Kd.C_below HR1.out HB.out)); (case aB => exact (zB HB)); (case aF => exact (fun _ _ => trivial)); (case aO => exact (zR HO288.out)); (case aS => exact (below_size (zB HB))); (case aL => have := LMc5.out; omega); intro v290 w10 ho hb hg hat; rw [← Ny289.out] at ho; have n0_ := Aside0.mk (hb); have n1_ := Aside0.mk (ho); clear HB; clear HO288; have HB := n0_; have HO291 := n1_; clear n0_ n1_; clear ho hb hg hat; obtain ⟨Ao11, co11, eo11⟩ := Kd.R_slice HO291.out; subst eo11) | ((with_reducible refine gate_callee (f := 39) rfl ?_); refine goesL_ (some 17) rfl rfl Try.func39 (by kernel_rfl) rfl #[.slice Ao11 y289.length co11] rfl zM ?_; (with_reducible refine (tapearchiveref34_edges.calls k _ _ y289 t292 _ ?side1 ?side2 A6.out).mono ?_); (case side1 => exact zC (Kd.R_reads' HO291.out).2.2); (case side2 => exact (Kd.R_reads' HO291.out).2.1); rintro e w12 ⟨v293, rfl, ho0, hb⟩; refine ⟨_, rfl, ?_⟩; have n0_ := Aside0.mk (Kd.R_below (zR HO291.out) hb); have n1_ := Aside0.mk (Kd.R_lower ho0 (below_size (zB HB))); have n2_ := Aside0.mk (below_step (zB HB) hb); clear HO291; clear HB; have HO291 := n0_; have HO294 := n1_; have HB := n2_; clear n0_ n1_ n2_; (try clear hb); (try clear hb2); (try clear hk); (try clear hi); (try clear ho0)) | ((with_reducible refine gate_dst (N := 18) rfl ?_); refine Kd.R_lit k30 _ 30 ?hg (N := 18) ?hd (xs := ([] : List (S30))) (inner := []) (ok := fun _ => True) (okp := fun _ => True) ?hr ?hp (fun _ hk => hk) trivial (Below.refl _ _) (Nat.le_refl _) (by simp) ?_; (case hd => rfl); (case hg => rfl); (case hr => first | (go_simp; done) | (go_simp; rfl)); (case hp => exact (Reps.none _ _)); intro v296 w13 ho14 hb hg_ hnew_; clear hg_ hnew_; (first | rw [← Ny295.out] at ho14 | (simp only [Int.reduceToNat] at ho14; rw [← Ny295.out] at ho14)); have n0_ := Aside0.mk (Kd.R_elder' (zR HO291.out) (Kd.R_base ho14) hb); have n1_ := Aside0.mk (Kd.R_below (zR HO294.out) hb); have n2_ := Aside0.mk (Kd.R_lower (Kd.R_new' ho14 (Kd.R_lt (zR HO291.out))) (below_size (zB HB))); have n3_ := Aside0.mk (below_step (zB HB) hb); clear HO291; clear HO294; clear HB; have HO291 := n0_; have HO294 := n1_; have HO297 := n2_; have HB := n3_; clear n0_ n1_ n2_ n3_; clear hb ho14))
   go_loopg [8, 9] k (fun kq v8 v9 w' => ∃ (x8_1 : List (S30)) (x9_1 : Int), v9 = .int .i64 x9_1 ∧ Aside0 (tapearchiveref34_combine.l0 kq l0 l1 a2 t292 x8_1 x9_1 = some r) ∧ Aside0 (kq ≤ k) ∧ Aside0 (Kd.R (Kd.int .i64) 3 w' w.heap.size (fun _ => True) v293 t292) ∧ Aside0 (Kd.R k30 30 w' w.heap.size (fun _ => True) v8 x8_1) ∧ Aside0 (Below w.heap.size w w'))
   case atStart => exact ⟨(y295), (0), zS, H', ⟨Nat.le_refl _⟩, ⟨zR HO294.out⟩, ⟨by (with_reducible repeat (first | apply Kd.R_alloc | apply Kd.R_drewN | apply Kd.R_drew)); exact Kd.R_mono HO297.out (fun _ hk => trivial)⟩, ⟨zB HB⟩⟩
   case round =>
    clear H'
    try clear c1
    try clear p2
    try clear c3
    try clear c4
    try clear c5
    obtain ⟨x8_1, x9_1, rfl, HA, HK1, HO_7, HO_8, HB⟩ := hrel
    cases gk with
    | zero => exact absurd HA.out (by simp [tapearchiveref34_combine.l0])
    | succ k1 =>
     have H := HA.out
     clear HA
     simp only [tapearchiveref34_combine.l0] at H
     by_cases c15 : (wrap64 (x9_1 + 1)) < (t292.length : Int)
     ·rw [if_pos c15] at H
      have c15b0 : decide ((wrap64 (x9_1 + 1)) < (t292.length : Int)) = true := decide_eq_true c15
      clear c15
      by_cases c16 : 0 ≤ x9_1
      ·rw [if_pos c16] at H
       have c16b0 : decide (0 ≤ x9_1) = true := decide_eq_true c16
       clear c16
       by_cases c17 : x9_1 < (t292.length : Int)
       ·rw [if_pos c17] at H
        have c17b0 : decide (x9_1 < (t292.length : Int)) = true := decide_eq_true c17
        clear c17
        replace H := Option.bind_eq_some_iff.mp H
        obtain ⟨t299, A180, H⟩ := H
        replace H : ((tapearchiveref34_In.f k1 l1 (rd t292 x9_1)).bind fun t301 => (if a2 = 1 then (if t299 = true then (tapearchiveref34_combine.j1 k1 l0 l1 a2 t292 x8_1 x9_1 true) else (if t301 = true then (tapearchiveref34_combine.j1 k1 l0 l1 a2 t292 x8_1 x9_1 true) else (if a2 = 2 then (if a2 = 3 then (tapearchiveref34_combine.j1 k1 l0 l1 a2 t292 x8_1 x9_1 false) else (tapearchiveref34_combine.j1 k1 l0 l1 a2 t292 x8_1 x9_1 false)) else (if a2 = 3 then (tapearchiveref34_combine.j1 k1 l0 l1 a2 t292 x8_1 x9_1 false) else (tapearchiveref34_combine.j1 k1 l0 l1 a2 t292 x8_1 x9_1 false))))) else (if a2 = 2 then (if t299 = true then (if t301 = true then (tapearchiveref34_combine.j1 k1 l0 l1 a2 t292 x8_1 x9_1 true) else (if a2 = 3 then (tapearchiveref34_combine.j1 k1 l0 l1 a2 t292 x8_1 x9_1 (!t301)) else (tapearchiveref34_combine.j1 k1 l0 l1 a2 t292 x8_1 x9_1 false))) else (if a2 = 3 then (tapearchiveref34_combine.j1 k1 l0 l1 a2 t292 x8_1 x9_1 false) else (tapearchiveref34_combine.j1 k1 l0 l1 a2 t292 x8_1 x9_1 false))) else (if a2 = 3 then (if t299 = true then (tapearchiveref34_combine.j1 k1 l0 l1 a2 t292 x8_1 x9_1 (!t301)) else (tapearchiveref34_combine.j1 k1 l0 l1 a2 t292 x8_1 x9_1 false)) else (tapearchiveref34_combine.j1 k1 l0 l1 a2 t292 x8_1 x9_1 false))))) = some r := H
        have A18 := Aside0.mk A180
        clear A180
        replace H := Option.bind_eq_some_iff.mp H
        obtain ⟨t301, A190, H⟩ := H
        replace H : (if a2 = 1 then (if t299 = true then (tapearchiveref34_combine.j1 k1 l0 l1 a2 t292 x8_1 x9_1 true) else (if t301 = true then (tapearchiveref34_combine.j1 k1 l0 l1 a2 t292 x8_1 x9_1 true) else (if a2 = 2 then (if a2 = 3 then (tapearchiveref34_combine.j1 k1 l0 l1 a2 t292 x8_1 x9_1 false) else (tapearchiveref34_combine.j1 k1 l0 l1 a2 t292 x8_1 x9_1 false)) else (if a2 = 3 then (tapearchiveref34_combine.j1 k1 l0 l1 a2 t292 x8_1 x9_1 false) else (tapearchiveref34_combine.j1 k1 l0 l1 a2 t292 x8_1 x9_1 false))))) else (if a2 = 2 then (if t299 = true then (if t301 = true then (tapearchiveref34_combine.j1 k1 l0 l1 a2 t292 x8_1 x9_1 true) else (if a2 = 3 then (tapearchiveref34_combine.j1 k1 l0 l1 a2 t292 x8_1 x9_1 (!t301)) else (tapearchiveref34_combine.j1 k1 l0 l1 a2 t292 x8_1 x9_1 false))) else (if a2 = 3 then (tapearchiveref34_combine.j1 k1 l0 l1 a2 t292 x8_1 x9_1 false) else (tapearchiveref34_combine.j1 k1 l0 l1 a2 t292 x8_1 x9_1 false))) else (if a2 = 3 then (if t299 = true then (tapearchiveref34_combine.j1 k1 l0 l1 a2 t292 x8_1 x9_1 (!t301)) else (tapearchiveref34_combine.j1 k1 l0 l1 a2 t292 x8_1 x9_1 false)) else (tapearchiveref34_combine.j1 k1 l0 l1 a2 t292 x8_1 x9_1 false)))) = some r := H
        have A19 := Aside0.mk A190
        clear A190
        have HC20 := Aside0.mk H
        clear H
        obtain ⟨Ao21, co21, eo21⟩ := Kd.R_slice HO_7.out
        subst eo21
        try go_wp2
        have n0_ := Aside0.mk (Kd.R_drew HO_7.out)
        have n1_ := Aside0.mk (Kd.R_drew HO_8.out)
        have n2_ := Aside0.mk (below_drew1 HB.out)
        clear HO_7
        clear HO_8
        clear HB
        have HO_7 := n0_
        have HO_8 := n1_
        have HB := n2_
        clear n0_ n1_ n2_
        have p298 : 0 ≤ (x9_1 : Int) := of_decide_eq_true zA
        have q298 : x9_1 < (t292.length : Int) := of_decide_eq_true zA
        obtain ⟨ad298, e298, hx298_0⟩ := Kd.at_int (Kd.R_reads' HO_7.out).2.2 x9_1 p298 q298
        cases e298
        replace p298 := eq_true p298
        replace q298 := eq_true q298
        have p300 : 0 ≤ (x9_1 : Int) := of_decide_eq_true zA
        have q300 : x9_1 < (t292.length : Int) := of_decide_eq_true zA
        obtain ⟨ad300, e300, hx300_0⟩ := Kd.at_int (Kd.R_reads' HO_7.out).2.2 x9_1 p300 q300
        obtain rfl : ad298 = ad300 := (by injection e300)
        replace p300 := eq_true p300
        replace q300 := eq_true q300
        refine start_ (n := 14) (S := fun w' => w'.cell? (ad298.add (x9_1).toNat) = some (.int .i64 (rd t292 x9_1)) ∧ w'.cell? (ad298.add (x9_1).toNat) = some (.int .i64 (rd t292 x9_1))) (ds := []) #[false, false, false, false, false, false, false, false, false, false, false, false, false, false] (by kernel_rfl) rfl rfl ⟨hx298_0, hx300_0⟩ (fun hHeld => ?_); refine with_tabW tapearchiveref34_combine.tab6 tapearchiveref34_combine.bits6 (fun HT_ HW_ => ?_)
        generalize wr.drew = w22 at HO_7 HO_8 HB hx298_0 hx300_0 hHeld ⊢
        refine pure_ (i := 0) (N := some 26) (v := ?_) (a' := ?_) #[true, false, false, false, false, false, false, false, false, false, false, false, false, false] rfl rfl (any_of HT_.out (by kernel_rfl)) (fun _ _ _ h => h) (Or.inl ⟨by rfl, ?_⟩) ?_ ?_
        rotate_left
        ·intro w'
         go_simp
         with_reducible rfl
        rotate_left
        ·exact zP i64_w i32_w
        refine pure_ (i := 1) (N := some 27) (v := ?_) (a' := ?_) #[true, true, false, false, false, false, false, false, false, false, false, false, false, false] rfl rfl (any_of HT_.out (by kernel_rfl)) (fun _ _ _ h => h) (Or.inl ⟨by rfl, ?_⟩) ?_ ?_
        rotate_left
        ·intro w'
         go_simp
         with_reducible rfl
        rotate_left
        ·exact zP i64_w i32_w
        refine pure_ (i := 2) (N := some 28) (v := ?_) (a' := ?_) #[true, true, true, false, false, false, false, false, false, false, false, false, false, false] rfl rfl (any_of HT_.out (by kernel_rfl)) (fun _ _ _ h => h) (Or.inl ⟨by rfl, ?_⟩) ?_ ?_
        rotate_left
        ·intro w'
         go_simp
         with_reducible rfl
        rotate_left
        ·exact zP i64_w i32_w
        refine pure_ (i := 3) (N := some 29) (v := ?_) (a' := ?_) #[true, true, true, true, false, false, false, false, false, false, false, false, false, false] rfl rfl (any_of HT_.out (by kernel_rfl)) (fun _ _ _ h => h) (Or.inl ⟨by rfl, ?_⟩) ?_ ?_
        rotate_left
        ·intro w'
         go_simp
         with_reducible rfl
        rotate_left
        ·exact zP i64_w i32_w
        refine pure_ (i := 6) (N := some 32) (v := ?_) (a' := ?_) #[true, true, true, true, false, false, true, false, false, false, false, false, false, false] rfl rfl (any_of HT_.out (by kernel_rfl)) (fun _ _ _ h => h) (Or.inl ⟨by rfl, ?_⟩) ?_ ?_
        rotate_left
        ·intro w'
         go_simp
         with_reducible rfl
        rotate_left
        ·exact zP i64_w i32_w
        refine pure_ (i := 7) (N := some 33) (v := ?_) (a' := ?_) #[true, true, true, true, false, false, true, true, false, false, false, false, false, false] rfl rfl (any_of HT_.out (by kernel_rfl)) (fun _ _ _ h => h) (Or.inl ⟨by rfl, ?_⟩) ?_ ?_
        rotate_left
        ·intro w'
         go_simp
         with_reducible rfl
        rotate_left
        ·exact zP i64_w i32_w
        refine pure_ (i := 8) (N := some 34) (v := ?_) (a' := ?_) #[true, true, true, true, false, false, true, true, true, false, false, false, false, false] rfl rfl (any_of HT_.out (by kernel_rfl)) (fun _ _ _ h => h) (Or.inl ⟨by rfl, ?_⟩) ?_ ?_
        rotate_left
        ·intro w'
         go_simp
         with_reducible rfl
        rotate_left
        ·exact zP i64_w i32_w
        refine pure_ (i := 9) (N := some 35) (v := ?_) (a' := ?_) #[true, true, true, true, false, false, true, true, true, true, false, false, false, false] rfl rfl (any_of HT_.out (by kernel_rfl)) (fun _ _ _ h => h) (Or.inl ⟨by rfl, ?_⟩) ?_ ?_
        rotate_left
        ·intro w'
         go_simp
         with_reducible rfl
        rotate_left
        ·exact zP i64_w i32_w
        refine take_ (i := 4) (N := some 30) (v := ?_) (a' := ?_) #[true, true, true, true, true, false, true, true, true, true, false, false, false, false] rfl rfl (take_ofW HT_.out HW_.out (by kernel_rfl)) (fun _ _ _ h => h) (Or.inl ⟨by rfl, ?_⟩) hHeld ?_ ?_
        rotate_left
        ·rintro w' ⟨s0, s1⟩
         go_simp
         with_reducible rfl
        rotate_left
        ·exact zP i64_w i32_w
        refine take_ (i := 10) (N := some 36) (v := ?_) (a' := ?_) #[true, true, true, true, true, false, true, true, true, true, true, false, false, false] rfl rfl (take_ofW HT_.out HW_.out (by kernel_rfl)) (fun _ _ _ h => h) (Or.inl ⟨by rfl, ?_⟩) hHeld ?_ ?_
        rotate_left
        ·rintro w' ⟨s0, s1⟩
         go_simp
         with_reducible rfl
        rotate_left
        ·exact zP i64_w i32_w
        refine one_ (i := 5) (N := some 31) #[true, true, true, true, true, true, true, true, true, true, true, false, false, false] rfl rfl (one_of HT_.out (by kernel_rfl)) (by decide) (fun K hK => ?_)
        refine goes_ Try.func34 (by kernel_rfl) rfl #[.slice A0 l0.length c0, .int .i64 (rd t292 x9_1)] (by rfl) rfl rfl zM ?_
        with_reducible refine (tapearchiveref34_In.calls k1 _ _ l0 (rd t292 x9_1) t299 _ ?side1 ?side2 A18.out).mono ?_
        (case side1 => exact zC (Kd.C_below HR0.out HB.out))
        (case side2 => exact HC0.out)
        rintro e w23 ⟨rfl, hb⟩
        have HS0_ := (hb.cell (World.block_lt_of_cell? _ _ (hHeld.1))).trans (hHeld.1)
        have HS1_ := (hb.cell (World.block_lt_of_cell? _ _ (hHeld.2))).trans (hHeld.2)
        refine ⟨_, rfl, ?_⟩
        have n0_ := Aside0.mk (Kd.R_below (zR HO_7.out) hb)
        have n1_ := Aside0.mk (Kd.R_below (zR HO_8.out) hb)
        have n2_ := Aside0.mk (below_step (zB HB) hb)
        clear HO_7
        clear HO_8
        clear HB
        have HO_7 := n0_
        have HO_8 := n1_
        have HB := n2_
        clear n0_ n1_ n2_
        (try clear hb)
        (try clear hb2)
        (try clear hk)
        (try clear hi)
        refine hK.out _ _ ⟨HS0_, HS1_⟩ (fun hHeld => ?_)
        clear hK K
        refine norm_ (a' := ?_) ?_ ?_
        rotate_left
        ·show Act.put _ (some 31) _ = _
         simp only [Act.put, List.setIfInBounds_toArray, List.set_cons_zero, List.set_cons_succ, i64_w, i32_w]
         rfl
        refine one_ (i := 11) (N := some 37) #[true, true, true, true, true, true, true, true, true, true, true, true, false, false] rfl rfl (one_of HT_.out (by kernel_rfl)) (by decide) (fun K hK => ?_)
        refine goes_ Try.func34 (by kernel_rfl) rfl #[.slice A1 l1.length c1, .int .i64 (rd t292 x9_1)] (by rfl) rfl rfl zM ?_
        with_reducible refine (tapearchiveref34_In.calls k1 _ _ l1 (rd t292 x9_1) t301 _ ?side1 ?side2 A19.out).mono ?_
        (case side1 => exact zC (Kd.C_below HR1.out HB.out))
        (case side2 => exact HC1.out)
        rintro e w24 ⟨rfl, hb⟩
        have HS0_ := (hb.cell (World.block_lt_of_cell? _ _ (hHeld.1))).trans (hHeld.1)
        have HS1_ := (hb.cell (World.block_lt_of_cell? _ _ (hHeld.2))).trans (hHeld.2)
        refine ⟨_, rfl, ?_⟩
        have n0_ := Aside0.mk (Kd.R_below (zR HO_7.out) hb)
        have n1_ := Aside0.mk (Kd.R_below (zR HO_8.out) hb)
        have n2_ := Aside0.mk (below_step (zB HB) hb)
        clear HO_7
        clear HO_8
        clear HB
        have HO_7 := n0_
        have HO_8 := n1_
        have HB := n2_
        clear n0_ n1_ n2_
        (try clear hb)
        (try clear hb2)
        (try clear hk)
        (try clear hi)
        refine hK.out _ _ ⟨HS0_, HS1_⟩ (fun hHeld => ?_)
        clear hK K
        refine norm_ (a' := ?_) ?_ ?_
        rotate_left
        ·show Act.put _ (some 37) _ = _
         simp only [Act.put, List.setIfInBounds_toArray, List.set_cons_zero, List.set_cons_succ, i64_w, i32_w]
         rfl
        refine pure_ (i := 12) (N := some 10) (v := ?_) (a' := ?_) #[true, true, true, true, true, true, true, true, true, true, true, true, true, false] rfl rfl (any_of HT_.out (by kernel_rfl)) (fun _ _ _ h => h) (Or.inl ⟨by rfl, ?_⟩) ?_ ?_
        rotate_left
        ·intro w'
         go_simp
         with_reducible rfl
        rotate_left
        ·exact zP i64_w i32_w
        refine pure_ (i := 13) (N := some 11) (v := ?_) (a' := ?_) #[true, true, true, true, true, true, true, true, true, true, true, true, true, true] rfl rfl (any_of HT_.out (by kernel_rfl)) (fun _ _ _ h => h) (Or.inl ⟨by rfl, ?_⟩) ?_ ?_
        rotate_left
        ·intro w'
         go_simp
         with_reducible rfl
        rotate_left
        ·exact zP i64_w i32_w
        refine done_ (done_of HT_.out (by kernel_rfl)) ?_
        go_upto_region 7 with (fail)
        go_cut [66] (fun v66 wc => ∃ (kq : Nat) (x66_19 : Bool), v66 = .bool x66_19 ∧ Aside0 (tapearchiveref34_combine.j1 kq l0 l1 a2 t292 x8_1 x9_1 x66_19 = some r) ∧ Aside0 (kq ≤ k1) ∧ Aside0 (Kd.R (Kd.int .i64) 3 wc w.heap.size (fun _ => True) (.slice (some ad298) t292.length co21) t292) ∧ Aside0 (Kd.R k30 30 wc w.heap.size (fun _ => True) u8 x8_1) ∧ Aside0 (Below w.heap.size w wc))
        case first =>
         have H := HC20.out
         clear HC20
         by_cases c25 : a2 = 1
         ·rw [if_pos c25] at H
          have c25b0 : (a2 == 1) = true := beq_iff_eq.mpr c25
          have c25b1 : (a2 != 1) = false := bne_eq_false_iff_eq.mpr c25
          clear c25
          (first | rw [c25b0] | (simp only [i64_w, i32_w]; rw [c25b0]) | skip)
          by_cases c26 : t299 = true
          ·subst c26
           have H1 : (tapearchiveref34_combine.j1 k1 l0 l1 a2 t292 x8_1 x9_1 true) = some r := by rw [if_pos rfl] at H; exact H
           clear H
           have H := H1
           clear H1
           have H' := Aside0.mk H
           clear H
           go_wp2
           go_meet
           case rel => exact ⟨_, (true), zS, H', ⟨by have := HK1.out; first | omega | exact Nat.le_refl _⟩, ⟨zR HO_7.out⟩, ⟨zR HO_8.out⟩, ⟨zB HB⟩⟩
          ·replace c26 := Bool.eq_false_iff.mpr c26
           subst c26
           have H1 : (if t301 = true then (tapearchiveref34_combine.j1 k1 l0 l1 a2 t292 x8_1 x9_1 true) else (if a2 = 2 then (if a2 = 3 then (tapearchiveref34_combine.j1 k1 l0 l1 a2 t292 x8_1 x9_1 false) else (tapearchiveref34_combine.j1 k1 l0 l1 a2 t292 x8_1 x9_1 false)) else (if a2 = 3 then (tapearchiveref34_combine.j1 k1 l0 l1 a2 t292 x8_1 x9_1 false) else (tapearchiveref34_combine.j1 k1 l0 l1 a2 t292 x8_1 x9_1 false)))) = some r := by rw [if_neg (show ¬ (false = true) by decide)] at H; exact H
           clear H
           have H := H1
           clear H1
           by_cases c27 : t301 = true
           ·subst c27
            have H1 : (tapearchiveref34_combine.j1 k1 l0 l1 a2 t292 x8_1 x9_1 true) = some r := by rw [if_pos rfl] at H; exact H
            clear H
            have H := H1
            clear H1
            have H' := Aside0.mk H
            clear H
            go_wp2
            go_meet
            case rel => exact ⟨_, (true), zS, H', ⟨by have := HK1.out; first | omega | exact Nat.le_refl _⟩, ⟨zR HO_7.out⟩, ⟨zR HO_8.out⟩, ⟨zB HB⟩⟩
           ·replace c27 := Bool.eq_false_iff.mpr c27
            subst c27
            have H1 : (if a2 = 2 then (if a2 = 3 then (tapearchiveref34_combine.j1 k1 l0 l1 a2 t292 x8_1 x9_1 false) else (tapearchiveref34_combine.j1 k1 l0 l1 a2 t292 x8_1 x9_1 false)) else (if a2 = 3 then (tapearchiveref34_combine.j1 k1 l0 l1 a2 t292 x8_1 x9_1 false) else (tapearchiveref34_combine.j1 k1 l0 l1 a2 t292 x8_1 x9_1 false))) = some r := by rw [if_neg (show ¬ (false = true) by decide)] at H; exact H
            clear H
            have H := H1
            clear H1
            by_cases c28 : a2 = 2
            ·rw [if_pos c28] at H
             have c28b0 : (a2 == 2) = true := beq_iff_eq.mpr c28
             have c28b1 : (a2 != 2) = false := bne_eq_false_iff_eq.mpr c28
             clear c28
             by_cases c29 : a2 = 3
             ·rw [if_pos c29] at H
              have c29b0 : (a2 == 3) = true := beq_iff_eq.mpr c29
              have c29b1 : (a2 != 3) = false := bne_eq_false_iff_eq.mpr c29
              clear c29
              have H' := Aside0.mk H
              clear H
              go_wp2
              go_meet
              case rel => exact ⟨_, (false), zS, H', ⟨by have := HK1.out; first | omega | exact Nat.le_refl _⟩, ⟨zR HO_7.out⟩, ⟨zR HO_8.out⟩, ⟨zB HB⟩⟩
             ·rw [if_neg c29] at H
              have c29b0 : (a2 == 3) = false := beq_eq_false_iff_ne.mpr c29
              have c29b1 : (a2 != 3) = true := bne_iff_ne.mpr c29
              have H' := Aside0.mk H
              clear H
              go_wp2
              go_meet
              case rel => exact ⟨_, (false), zS, H', ⟨by have := HK1.out; first | omega | exact Nat.le_refl _⟩, ⟨zR HO_7.out⟩, ⟨zR HO_8.out⟩, ⟨zB HB⟩⟩
            ·rw [if_neg c28] at H
             have c28b0 : (a2 == 2) = false := beq_eq_false_iff_ne.mpr c28
             have c28b1 : (a2 != 2) = true := bne_iff_ne.mpr c28
             by_cases c30 : a2 = 3
             ·rw [if_pos c30] at H
              have c30b0 : (a2 == 3) = true := beq_iff_eq.mpr c30
              have c30b1 : (a2 != 3) = false := bne_eq_false_iff_eq.mpr c30
              clear c30
              have H' := Aside0.mk H
              clear H
              go_wp2
              go_meet
              case rel => exact ⟨_, (false), zS, H', ⟨by have := HK1.out; first | omega | exact Nat.le_refl _⟩, ⟨zR HO_7.out⟩, ⟨zR HO_8.out⟩, ⟨zB HB⟩⟩
             ·rw [if_neg c30] at H
              have c30b0 : (a2 == 3) = false := beq_eq_false_iff_ne.mpr c30
              have c30b1 : (a2 != 3) = true := bne_iff_ne.mpr c30
              have H' := Aside0.mk H
              clear H
              go_wp2
              go_meet
              case rel => exact ⟨_, (false), zS, H', ⟨by have := HK1.out; first | omega | exact Nat.le_refl _⟩, ⟨zR HO_7.out⟩, ⟨zR HO_8.out⟩, ⟨zB HB⟩⟩
         ·rw [if_neg c25] at H
          have c25b0 : (a2 == 1) = false := beq_eq_false_iff_ne.mpr c25
          have c25b1 : (a2 != 1) = true := bne_iff_ne.mpr c25
          (first | rw [c25b0] | (simp only [i64_w, i32_w]; rw [c25b0]) | skip)
          by_cases c31 : a2 = 2
          ·rw [if_pos c31] at H
           have c31b0 : (a2 == 2) = true := beq_iff_eq.mpr c31
           have c31b1 : (a2 != 2) = false := bne_eq_false_iff_eq.mpr c31
           clear c31
           by_cases c32 : t299 = true
           ·subst c32
            have H1 : (if t301 = true then (tapearchiveref34_combine.j1 k1 l0 l1 a2 t292 x8_1 x9_1 true) else (if a2 = 3 then (tapearchiveref34_combine.j1 k1 l0 l1 a2 t292 x8_1 x9_1 (!t301)) else (tapearchiveref34_combine.j1 k1 l0 l1 a2 t292 x8_1 x9_1 false))) = some r := by rw [if_pos rfl] at H; exact H
            clear H
            have H := H1
            clear H1
            by_cases c33 : t301 = true
            ·subst c33
             have H1 : (tapearchiveref34_combine.j1 k1 l0 l1 a2 t292 x8_1 x9_1 true) = some r := by rw [if_pos rfl] at H; exact H
             clear H
             have H := H1
             clear H1
             have H' := Aside0.mk H
             clear H
             go_wp2
             go_meet
             case rel => exact ⟨_, (true), zS, H', ⟨by have := HK1.out; first | omega | exact Nat.le_refl _⟩, ⟨zR HO_7.out⟩, ⟨zR HO_8.out⟩, ⟨zB HB⟩⟩
            ·replace c33 := Bool.eq_false_iff.mpr c33
             subst c33
             have H1 : (if a2 = 3 then (tapearchiveref34_combine.j1 k1 l0 l1 a2 t292 x8_1 x9_1 (!false)) else (tapearchiveref34_combine.j1 k1 l0 l1 a2 t292 x8_1 x9_1 false)) = some r := by rw [if_neg (show ¬ (false = true) by decide)] at H; exact H
             clear H
             have H := H1
             clear H1
             by_cases c34 : a2 = 3
             ·rw [if_pos c34] at H
              have c34b0 : (a2 == 3) = true := beq_iff_eq.mpr c34
              have c34b1 : (a2 != 3) = false := bne_eq_false_iff_eq.mpr c34
              clear c34
              have H' := Aside0.mk H
              clear H
              go_wp2
              go_meet
              case rel => exact ⟨_, (!false), zS, H', ⟨by have := HK1.out; first | omega | exact Nat.le_refl _⟩, ⟨zR HO_7.out⟩, ⟨zR HO_8.out⟩, ⟨zB HB⟩⟩
             ·rw [if_neg c34] at H
              have c34b0 : (a2 == 3) = false := beq_eq_false_iff_ne.mpr c34
              have c34b1 : (a2 != 3) = true := bne_iff_ne.mpr c34
              have H' := Aside0.mk H
              clear H
              go_wp2
              go_meet
              case rel => exact ⟨_, (false), zS, H', ⟨by have := HK1.out; first | omega | exact Nat.le_refl _⟩, ⟨zR HO_7.out⟩, ⟨zR HO_8.out⟩, ⟨zB HB⟩⟩
           ·replace c32 := Bool.eq_false_iff.mpr c32
            subst c32
            have H1 : (if a2 = 3 then (tapearchiveref34_combine.j1 k1 l0 l1 a2 t292 x8_1 x9_1 false) else (tapearchiveref34_combine.j1 k1 l0 l1 a2 t292 x8_1 x9_1 false)) = some r := by rw [if_neg (show ¬ (false = true) by decide)] at H; exact H
            clear H
            have H := H1
            clear H1
            by_cases c35 : a2 = 3
            ·rw [if_pos c35] at H
             have c35b0 : (a2 == 3) = true := beq_iff_eq.mpr c35
             have c35b1 : (a2 != 3) = false := bne_eq_false_iff_eq.mpr c35
             clear c35
             have H' := Aside0.mk H
             clear H
             go_wp2
             go_meet
             case rel => exact ⟨_, (false), zS, H', ⟨by have := HK1.out; first | omega | exact Nat.le_refl _⟩, ⟨zR HO_7.out⟩, ⟨zR HO_8.out⟩, ⟨zB HB⟩⟩
            ·rw [if_neg c35] at H
             have c35b0 : (a2 == 3) = false := beq_eq_false_iff_ne.mpr c35
             have c35b1 : (a2 != 3) = true := bne_iff_ne.mpr c35
             have H' := Aside0.mk H
             clear H
             go_wp2
             go_meet
             case rel => exact ⟨_, (false), zS, H', ⟨by have := HK1.out; first | omega | exact Nat.le_refl _⟩, ⟨zR HO_7.out⟩, ⟨zR HO_8.out⟩, ⟨zB HB⟩⟩
          ·rw [if_neg c31] at H
           have c31b0 : (a2 == 2) = false := beq_eq_false_iff_ne.mpr c31
           have c31b1 : (a2 != 2) = true := bne_iff_ne.mpr c31
           by_cases c36 : a2 = 3
           ·rw [if_pos c36] at H
            have c36b0 : (a2 == 3) = true := beq_iff_eq.mpr c36
            have c36b1 : (a2 != 3) = false := bne_eq_false_iff_eq.mpr c36
            clear c36
            by_cases c37 : t299 = true
            ·subst c37
             have H1 : (tapearchiveref34_combine.j1 k1 l0 l1 a2 t292 x8_1 x9_1 (!t301)) = some r := by rw [if_pos rfl] at H; exact H
             clear H
             have H := H1
             clear H1
             have H' := Aside0.mk H
             clear H
             go_wp2
             go_meet
             case rel => exact ⟨_, (!t301), zS, H', ⟨by have := HK1.out; first | omega | exact Nat.le_refl _⟩, ⟨zR HO_7.out⟩, ⟨zR HO_8.out⟩, ⟨zB HB⟩⟩
            ·replace c37 := Bool.eq_false_iff.mpr c37
             subst c37
             have H1 : (tapearchiveref34_combine.j1 k1 l0 l1 a2 t292 x8_1 x9_1 false) = some r := by rw [if_neg (show ¬ (false = true) by decide)] at H; exact H
             clear H
             have H := H1
             clear H1
             have H' := Aside0.mk H
             clear H
             go_wp2
             go_meet
             case rel => exact ⟨_, (false), zS, H', ⟨by have := HK1.out; first | omega | exact Nat.le_refl _⟩, ⟨zR HO_7.out⟩, ⟨zR HO_8.out⟩, ⟨zB HB⟩⟩
           ·rw [if_neg c36] at H
            have c36b0 : (a2 == 3) = false := beq_eq_false_iff_ne.mpr c36
            have c36b1 : (a2 != 3) = true := bne_iff_ne.mpr c36
            have H' := Aside0.mk H
            clear H
            go_wp2
            go_meet
            case rel => exact ⟨_, (false), zS, H', ⟨by have := HK1.out; first | omega | exact Nat.le_refl _⟩, ⟨zR HO_7.out⟩, ⟨zR HO_8.out⟩, ⟨zB HB⟩⟩
        case rest =>
         clear HC20
         try clear c1
         try clear c2
         try clear p2
         try clear q2
         try clear hx2
         try clear c3
         try clear p3
         try clear q3
         try clear hx3
         try clear c4
         try clear c5
         try clear p6
         try clear c15
         try clear c15b0
         try clear c16
         try clear c16b0
         try clear c17
         try clear c17b0
         try clear c25
         try clear c25b0
         try clear c25b1
         try clear c26
         try clear c27
         try clear c28
         try clear c28b0
         try clear c28b1
         try clear c29
         try clear c29b0
         try clear c29b1
         try clear p29
         try clear q29
         try clear hx29
         try clear c30
         try clear c30b0
         try clear c30b1
         try clear p30
         try clear q30
         try clear hx30
         try clear c31
         try clear c31b0
         try clear c31b1
         try clear c32
         try clear c33
         try clear c34
         try clear c34b0
         try clear c34b1
         try clear c35
         try clear c35b0
         try clear c35b1
         try clear c36
         try clear c36b0
         try clear c36b1
         try clear c37
         try clear hx298_0
         try clear hx300_0
         try clear p2
         try clear p298
         try clear p300
         try clear q298
         try clear q300
         obtain ⟨kq, x66_19, rfl, HA, HJ19, HO_7, HO_8, HB⟩ := hcut
         cases kq with
         | zero => exact absurd HA.out (by simp [tapearchiveref34_combine.j1])
         | succ kj19 =>
          have H := HA.out
          clear HA
          simp only [tapearchiveref34_combine.j1] at H
          by_cases c38 : x66_19 = true
          ·subst c38
           have H1 : (if 0 ≤ x9_1 then (if x9_1 < (t292.length : Int) then (if 0 ≤ (wrap64 (x9_1 + 1)) then (if (wrap64 (x9_1 + 1)) < (t292.length : Int) then ((tapearchiveref34_add.f kj19 x8_1 (rd t292 x9_1) (rd t292 (wrap64 (x9_1 + 1)))).bind fun t304 => (tapearchiveref34_combine.l0 kj19 l0 l1 a2 t292 t304 (wrap64 (x9_1 + 1)))) else (none)) else (none)) else (none)) else (none)) = some r := by rw [if_pos rfl] at H; exact H
           clear H
           have H := H1
           clear H1
           by_cases c39 : 0 ≤ x9_1
           ·rw [if_pos c39] at H
            have c39b0 : decide (0 ≤ x9_1) = true := decide_eq_true c39
            clear c39
            by_cases c40 : x9_1 < (t292.length : Int)
            ·rw [if_pos c40] at H
             have c40b0 : decide (x9_1 < (t292.length : Int)) = true := decide_eq_true c40
             clear c40
             obtain ⟨ji41, hji41⟩ : ∃ j_ : Int, (wrap64 (x9_1 + 1)) = j_ := ⟨_, rfl⟩
             replace H : (if 0 ≤ (ji41) then (if (ji41) < (t292.length : Int) then ((tapearchiveref34_add.f kj19 x8_1 (rd t292 x9_1) (rd t292 (ji41))).bind fun t304 => (tapearchiveref34_combine.l0 kj19 l0 l1 a2 t292 t304 ji41)) else (none)) else (none)) = some r := by first | (rw [hji41] at H; exact H) | (simp only [hji41] at H ⊢; exact H)
             (try rw [hji41] at c15b0)
             have hji41w : (IntKind.i64.wrap (x9_1 + 1)) = ji41 := (i64_w _).trans hji41
             by_cases c42 : 0 ≤ (ji41)
             ·rw [if_pos c42] at H
              have c42b0 : decide (0 ≤ (ji41)) = true := decide_eq_true c42
              clear c42
              by_cases c43 : (ji41) < (t292.length : Int)
              ·rw [if_pos c43] at H
               have c43b0 : decide ((ji41) < (t292.length : Int)) = true := decide_eq_true c43
               clear c43
               replace H := Option.bind_eq_some_iff.mp H
               obtain ⟨t304, A440, H⟩ := H
               replace H : (tapearchiveref34_combine.l0 kj19 l0 l1 a2 t292 t304 ji41) = some r := H
               have A44 := Aside0.mk A440
               clear A440
               have H' := Aside0.mk H
               clear H
               try go_wp2
               have n0_ := Aside0.mk (Kd.R_drew HO_7.out)
               have n1_ := Aside0.mk (Kd.R_drew HO_8.out)
               have n2_ := Aside0.mk (below_drew1 HB.out)
               clear HO_7
               clear HO_8
               clear HB
               have HO_7 := n0_
               have HO_8 := n1_
               have HB := n2_
               clear n0_ n1_ n2_
               have p302 : 0 ≤ (x9_1 : Int) := of_decide_eq_true zA
               have q302 : x9_1 < (t292.length : Int) := of_decide_eq_true zA
               obtain ⟨ad302, e302, hx302_0⟩ := Kd.at_int (Kd.R_reads' HO_7.out).2.2 x9_1 p302 q302
               obtain rfl : ad298 = ad302 := (by injection e302)
               replace p302 := eq_true p302
               replace q302 := eq_true q302
               have p303 : 0 ≤ ((ji41) : Int) := of_decide_eq_true zA
               have q303 : (ji41) < (t292.length : Int) := of_decide_eq_true zA
               obtain ⟨ad303, e303, hx303_0⟩ := Kd.at_int (Kd.R_reads' HO_7.out).2.2 (ji41) p303 q303
               obtain rfl : ad298 = ad303 := (by injection e303)
               replace p303 := eq_true p303
               replace q303 := eq_true q303
               obtain ⟨Ao46, co46, eo46⟩ := Kd.R_slice HO_8.out
               (first | subst eo46 | (injection eo46 with f1_ f2_ f3_; have f4_ := f1_.symm; have f5_ := f3_.symm; clear f1_ f2_ f3_; subst f4_; subst f5_))
               refine start_ (n := 12) (S := fun w' => w'.cell? (ad298.add (x9_1).toNat) = some (.int .i64 (rd t292 x9_1)) ∧ w'.cell? (ad298.add ((ji41)).toNat) = some (.int .i64 (rd t292 (ji41)))) (ds := []) #[false, false, false, false, false, false, false, false, false, false, false, false] (by kernel_rfl) rfl rfl ⟨hx302_0, hx303_0⟩ (fun hHeld => ?_); refine with_tabW tapearchiveref34_combine.tab8 tapearchiveref34_combine.bits8 (fun HT_ HW_ => ?_)
               generalize wc.drew = w45 at HO_7 HO_8 HB hx302_0 hx303_0 hHeld ⊢
               refine pure_ (i := 0) (N := some 67) (v := ?_) (a' := ?_) #[true, false, false, false, false, false, false, false, false, false, false, false] rfl rfl (any_of HT_.out (by kernel_rfl)) (fun _ _ _ h => h) (Or.inl ⟨by rfl, ?_⟩) ?_ ?_
               rotate_left
               ·intro w'
                go_simp
                with_reducible rfl
               rotate_left
               ·exact zP i64_w i32_w
               refine pure_ (i := 1) (N := some 68) (v := ?_) (a' := ?_) #[true, true, false, false, false, false, false, false, false, false, false, false] rfl rfl (any_of HT_.out (by kernel_rfl)) (fun _ _ _ h => h) (Or.inl ⟨by rfl, ?_⟩) ?_ ?_
               rotate_left
               ·intro w'
                go_simp
                with_reducible rfl
               rotate_left
               ·exact zP i64_w i32_w
               refine pure_ (i := 2) (N := some 69) (v := ?_) (a' := ?_) #[true, true, true, false, false, false, false, false, false, false, false, false] rfl rfl (any_of HT_.out (by kernel_rfl)) (fun _ _ _ h => h) (Or.inl ⟨by rfl, ?_⟩) ?_ ?_
               rotate_left
               ·intro w'
                go_simp
                with_reducible rfl
               rotate_left
               ·exact zP i64_w i32_w
               refine pure_ (i := 3) (N := some 70) (v := ?_) (a' := ?_) #[true, true, true, true, false, false, false, false, false, false, false, false] rfl rfl (any_of HT_.out (by kernel_rfl)) (fun _ _ _ h => h) (Or.inl ⟨by rfl, ?_⟩) ?_ ?_
               rotate_left
               ·intro w'
                go_simp
                with_reducible rfl
               rotate_left
               ·exact zP i64_w i32_w
               refine pure_ (i := 5) (N := some 72) (v := ?_) (a' := ?_) #[true, true, true, true, false, true, false, false, false, false, false, false] rfl rfl (any_of HT_.out (by kernel_rfl)) (fun _ _ _ h => h) (Or.inl ⟨by rfl, ?_⟩) ?_ ?_
               rotate_left
               ·intro w'
                go_simp
                with_reducible rfl
               rotate_left
               ·exact zP i64_w i32_w
               refine pure_ (i := 6) (N := some 73) (v := ?_) (a' := ?_) #[true, true, true, true, false, true, true, false, false, false, false, false] rfl rfl (any_of HT_.out (by kernel_rfl)) (fun _ _ _ h => h) (Or.inl ⟨by rfl, ?_⟩) ?_ ?_
               rotate_left
               ·intro w'
                go_simp
                with_reducible rfl
               rotate_left
               ·exact zP i64_w i32_w
               refine pure_ (i := 7) (N := some 74) (v := ?_) (a' := ?_) #[true, true, true, true, false, true, true, true, false, false, false, false] rfl rfl (any_of HT_.out (by kernel_rfl)) (fun _ _ _ h => h) (Or.inl ⟨by rfl, ?_⟩) ?_ ?_
               rotate_left
               ·intro w'
                go_simp
                with_reducible rfl
               rotate_left
               ·exact zP i64_w i32_w
               refine pure_ (i := 8) (N := some 75) (v := ?_) (a' := ?_) #[true, true, true, true, false, true, true, true, true, false, false, false] rfl rfl (any_of HT_.out (by kernel_rfl)) (fun _ _ _ h => h) (Or.inl ⟨by rfl, ?_⟩) ?_ ?_
               rotate_left
               ·intro w'
                go_simp
                with_reducible rfl
               rotate_left
               ·exact zP i64_w i32_w
               refine take_ (i := 4) (N := some 71) (v := ?_) (a' := ?_) #[true, true, true, true, true, true, true, true, true, false, false, false] rfl rfl (take_ofW HT_.out HW_.out (by kernel_rfl)) (fun _ _ _ h => h) (Or.inl ⟨by rfl, ?_⟩) hHeld ?_ ?_
               rotate_left
               ·rintro w' ⟨s0, s1⟩
                go_simp
                with_reducible rfl
               rotate_left
               ·exact zP i64_w i32_w
               refine take_ (i := 9) (N := some 76) (v := ?_) (a' := ?_) #[true, true, true, true, true, true, true, true, true, true, false, false] rfl rfl (take_ofW HT_.out HW_.out (by kernel_rfl)) (fun _ _ _ h => h) (Or.inl ⟨by rfl, ?_⟩) hHeld ?_ ?_
               rotate_left
               ·rintro w' ⟨s0, s1⟩
                go_simp
                with_reducible rfl
               rotate_left
               ·exact zP i64_w i32_w
               refine one_ (i := 10) (N := some 77) #[true, true, true, true, true, true, true, true, true, true, true, false] rfl rfl (one_of HT_.out (by kernel_rfl)) (by decide) (fun K hK => ?_)
               refine goes_ Try.func40 (by kernel_rfl) rfl #[.slice Ao46 x8_1.length co46, .int .i64 (rd t292 x9_1), .int .i64 (rd t292 (ji41))] (by rfl) rfl rfl (by (try simp only [List.map_toArray, List.map_cons, List.map_nil]); first | done | (simp only [hji41]; rfl) | rfl | (simp only [List.length_drop, List.length_take]; rfl)) ?_
               with_reducible refine (tapearchiveref34_add.calls kj19 (fun k_ => some k_ = (.slice Ao46 x8_1.length co46 : Value).ownBlock) (.slice Ao46 x8_1.length co46) x8_1 (rd t292 x9_1) (rd t292 (ji41)) t304 w _ ?side1 ?side2 A44.out).mono ?_
               (case side1 => exact zB HB)
               (case side2 => exact Kd.R_tight rfl HO_8.out)
               rintro e w47 ⟨v305, rfl, ho0, hb, hkp⟩
               have HS0_ := cell_kept (hHeld.1) hkp (by first | (rw [add_block]; exact (fun hs_ => ((((Kd.R_apart' HO_7.out (Kd.R_typed HO_8.out) (by decide))).1 _ rfl).2) hs_)) | (show ¬ _; simp only [add_block]; exact (fun hs_ => ((((Kd.R_apart' HO_7.out (Kd.R_typed HO_8.out) (by decide))).1 _ rfl).2) hs_)) | exact (fun hs_ => ((((Kd.R_apart' HO_7.out (Kd.R_typed HO_8.out) (by decide))).1 _ rfl).2) hs_))
               have HS1_ := cell_kept (hHeld.2) hkp (by first | (rw [add_block]; exact (fun hs_ => ((((Kd.R_apart' HO_7.out (Kd.R_typed HO_8.out) (by decide))).1 _ rfl).2) hs_)) | (show ¬ _; simp only [add_block]; exact (fun hs_ => ((((Kd.R_apart' HO_7.out (Kd.R_typed HO_8.out) (by decide))).1 _ rfl).2) hs_)) | exact (fun hs_ => ((((Kd.R_apart' HO_7.out (Kd.R_typed HO_8.out) (by decide))).1 _ rfl).2) hs_))
               refine ⟨_, rfl, ?_⟩
               have n0_ := Aside0.mk (Kd.R_mono (ok' := fun k_ => True) (Kd.R_keptB ((Kd.R_apart' HO_7.out (Kd.R_typed HO_8.out) (by decide))) hkp (fun k_ hk_ hs_ => (hk_.2) hs_)) (fun k_ hk_ => trivial))
               have n1_ := Aside0.mk (Kd.R_mono (ok' := fun k_ => True) ho0 (fun k_ hk_ => trivial))
               have n2_ := Aside0.mk (hb)
               clear HO_7
               clear HB
               clear HO_8
               have HO_7 := n0_
               have HO306 := n1_
               have HB := n2_
               clear n0_ n1_ n2_
               (try clear hb)
               (try clear hkp)
               (try clear ho0)
               refine hK.out _ _ ⟨HS0_, HS1_⟩ (fun hHeld => ?_)
               clear hK K
               refine norm_ (a' := ?_) ?_ ?_
               rotate_left
               ·show Act.put _ (some 77) _ = _
                simp only [Act.put, List.setIfInBounds_toArray, List.set_cons_zero, List.set_cons_succ, i64_w, i32_w]
                rfl
               refine pure_ (i := 11) (N := some 8) (v := ?_) (a' := ?_) #[true, true, true, true, true, true, true, true, true, true, true, true] rfl rfl (any_of HT_.out (by kernel_rfl)) (fun _ _ _ h => h) (Or.inl ⟨by rfl, ?_⟩) ?_ ?_
               rotate_left
               ·intro w'
                go_simp
                with_reducible rfl
               rotate_left
               ·exact zP i64_w i32_w
               refine done_ (done_of HT_.out (by kernel_rfl)) ?_
               try go_wp2
               go_roundg kj19
               case measure => have := HK1.out; have := HJ19.out; omega
               case rel => exact ⟨(t304), (ji41), (by first | rfl | (simp; done) | (simp only [← hji41] <;> (first | rfl | simp)) | (simp [*]; done)), H', ⟨by have := HK1.out; have := HJ19.out; omega⟩, ⟨zR HO_7.out⟩, ⟨zR HO306.out⟩, ⟨zB HB⟩⟩
              ·rw [if_neg c43] at H
               exact absurd H (by simp)
             ·rw [if_neg c42] at H
              exact absurd H (by simp)
            ·rw [if_neg c40] at H
             exact absurd H (by simp)
           ·rw [if_neg c39] at H
            exact absurd H (by simp)
          ·replace c38 := Bool.eq_false_iff.mpr c38
           subst c38
           have H1 : (tapearchiveref34_combine.l0 kj19 l0 l1 a2 t292 x8_1 (wrap64 (x9_1 + 1))) = some r := by rw [if_neg (show ¬ (false = true) by decide)] at H; exact H
           clear H
           have H := H1
           clear H1
           have H' := Aside0.mk H
           clear H
           go_wp2
           go_roundg kj19
           case measure => have := HK1.out; have := HJ19.out; omega
           case rel => exact ⟨(x8_1), (wrap64 (x9_1 + 1)), zS, H', ⟨by have := HK1.out; have := HJ19.out; omega⟩, ⟨zR HO_7.out⟩, ⟨zR HO_8.out⟩, ⟨zB HB⟩⟩
       ·rw [if_neg c17] at H
        exact absurd H (by simp)
      ·rw [if_neg c16] at H
       exact absurd H (by simp)
     ·rw [if_neg c15] at H
      have c15b0 : decide ((wrap64 (x9_1 + 1)) < (t292.length : Int)) = false := decide_eq_false c15
      clear c15
      obtain rfl := Option.some.inj H
      obtain ⟨Ao48, co48, eo48⟩ := Kd.R_slice HO_7.out
      subst eo48
      go_wp2
      go_ret
      exact ⟨_, by first | rfl | (simp [errW_none, errW_some] <;> rfl) | (simp [*, errW_none, errW_some] <;> rfl), by (with_reducible repeat (first | apply Kd.R_alloc | apply Kd.R_drewN | apply Kd.R_drew)); exact HO_8.out, by repeat (first | (with_reducible first | exact HB.out | apply below_alloc | apply pw_below_drewN | apply below_drew1) | exact HB.out)⟩
  ·rw [if_neg c5] at H
   exact absurd H (by simp)
 ·rw [if_neg c4] at H
  exact absurd H (by simp)

/-! ### tapearchiveref34_Normal: function 22 -/
def tapearchiveref34_Normal.f (k : Nat) (l0 : List (S30)) : Option ((List (S30))) := (tapearchiveref34_combine.f k l0 ([] : List (S30)) 1).bind fun t307 => (some t307)
theorem tapearchiveref34_Normal.mono : ∀ a0 k, LeO (tapearchiveref34_Normal.f k a0) (tapearchiveref34_Normal.f (k + 1) a0) := by
 intro a0 k
 unfold tapearchiveref34_Normal.f
 repeat' first
   | (with_reducible exact tapearchiveref34_combine.mono _ _ _ _)
   | (with_reducible exact LeO.refl _)
   | (with_reducible exact LeO.none _)
   | (with_reducible refine LeO.ite ?_ ?_)
   | (with_reducible refine LeO.bind ?_ (fun _ => ?_))
   | exact tapearchiveref34_combine.mono _ _ _ _
   | exact LeO.none _
   | refine LeO.ite ?_ ?_
   | refine LeO.bind ?_ (fun _ => ?_)
set_option maxHeartbeats 8000000 in
set_option maxRecDepth 100000 in
theorem tapearchiveref34_Normal.calls (k : Nat) (A0 : Option Addr) (c0 : Nat) (l0 : List (S30)) (r : List (S30)) (w : World) (hr0 : Kd.C k30 w A0 l0.length l0) (hc0 : l0.length ≤ c0) (h : tapearchiveref34_Normal.f k l0 = some r) :
  Calls Try.prog 22 #[.slice A0 l0.length c0] w fun e w' => ∃ v0_ : Value, e = .returned (v0_) ∧ Kd.R k30 30 w' w.heap.size (fun _ => True) v0_ r ∧ Below w.heap.size w w' := by
 have HR0 := Aside0.mk hr0
 have HC0 := Aside0.mk hc0
 clear hr0 hc0
 have HB := Aside0.mk (Below.refl w.heap.size w)
 have H : ((tapearchiveref34_combine.f k l0 ([] : List (S30)) 1).bind fun t307 => (some t307)) = some r := h
 clear h
 replace H := Option.bind_eq_some_iff.mp H
 obtain ⟨t307, A20, H⟩ := H
 replace H : (some t307) = some r := H
 have A2 := Aside0.mk A20
 clear A20
 obtain rfl := Option.some.inj H
 go_enter Try.func22, Try.ntmps22
 go_wp2_with (first | ((with_reducible refine gate_callee (f := 35) rfl ?_); refine goesL_ (some 4) rfl rfl Try.func35 (by kernel_rfl) rfl #[.slice A0 l0.length c0, .slice none 0 0, .int .i64 1] rfl zM ?_; (refine (tapearchiveref34_combine.calls k _ _ l0 _ _ ([] : List (S30)) 1 t307 _ ?side1 ?side2 ?side3 ?side4 A2.out).mono ?_); (case side1 => repeat (first | exact HR0.out | (with_reducible refine Kd.C_alloc ?_ _) | (with_reducible refine Kd.C_drewN ?_ _) | (with_reducible refine Kd.C_drew ?_))); (case side2 => exact HC0.out); (case side3 => exact Kd.C_nil _ _); (case side4 => exact Nat.le_refl _); rintro e w3 ⟨v308, rfl, ho0, hb⟩; refine ⟨_, rfl, ?_⟩; have n0_ := Aside0.mk (Kd.R_lower ho0 (below_size (zB HB))); have n1_ := Aside0.mk (below_step (zB HB) hb); clear HB; have HO309 := n0_; have HB := n1_; clear n0_ n1_; (try clear hb); (try clear hb2); (try clear hk); (try clear hi); (try clear ho0)))
 go_ret
 exact ⟨_, by first | rfl | (simp [errW_none, errW_some] <;> rfl) | (simp [*, errW_none, errW_some] <;> rfl), by (with_reducible repeat (first | apply Kd.R_alloc | apply Kd.R_drewN | apply Kd.R_drew)); exact HO309.out, by repeat (first | (with_reducible first | exact HB.out | apply below_alloc | apply pw_below_drewN | apply below_drew1) | exact HB.out)⟩

end
end Go.Proofs.Ytcckacamocaofaa.P
