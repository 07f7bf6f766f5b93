-- Written by this session's wip/tools/px.py out of the translation. Lean checks it.
import Derived.Test.YtapbmkcncjkanaaP0
import Derived.Test.YtapbmkcncjkanaaP16
import Derived.Test.YtapbmkcncjkanaaP17
import Derived.Test.YtapbmkcncjkanaaP18
namespace Go.Proofs.Ytapbmkcncjkanaa.P
noncomputable section
open Go.RowKit Go.Proofs.YtapbmkcncjkanaaW.PrintWords Go.Proofs.YtapbmkcncjkanaaW.PrintLast Go.Proofs.YtapbmkcncjkanaaW.PrintMore
attribute [local go_sem] max2_int min2_int max_two min_two max_three min_three max_four min_four   -- for this text's walks alone
set_option linter.unusedVariables false
set_option linter.unusedSimpArgs false

/-! ### r34_combine: function 36 -/
mutual
def r34_combine.l0 : Nat → List (S25) → List (S25) → Int → List Int → List (S25) → Int → Option ((List (S25)))
 | 0, _, _, _, _, _, _ => none
 | k + 1, x0, x1, x2, x7, x8, x9 => if (wrap64 (x9 + 1)) < (x7.length : Int) then (if 0 ≤ x9 then (if x9 < (x7.length : Int) then ((r34_In.f k x0 (rd x7 x9)).bind fun t414 => ((r34_In.f k x1 (rd x7 x9)).bind fun t416 => (if x2 = 1 then (if t414 = true then (r34_combine.j1 k x0 x1 x2 x7 x8 x9 true) else (if t416 = true then (r34_combine.j1 k x0 x1 x2 x7 x8 x9 true) else (if x2 = 2 then (if x2 = 3 then (r34_combine.j1 k x0 x1 x2 x7 x8 x9 false) else (r34_combine.j1 k x0 x1 x2 x7 x8 x9 false)) else (if x2 = 3 then (r34_combine.j1 k x0 x1 x2 x7 x8 x9 false) else (r34_combine.j1 k x0 x1 x2 x7 x8 x9 false))))) else (if x2 = 2 then (if t414 = true then (if t416 = true then (r34_combine.j1 k x0 x1 x2 x7 x8 x9 true) else (if x2 = 3 then (r34_combine.j1 k x0 x1 x2 x7 x8 x9 (!t416)) else (r34_combine.j1 k x0 x1 x2 x7 x8 x9 false))) else (if x2 = 3 then (r34_combine.j1 k x0 x1 x2 x7 x8 x9 false) else (r34_combine.j1 k x0 x1 x2 x7 x8 x9 false))) else (if x2 = 3 then (if t414 = true then (r34_combine.j1 k x0 x1 x2 x7 x8 x9 (!t416)) else (r34_combine.j1 k x0 x1 x2 x7 x8 x9 false)) else (r34_combine.j1 k x0 x1 x2 x7 x8 x9 false)))))) else (none)) else (none)) else (some x8)
def r34_combine.j1 : Nat → List (S25) → List (S25) → Int → List Int → List (S25) → Int → Bool → Option ((List (S25)))
 | 0, _, _, _, _, _, _, _ => none
 | k + 1, x0, x1, x2, x7, x8, x9, x66 => if x66 = true then (if 0 ≤ x9 then (if x9 < (x7.length : Int) then (if 0 ≤ (wrap64 (x9 + 1)) then (if (wrap64 (x9 + 1)) < (x7.length : Int) then ((r34_add.f k x8 (rd x7 x9) (rd x7 (wrap64 (x9 + 1)))).bind fun t419 => (r34_combine.l0 k x0 x1 x2 x7 t419 (wrap64 (x9 + 1)))) else (none)) else (none)) else (none)) else (none)) else (r34_combine.l0 k x0 x1 x2 x7 x8 (wrap64 (x9 + 1)))
end
def r34_combine.f (k : Nat) (l0 : List (S25)) (l1 : List (S25)) (a2 : Int) : Option ((List (S25))) := (some (([] : List (S25)) : List (S25))).bind fun y398 => (if y398.length + l0.length < 8796093022208 then ((some (y398 ++ l0 : List (S25))).bind fun y401 => (if y401.length + l1.length < 8796093022208 then ((r34_edges.f k (y401 ++ l1)).bind fun t407 => (r34_combine.l0 k l0 l1 a2 t407 (([] : List (S25))) 0)) else (none))) else (none))
theorem r34_combine.mono_l : ∀ k, (∀ y0 y1 y2 y3 y4 y5, LeO (r34_combine.l0 k y0 y1 y2 y3 y4 y5) (r34_combine.l0 (k + 1) y0 y1 y2 y3 y4 y5)) ∧ (∀ y0 y1 y2 y3 y4 y5 y6, LeO (r34_combine.j1 k y0 y1 y2 y3 y4 y5 y6) (r34_combine.j1 (k + 1) y0 y1 y2 y3 y4 y5 y6))
 | 0 => ⟨fun _ _ _ _ _ _ r h => by simp [r34_combine.l0] at h, fun _ _ _ _ _ _ _ r h => by simp [r34_combine.j1] at h⟩
 | k + 1 => by
  obtain ⟨ih0, ih1⟩ := r34_combine.mono_l k
  refine ⟨?_, ?_⟩
  ·intro y0 y1 y2 y3 y4 y5
   unfold r34_combine.l0
   repeat' first
   | (with_reducible exact ih0 _ _ _ _ _ _)
   | (with_reducible exact ih1 _ _ _ _ _ _ _)
   | (with_reducible exact r34_In.mono _ _ _)
   | (with_reducible exact r34_add.mono _ _ _ _)
   | (with_reducible exact r34_edges.mono _ _)
   | (with_reducible exact LeO.refl _)
   | (with_reducible exact LeO.none _)
   | (with_reducible refine LeO.ite ?_ ?_)
   | (with_reducible refine LeO.bind ?_ (fun _ => ?_))
   | exact ih0 _ _ _ _ _ _
   | exact ih1 _ _ _ _ _ _ _
   | exact r34_In.mono _ _ _
   | exact r34_add.mono _ _ _ _
   | exact r34_edges.mono _ _
   | exact LeO.none _
   | refine LeO.ite ?_ ?_
   | refine LeO.bind ?_ (fun _ => ?_)
  ·intro y0 y1 y2 y3 y4 y5 y6
   unfold r34_combine.j1
   repeat' first
   | (with_reducible exact ih0 _ _ _ _ _ _)
   | (with_reducible exact ih1 _ _ _ _ _ _ _)
   | (with_reducible exact r34_In.mono _ _ _)
   | (with_reducible exact r34_add.mono _ _ _ _)
   | (with_reducible exact r34_edges.mono _ _)
   | (with_reducible exact LeO.refl _)
   | (with_reducible exact LeO.none _)
   | (with_reducible refine LeO.ite ?_ ?_)
   | (with_reducible refine LeO.bind ?_ (fun _ => ?_))
   | exact ih0 _ _ _ _ _ _
   | exact ih1 _ _ _ _ _ _ _
   | exact r34_In.mono _ _ _
   | exact r34_add.mono _ _ _ _
   | exact r34_edges.mono _ _
   | exact LeO.none _
   | refine LeO.ite ?_ ?_
   | refine LeO.bind ?_ (fun _ => ?_)
theorem r34_combine.mono : ∀ a0 a1 a2 k, LeO (r34_combine.f k a0 a1 a2) (r34_combine.f (k + 1) a0 a1 a2) := by
 intro a0 a1 a2 k
 obtain ⟨ih0, ih1⟩ := r34_combine.mono_l k
 unfold r34_combine.f
 repeat' first
   | (with_reducible exact ih0 _ _ _ _ _ _)
   | (with_reducible exact ih1 _ _ _ _ _ _ _)
   | (with_reducible exact r34_In.mono _ _ _)
   | (with_reducible exact r34_add.mono _ _ _ _)
   | (with_reducible exact r34_edges.mono _ _)
   | (with_reducible exact LeO.refl _)
   | (with_reducible exact LeO.none _)
   | (with_reducible refine LeO.ite ?_ ?_)
   | (with_reducible refine LeO.bind ?_ (fun _ => ?_))
   | exact ih0 _ _ _ _ _ _
   | exact ih1 _ _ _ _ _ _ _
   | exact r34_In.mono _ _ _
   | exact r34_add.mono _ _ _ _
   | exact r34_edges.mono _ _
   | exact LeO.none _
   | refine LeO.ite ?_ ?_
   | refine LeO.bind ?_ (fun _ => ?_)
def r34_combine.T6 : Bool × List (List Nat × List Nat) := (true, [([], []), ([], []), ([], []), ([1, 2], [1, 2]), ([3], [3]), ([0, 4], [0, 4]), ([], []), ([], []), ([], []), ([7, 8], [7, 8]), ([9], [9]), ([6, 10, 5], [6, 10]), ([5, 11, 0, 1, 2, 3, 4, 5], [5]), ([11, 12, 0, 1, 2, 3, 4, 5, 6, 7, 8, 9, 10, 11, 12], [11])])
def r34_combine.B6 : List Nat := [0, 0, 0, 6, 14, 31, 0, 0, 0, 384, 896, 2047, 4095, 8191]
theorem r34_combine.tab6 : rtab .any (opsOf Try.f36 6) = r34_combine.T6 := by kernel_rfl
theorem r34_combine.bits6 : waitsOk r34_combine.T6.2 r34_combine.B6 = true := by kernel_rfl
def r34_combine.T8 : Bool × List (List Nat × List Nat) := (true, [([], []), ([], []), ([], []), ([1, 2], [1, 2]), ([3], [3]), ([], []), ([], []), ([6], [6]), ([5, 7], [5, 7]), ([8], [8]), ([0, 4, 9], [0, 4, 9]), ([10, 10, 0, 1, 2, 3, 4, 5, 6, 7, 8, 9, 10], [0, 10])])
def r34_combine.B8 : List Nat := [0, 0, 0, 6, 14, 0, 0, 64, 224, 480, 1023, 2047]
theorem r34_combine.tab8 : rtab .any (opsOf Try.f36 8) = r34_combine.T8 := by kernel_rfl
theorem r34_combine.bits8 : waitsOk r34_combine.T8.2 r34_combine.B8 = true := by kernel_rfl
set_option maxHeartbeats 8000000 in
set_option maxRecDepth 100000 in
theorem r34_combine.calls (k : Nat) (A0 : Option Addr) (c0 : Nat) (l0 : List (S25)) (A1 : Option Addr) (c1 : Nat) (l1 : List (S25)) (a2 : Int) (r : List (S25)) (w : World) (hr0 : Kd.C k25 w A0 l0.length l0) (hc0 : l0.length ≤ c0) (hr1 : Kd.C k25 w A1 l1.length l1) (hc1 : l1.length ≤ c1) (h : r34_combine.f k l0 l1 a2 = some r) :
  Calls Try.prog 36 #[.slice A0 l0.length c0, .slice A1 l1.length c1, .int .i64 a2] w fun e w' => ∃ v0_ : Value, e = .returned (v0_) ∧ Kd.R k25 25 w' w.heap.size (fun _ => True) v0_ r ∧ Below w.heap.size w w' := by
 have HR0 := am hr0
 have HC0 := am hc0
 clear hr0 hc0
 have HR1 := am hr1
 have HC1 := am hc1
 clear hr1 hc1
 have HB := am (Below.refl w.heap.size w)
 have H : ((some (([] : List (S25)) : List (S25))).bind fun y398 => (if y398.length + l0.length < 8796093022208 then ((some (y398 ++ l0 : List (S25))).bind fun y401 => (if y401.length + l1.length < 8796093022208 then ((r34_edges.f k (y401 ++ l1)).bind fun t407 => (r34_combine.l0 k l0 l1 a2 t407 (([] : List (S25))) 0)) else (none))) else (none))) = some r := h
 clear h
 obtain ⟨y398, hy398⟩ : ∃ y_ : List (S25), y_ = (([] : List (S25))) := ⟨_, rfl⟩
 replace H : (if y398.length + l0.length < 8796093022208 then ((some (y398 ++ l0 : List (S25))).bind fun y401 => (if y401.length + l1.length < 8796093022208 then ((r34_edges.f k (y401 ++ l1)).bind fun t407 => (r34_combine.l0 k l0 l1 a2 t407 (([] : List (S25))) 0)) else (none))) else (none)) = some r := by first | (rw [hy398]; with_reducible exact H) | (have H2_ := (Option.bind_some _ _).symm.trans H; rw [hy398]; with_reducible exact H2_) | (have H2_ := (Option.bind_some _ _).symm.trans H; with_reducible exact H2_) | with_reducible exact H | (rw [hy398]; exact H) | exact H
 have Ny398 := am hy398
 clear hy398
 by_cases c4 : y398.length + l0.length < 8796093022208
 ·rw [if_pos c4] at H
  have LMc4 := am c4
  clear c4
  obtain ⟨y401, hy401⟩ : ∃ y_ : List (S25), y_ = (y398 ++ l0) := ⟨_, rfl⟩
  replace H : (if y401.length + l1.length < 8796093022208 then ((r34_edges.f k (y401 ++ l1)).bind fun t407 => (r34_combine.l0 k l0 l1 a2 t407 (([] : List (S25))) 0)) else (none)) = some r := by first | (rw [hy401]; with_reducible exact H) | (have H2_ := (Option.bind_some _ _).symm.trans H; rw [hy401]; with_reducible exact H2_) | (have H2_ := (Option.bind_some _ _).symm.trans H; with_reducible exact H2_) | with_reducible exact H | (rw [hy401]; exact H) | exact H
  have Ny401 := am hy401
  clear hy401
  by_cases c5 : y401.length + l1.length < 8796093022208
  ·rw [if_pos c5] at H
   have LMc5 := am c5
   clear c5
   obtain ⟨y404, hy404⟩ : ∃ y_ : List (S25), y_ = (y401 ++ l1) := ⟨_, rfl⟩
   replace H : ((r34_edges.f k y404).bind fun t407 => (r34_combine.l0 k l0 l1 a2 t407 (([] : List (S25))) 0)) = some r := by first | (rw [hy404]; with_reducible exact H) | (have H2_ := (Option.bind_some _ _).symm.trans H; rw [hy404]; with_reducible exact H2_) | (have H2_ := (Option.bind_some _ _).symm.trans H; with_reducible exact H2_) | with_reducible exact H | (rw [hy404]; exact H) | exact H
   have Ny404 := am hy404
   clear hy404
   replace H := Option.bind_eq_some_iff.mp H
   obtain ⟨t407, A60, H⟩ := H
   replace H : (r34_combine.l0 k l0 l1 a2 t407 (([] : List (S25))) 0) = some r := H
   have A6 := am A60
   clear A60
   obtain ⟨y410, hy410⟩ : ∃ y_ : List (S25), y_ = (([] : List (S25))) := ⟨_, rfl⟩
   replace H : (r34_combine.l0 k l0 l1 a2 t407 y410 0) = some r := by first | (rw [hy410]; with_reducible exact H) | (have H2_ := (Option.bind_some _ _).symm.trans H; rw [hy410]; with_reducible exact H2_) | (have H2_ := (Option.bind_some _ _).symm.trans H; with_reducible exact H2_) | with_reducible exact H | (rw [hy410]; exact H) | exact H
   have Ny410 := am hy410
   clear hy410
   have H' := am H
   clear H
   go_enter Try.func36, Try.ntmps36
   go_wp2_with (first | ((with_reducible refine gate_dst (N := 12) rfl ?_); refine Kd.R_lit k25 _ 25 ?hg (N := 12) ?hd (xs := ([] : List (S25))) (inner := []) (ok := fun _ => True) (okp := fun _ => True) ?hr ?hp (fun _ hk => hk) trivial (Below.refl _ _) (Nat.le_refl _) (by simp) ?_; (case hd => rfl); (case hg => rfl); (case hr => first | (go_simp; done) | (go_simp; rfl)); (case hp => exact (Reps.none _ _)); intro v399 w7 ho8 hb hg_ hnew_; clear hg_ hnew_; (first | rw [← Ny398.out] at ho8 | (simp only [Int.reduceToNat] at ho8; rw [← Ny398.out] at ho8)); have n0_ := am (Kd.R_lower ho8 (below_size (zB HB))); have n1_ := am (below_step (zB HB) hb); clear HB; have HO400 := n0_; have HB := n1_; clear n0_ n1_; clear hb ho8) | ((with_reducible refine gate_builtin (b := .append) (xs := #[.tmp 12, .tmp 13]) rfl ?_); at_builtin; refine Kd.R_append_rows k25 (w0 := w) w.heap.size rfl (.tmp 12) (.tmp 13) 38 25 (.agg #[(.int .i64 0), (.int .i64 0)]) 16 rfl Try.underlying38 info25 rfl (by decide) (by omega) v399 y398 l0 _ _ _ (fun _ => True) (fun _ => False) rfl rfl ?aO ?aR (fun _ _ h => h) (fun _ h => h.elim) ?aF ?aB ?aS ?aL ?_; (case aR => exact zC (Kd.C_below HR0.out HB.out)); (case aB => exact (zB HB)); (case aF => exact (fun _ _ => trivial)); (case aO => exact (zR HO400.out)); (case aS => exact (below_size (zB HB))); (case aL => have := LMc4.out; omega); intro v402 w9 ho hb hg hat; rw [← Ny401.out] at ho; have n0_ := am (hb); have n1_ := am (ho); clear HB; clear HO400; have HB := n0_; have HO403 := n1_; clear n0_ n1_; clear ho hb hg hat) | ((with_reducible refine gate_builtin (b := .append) (xs := #[.tmp 14, .tmp 15]) rfl ?_); at_builtin; refine Kd.R_append_rows k25 (w0 := w) w.heap.size rfl (.tmp 14) (.tmp 15) 38 25 (.agg #[(.int .i64 0), (.int .i64 0)]) 16 rfl Try.underlying38 info25 rfl (by decide) (by omega) v402 y401 l1 _ _ _ (fun _ => True) (fun _ => False) rfl rfl ?aO ?aR (fun _ _ h => h) (fun _ h => h.elim) ?aF ?aB ?aS ?aL ?_; (case aR => exact zC (Kd.C_below HR1.out HB.out)); (case aB => exact (zB HB)); (case aF => exact (fun _ _ => trivial)); (case aO => exact (zR HO403.out)); (case aS => exact (below_size (zB HB))); (case aL => have := LMc5.out; omega); intro v405 w10 ho hb hg hat; rw [← Ny404.out] at ho; have n0_ := am (hb); have n1_ := am (ho); clear HB; clear HO403; have HB := n0_; have HO406 := n1_; clear n0_ n1_; clear ho hb hg hat; obtain ⟨Ao11, co11, eo11⟩ := Kd.R_slice HO406.out; subst eo11) | ((with_reducible refine gate_callee (f := 43) rfl ?_); refine goesL_ (some 17) rfl rfl Try.func43 (by kernel_rfl) rfl #[.slice Ao11 y404.length co11] rfl zM ?_; (with_reducible refine (r34_edges.calls k _ _ y404 t407 _ ?side1 ?side2 A6.out).mono ?_); (case side1 => exact zC (Kd.R_reads' HO406.out).2.2); (case side2 => exact (Kd.R_reads' HO406.out).2.1); rintro e w12 ⟨v408, rfl, ho0, hb⟩; refine ⟨_, rfl, ?_⟩; have n0_ := am (Kd.R_below (zR HO406.out) hb); have n1_ := am (Kd.R_lower ho0 (below_size (zB HB))); have n2_ := am (below_step (zB HB) hb); clear HO406; clear HB; have HO406 := n0_; have HO409 := n1_; have HB := n2_; clear n0_ n1_ n2_; (try clear hb); (try clear hb2); (try clear hk); (try clear hi); (try clear ho0)) | ((with_reducible refine gate_dst (N := 18) rfl ?_); refine Kd.R_lit k25 _ 25 ?hg (N := 18) ?hd (xs := ([] : List (S25))) (inner := []) (ok := fun _ => True) (okp := fun _ => True) ?hr ?hp (fun _ hk => hk) trivial (Below.refl _ _) (Nat.le_refl _) (by simp) ?_; (case hd => rfl); (case hg => rfl); (case hr => first | (go_simp; done) | (go_simp; rfl)); (case hp => exact (Reps.none _ _)); intro v411 w13 ho14 hb hg_ hnew_; clear hg_ hnew_; (first | rw [← Ny410.out] at ho14 | (simp only [Int.reduceToNat] at ho14; rw [← Ny410.out] at ho14)); have n0_ := am (Kd.R_elder' (zR HO406.out) (Kd.R_base ho14) hb); have n1_ := am (Kd.R_below (zR HO409.out) hb); have n2_ := am (Kd.R_lower (Kd.R_new' ho14 (Kd.R_lt (zR HO406.out))) (below_size (zB HB))); have n3_ := am (below_step (zB HB) hb); clear HO406; clear HO409; clear HB; have HO406 := n0_; have HO409 := n1_; have HO412 := n2_; have HB := n3_; clear n0_ n1_ n2_ n3_; clear hb ho14))
   go_loopg [8, 9] k (fun kq v8 v9 w' => ∃ (x8_1 : List (S25)) (x9_1 : Int), v9 = .int .i64 x9_1 ∧ Aside0 (r34_combine.l0 kq l0 l1 a2 t407 x8_1 x9_1 = some r) ∧ Aside0 (kq ≤ k) ∧ Aside0 (Kd.R (Kd.int .i64) 3 w' w.heap.size (fun _ => True) v408 t407) ∧ Aside0 (Kd.R k25 25 w' w.heap.size (fun _ => True) v8 x8_1) ∧ Aside0 (Below w.heap.size w w'))
   case atStart => exact ⟨(y410), (0), zS, H', ⟨Nat.le_refl _⟩, ⟨zR HO409.out⟩, ⟨by refine zR ?_; exact Kd.R_mono HO412.out (fun _ hk => trivial)⟩, ⟨zB HB⟩⟩
   case round =>
    clear H'
    try clear c1
    try clear p2
    try clear c3
    try clear c4
    try clear c5
    obtain ⟨x8_1, x9_1, rfl, HA, HK1, HO_7, HO_8, HB⟩ := hrel
    cases gk with
    | zero => exact absurd HA.out (by simp [r34_combine.l0])
    | succ k1 =>
     have H := HA.out
     clear HA
     simp only [r34_combine.l0] at H
     by_cases c15 : (wrap64 (x9_1 + 1)) < (t407.length : Int)
     ·rw [if_pos c15] at H
      have c15b0 : decide ((wrap64 (x9_1 + 1)) < (t407.length : Int)) = true := decide_eq_true c15
      clear c15
      by_cases c16 : 0 ≤ x9_1
      ·rw [if_pos c16] at H
       have c16b0 : decide (0 ≤ x9_1) = true := decide_eq_true c16
       clear c16
       by_cases c17 : x9_1 < (t407.length : Int)
       ·rw [if_pos c17] at H
        have c17b0 : decide (x9_1 < (t407.length : Int)) = true := decide_eq_true c17
        clear c17
        replace H := Option.bind_eq_some_iff.mp H
        obtain ⟨t414, A180, H⟩ := H
        replace H : ((r34_In.f k1 l1 (rd t407 x9_1)).bind fun t416 => (if a2 = 1 then (if t414 = true then (r34_combine.j1 k1 l0 l1 a2 t407 x8_1 x9_1 true) else (if t416 = true then (r34_combine.j1 k1 l0 l1 a2 t407 x8_1 x9_1 true) else (if a2 = 2 then (if a2 = 3 then (r34_combine.j1 k1 l0 l1 a2 t407 x8_1 x9_1 false) else (r34_combine.j1 k1 l0 l1 a2 t407 x8_1 x9_1 false)) else (if a2 = 3 then (r34_combine.j1 k1 l0 l1 a2 t407 x8_1 x9_1 false) else (r34_combine.j1 k1 l0 l1 a2 t407 x8_1 x9_1 false))))) else (if a2 = 2 then (if t414 = true then (if t416 = true then (r34_combine.j1 k1 l0 l1 a2 t407 x8_1 x9_1 true) else (if a2 = 3 then (r34_combine.j1 k1 l0 l1 a2 t407 x8_1 x9_1 (!t416)) else (r34_combine.j1 k1 l0 l1 a2 t407 x8_1 x9_1 false))) else (if a2 = 3 then (r34_combine.j1 k1 l0 l1 a2 t407 x8_1 x9_1 false) else (r34_combine.j1 k1 l0 l1 a2 t407 x8_1 x9_1 false))) else (if a2 = 3 then (if t414 = true then (r34_combine.j1 k1 l0 l1 a2 t407 x8_1 x9_1 (!t416)) else (r34_combine.j1 k1 l0 l1 a2 t407 x8_1 x9_1 false)) else (r34_combine.j1 k1 l0 l1 a2 t407 x8_1 x9_1 false))))) = some r := H
        have A18 := am A180
        clear A180
        replace H := Option.bind_eq_some_iff.mp H
        obtain ⟨t416, A190, H⟩ := H
        replace H : (if a2 = 1 then (if t414 = true then (r34_combine.j1 k1 l0 l1 a2 t407 x8_1 x9_1 true) else (if t416 = true then (r34_combine.j1 k1 l0 l1 a2 t407 x8_1 x9_1 true) else (if a2 = 2 then (if a2 = 3 then (r34_combine.j1 k1 l0 l1 a2 t407 x8_1 x9_1 false) else (r34_combine.j1 k1 l0 l1 a2 t407 x8_1 x9_1 false)) else (if a2 = 3 then (r34_combine.j1 k1 l0 l1 a2 t407 x8_1 x9_1 false) else (r34_combine.j1 k1 l0 l1 a2 t407 x8_1 x9_1 false))))) else (if a2 = 2 then (if t414 = true then (if t416 = true then (r34_combine.j1 k1 l0 l1 a2 t407 x8_1 x9_1 true) else (if a2 = 3 then (r34_combine.j1 k1 l0 l1 a2 t407 x8_1 x9_1 (!t416)) else (r34_combine.j1 k1 l0 l1 a2 t407 x8_1 x9_1 false))) else (if a2 = 3 then (r34_combine.j1 k1 l0 l1 a2 t407 x8_1 x9_1 false) else (r34_combine.j1 k1 l0 l1 a2 t407 x8_1 x9_1 false))) else (if a2 = 3 then (if t414 = true then (r34_combine.j1 k1 l0 l1 a2 t407 x8_1 x9_1 (!t416)) else (r34_combine.j1 k1 l0 l1 a2 t407 x8_1 x9_1 false)) else (r34_combine.j1 k1 l0 l1 a2 t407 x8_1 x9_1 false)))) = some r := H
        have A19 := am A190
        clear A190
        have HC20 := am H
        clear H
        obtain ⟨Ao21, co21, eo21⟩ := Kd.R_slice HO_7.out
        subst eo21
        try go_wp2
        have n0_ := am (Kd.R_drew HO_7.out)
        have n1_ := am (Kd.R_drew HO_8.out)
        have n2_ := am (below_drew1 HB.out)
        clear HO_7
        clear HO_8
        clear HB
        have HO_7 := n0_
        have HO_8 := n1_
        have HB := n2_
        clear n0_ n1_ n2_
        have p413 : 0 ≤ (x9_1 : Int) := of_decide_eq_true zA
        have q413 : x9_1 < (t407.length : Int) := of_decide_eq_true zA
        obtain ⟨ad413, e413, hx413_0⟩ := Kd.at_int (Kd.R_reads' HO_7.out).2.2 x9_1 p413 q413
        cases e413
        replace p413 := eq_true p413
        replace q413 := eq_true q413
        have p415 : 0 ≤ (x9_1 : Int) := of_decide_eq_true zA
        have q415 : x9_1 < (t407.length : Int) := of_decide_eq_true zA
        obtain ⟨ad415, e415, hx415_0⟩ := Kd.at_int (Kd.R_reads' HO_7.out).2.2 x9_1 p415 q415
        obtain rfl : ad413 = ad415 := (by injection e415)
        replace p415 := eq_true p415
        replace q415 := eq_true q415
        refine start_ (n := 14) (S := fun w' => w'.cell? (ad413.add (x9_1).toNat) = some (.int .i64 (rd t407 x9_1)) ∧ w'.cell? (ad413.add (x9_1).toNat) = some (.int .i64 (rd t407 x9_1))) (ds := []) #[F,F,F,F,F,F,F,F,F,F,F,F,F,F] (by kernel_rfl) rfl rfl ⟨hx413_0, hx415_0⟩ (fun hHeld => ?_); refine with_tabW r34_combine.tab6 r34_combine.bits6 (fun HT_ HW_ => ?_)
        generalize wr.drew = w22 at HO_7 HO_8 HB hx413_0 hx415_0 hHeld ⊢
        refine pure_ (i := 0) (N := some 26) (v := ?_) (a' := ?_) #[T,F,F,F,F,F,F,F,F,F,F,F,F,F] rfl rfl (zO HT_) (fun _ _ _ h => h) (Or.inl ⟨by rfl, ?_⟩) ?_ ?_
        rotate_left
        ·intro w'
         go_simp
         with_reducible rfl
        rotate_left
        ·exact zP i64_w i32_w
        refine pure_ (i := 1) (N := some 27) (v := ?_) (a' := ?_) #[T,T,F,F,F,F,F,F,F,F,F,F,F,F] rfl rfl (zO HT_) (fun _ _ _ h => h) (Or.inl ⟨by rfl, ?_⟩) ?_ ?_
        rotate_left
        ·intro w'
         go_simp
         with_reducible rfl
        rotate_left
        ·exact zP i64_w i32_w
        refine pure_ (i := 2) (N := some 28) (v := ?_) (a' := ?_) #[T,T,T,F,F,F,F,F,F,F,F,F,F,F] rfl rfl (zO HT_) (fun _ _ _ h => h) (Or.inl ⟨by rfl, ?_⟩) ?_ ?_
        rotate_left
        ·intro w'
         go_simp
         with_reducible rfl
        rotate_left
        ·exact zP i64_w i32_w
        refine pure_ (i := 3) (N := some 29) (v := ?_) (a' := ?_) #[T,T,T,T,F,F,F,F,F,F,F,F,F,F] rfl rfl (zO HT_) (fun _ _ _ h => h) (Or.inl ⟨by rfl, ?_⟩) ?_ ?_
        rotate_left
        ·intro w'
         go_simp
         with_reducible rfl
        rotate_left
        ·exact zP i64_w i32_w
        refine pure_ (i := 6) (N := some 32) (v := ?_) (a' := ?_) #[T,T,T,T,F,F,T,F,F,F,F,F,F,F] rfl rfl (zO HT_) (fun _ _ _ h => h) (Or.inl ⟨by rfl, ?_⟩) ?_ ?_
        rotate_left
        ·intro w'
         go_simp
         with_reducible rfl
        rotate_left
        ·exact zP i64_w i32_w
        refine pure_ (i := 7) (N := some 33) (v := ?_) (a' := ?_) #[T,T,T,T,F,F,T,T,F,F,F,F,F,F] rfl rfl (zO HT_) (fun _ _ _ h => h) (Or.inl ⟨by rfl, ?_⟩) ?_ ?_
        rotate_left
        ·intro w'
         go_simp
         with_reducible rfl
        rotate_left
        ·exact zP i64_w i32_w
        refine pure_ (i := 8) (N := some 34) (v := ?_) (a' := ?_) #[T,T,T,T,F,F,T,T,T,F,F,F,F,F] rfl rfl (zO HT_) (fun _ _ _ h => h) (Or.inl ⟨by rfl, ?_⟩) ?_ ?_
        rotate_left
        ·intro w'
         go_simp
         with_reducible rfl
        rotate_left
        ·exact zP i64_w i32_w
        refine pure_ (i := 9) (N := some 35) (v := ?_) (a' := ?_) #[T,T,T,T,F,F,T,T,T,T,F,F,F,F] rfl rfl (zO HT_) (fun _ _ _ h => h) (Or.inl ⟨by rfl, ?_⟩) ?_ ?_
        rotate_left
        ·intro w'
         go_simp
         with_reducible rfl
        rotate_left
        ·exact zP i64_w i32_w
        refine take_ (i := 4) (N := some 30) (v := ?_) (a' := ?_) #[T,T,T,T,T,F,T,T,T,T,F,F,F,F] rfl rfl (take_ofW HT_.out HW_.out (by kernel_rfl)) (fun _ _ _ h => h) (Or.inl ⟨by rfl, ?_⟩) hHeld ?_ ?_
        rotate_left
        ·rintro w' ⟨s0, s1⟩
         go_simp
         with_reducible rfl
        rotate_left
        ·exact zP i64_w i32_w
        refine take_ (i := 10) (N := some 36) (v := ?_) (a' := ?_) #[T,T,T,T,T,F,T,T,T,T,T,F,F,F] rfl rfl (take_ofW HT_.out HW_.out (by kernel_rfl)) (fun _ _ _ h => h) (Or.inl ⟨by rfl, ?_⟩) hHeld ?_ ?_
        rotate_left
        ·rintro w' ⟨s0, s1⟩
         go_simp
         with_reducible rfl
        rotate_left
        ·exact zP i64_w i32_w
        refine one_ (i := 5) (N := some 31) #[T,T,T,T,T,T,T,T,T,T,T,F,F,F] rfl rfl (one_of HT_.out (by kernel_rfl)) (by decide) (fun K hK => ?_)
        refine goes_ Try.func44 (by kernel_rfl) rfl #[.slice A0 l0.length c0, .int .i64 (rd t407 x9_1)] (by rfl) rfl rfl zM ?_
        with_reducible refine (r34_In.calls k1 _ _ l0 (rd t407 x9_1) t414 _ ?side1 ?side2 A18.out).mono ?_
        (case side1 => exact zC (Kd.C_below HR0.out HB.out))
        (case side2 => exact HC0.out)
        rintro e w23 ⟨rfl, hb⟩
        have HS0_ := (hb.cell (World.block_lt_of_cell? _ _ (hHeld.1))).trans (hHeld.1)
        have HS1_ := (hb.cell (World.block_lt_of_cell? _ _ (hHeld.2))).trans (hHeld.2)
        refine ⟨_, rfl, ?_⟩
        have n0_ := am (Kd.R_below (zR HO_7.out) hb)
        have n1_ := am (Kd.R_below (zR HO_8.out) hb)
        have n2_ := am (below_step (zB HB) hb)
        clear HO_7
        clear HO_8
        clear HB
        have HO_7 := n0_
        have HO_8 := n1_
        have HB := n2_
        clear n0_ n1_ n2_
        (try clear hb)
        (try clear hb2)
        (try clear hk)
        (try clear hi)
        refine hK.out _ _ ⟨HS0_, HS1_⟩ (fun hHeld => ?_)
        clear hK K
        refine norm_ (a' := ?_) ?_ ?_
        rotate_left
        ·show Act.put _ (some 31) _ = _
         simp only [Act.put, List.setIfInBounds_toArray, List.set_cons_zero, List.set_cons_succ, i64_w, i32_w]
         rfl
        refine one_ (i := 11) (N := some 37) #[T,T,T,T,T,T,T,T,T,T,T,T,F,F] rfl rfl (one_of HT_.out (by kernel_rfl)) (by decide) (fun K hK => ?_)
        refine goes_ Try.func44 (by kernel_rfl) rfl #[.slice A1 l1.length c1, .int .i64 (rd t407 x9_1)] (by rfl) rfl rfl zM ?_
        with_reducible refine (r34_In.calls k1 _ _ l1 (rd t407 x9_1) t416 _ ?side1 ?side2 A19.out).mono ?_
        (case side1 => exact zC (Kd.C_below HR1.out HB.out))
        (case side2 => exact HC1.out)
        rintro e w24 ⟨rfl, hb⟩
        have HS0_ := (hb.cell (World.block_lt_of_cell? _ _ (hHeld.1))).trans (hHeld.1)
        have HS1_ := (hb.cell (World.block_lt_of_cell? _ _ (hHeld.2))).trans (hHeld.2)
        refine ⟨_, rfl, ?_⟩
        have n0_ := am (Kd.R_below (zR HO_7.out) hb)
        have n1_ := am (Kd.R_below (zR HO_8.out) hb)
        have n2_ := am (below_step (zB HB) hb)
        clear HO_7
        clear HO_8
        clear HB
        have HO_7 := n0_
        have HO_8 := n1_
        have HB := n2_
        clear n0_ n1_ n2_
        (try clear hb)
        (try clear hb2)
        (try clear hk)
        (try clear hi)
        refine hK.out _ _ ⟨HS0_, HS1_⟩ (fun hHeld => ?_)
        clear hK K
        refine norm_ (a' := ?_) ?_ ?_
        rotate_left
        ·show Act.put _ (some 37) _ = _
         simp only [Act.put, List.setIfInBounds_toArray, List.set_cons_zero, List.set_cons_succ, i64_w, i32_w]
         rfl
        refine pure_ (i := 12) (N := some 10) (v := ?_) (a' := ?_) #[T,T,T,T,T,T,T,T,T,T,T,T,T,F] rfl rfl (zO HT_) (fun _ _ _ h => h) (Or.inl ⟨by rfl, ?_⟩) ?_ ?_
        rotate_left
        ·intro w'
         go_simp
         with_reducible rfl
        rotate_left
        ·exact zP i64_w i32_w
        refine pure_ (i := 13) (N := some 11) (v := ?_) (a' := ?_) #[T,T,T,T,T,T,T,T,T,T,T,T,T,T] rfl rfl (zO HT_) (fun _ _ _ h => h) (Or.inl ⟨by rfl, ?_⟩) ?_ ?_
        rotate_left
        ·intro w'
         go_simp
         with_reducible rfl
        rotate_left
        ·exact zP i64_w i32_w
        refine done_ (done_of HT_.out (by kernel_rfl)) ?_
        go_upto_region 7 with (fail)
        go_cut [66] (fun v66 wc => ∃ (kq : Nat) (x66_19 : Bool), v66 = .bool x66_19 ∧ Aside0 (r34_combine.j1 kq l0 l1 a2 t407 x8_1 x9_1 x66_19 = some r) ∧ Aside0 (kq ≤ k1) ∧ Aside0 (Kd.R (Kd.int .i64) 3 wc w.heap.size (fun _ => True) (.slice (some ad413) t407.length co21) t407) ∧ Aside0 (Kd.R k25 25 wc w.heap.size (fun _ => True) u8 x8_1) ∧ Aside0 (Below w.heap.size w wc))
        case first =>
         have H := HC20.out
         clear HC20
         by_cases c25 : a2 = 1
         ·rw [if_pos c25] at H
          have c25b0 : (a2 == 1) = true := beq_iff_eq.mpr c25
          have c25b1 : (a2 != 1) = false := bne_eq_false_iff_eq.mpr c25
          clear c25
          (first | rw [c25b0] | (simp only [i64_w, i32_w]; rw [c25b0]) | skip)
          by_cases c26 : t414 = true
          ·subst c26
           have H1 : (r34_combine.j1 k1 l0 l1 a2 t407 x8_1 x9_1 true) = some r := by rw [if_pos rfl] at H; exact H
           clear H
           have H := H1
           clear H1
           have H' := am H
           clear H
           go_wp2
           go_meet
           case rel => exact ⟨_, (true), zS, H', ⟨by have := HK1.out; first | omega | exact Nat.le_refl _⟩, ⟨zR HO_7.out⟩, ⟨zR HO_8.out⟩, ⟨zB HB⟩⟩
          ·replace c26 := Bool.eq_false_iff.mpr c26
           subst c26
           have H1 : (if t416 = true then (r34_combine.j1 k1 l0 l1 a2 t407 x8_1 x9_1 true) else (if a2 = 2 then (if a2 = 3 then (r34_combine.j1 k1 l0 l1 a2 t407 x8_1 x9_1 false) else (r34_combine.j1 k1 l0 l1 a2 t407 x8_1 x9_1 false)) else (if a2 = 3 then (r34_combine.j1 k1 l0 l1 a2 t407 x8_1 x9_1 false) else (r34_combine.j1 k1 l0 l1 a2 t407 x8_1 x9_1 false)))) = some r := by rw [if_neg (show ¬ (false = true) by decide)] at H; exact H
           clear H
           have H := H1
           clear H1
           by_cases c27 : t416 = true
           ·subst c27
            have H1 : (r34_combine.j1 k1 l0 l1 a2 t407 x8_1 x9_1 true) = some r := by rw [if_pos rfl] at H; exact H
            clear H
            have H := H1
            clear H1
            have H' := am H
            clear H
            go_wp2
            go_meet
            case rel => exact ⟨_, (true), zS, H', ⟨by have := HK1.out; first | omega | exact Nat.le_refl _⟩, ⟨zR HO_7.out⟩, ⟨zR HO_8.out⟩, ⟨zB HB⟩⟩
           ·replace c27 := Bool.eq_false_iff.mpr c27
            subst c27
            have H1 : (if a2 = 2 then (if a2 = 3 then (r34_combine.j1 k1 l0 l1 a2 t407 x8_1 x9_1 false) else (r34_combine.j1 k1 l0 l1 a2 t407 x8_1 x9_1 false)) else (if a2 = 3 then (r34_combine.j1 k1 l0 l1 a2 t407 x8_1 x9_1 false) else (r34_combine.j1 k1 l0 l1 a2 t407 x8_1 x9_1 false))) = some r := by rw [if_neg (show ¬ (false = true) by decide)] at H; exact H
            clear H
            have H := H1
            clear H1
            by_cases c28 : a2 = 2
            ·rw [if_pos c28] at H
             have c28b0 : (a2 == 2) = true := beq_iff_eq.mpr c28
             have c28b1 : (a2 != 2) = false := bne_eq_false_iff_eq.mpr c28
             clear c28
             by_cases c29 : a2 = 3
             ·rw [if_pos c29] at H
              have c29b0 : (a2 == 3) = true := beq_iff_eq.mpr c29
              have c29b1 : (a2 != 3) = false := bne_eq_false_iff_eq.mpr c29
              clear c29
              have H' := am H
              clear H
              go_wp2
              go_meet
              case rel => exact ⟨_, (false), zS, H', ⟨by have := HK1.out; first | omega | exact Nat.le_refl _⟩, ⟨zR HO_7.out⟩, ⟨zR HO_8.out⟩, ⟨zB HB⟩⟩
             ·rw [if_neg c29] at H
              have c29b0 : (a2 == 3) = false := beq_eq_false_iff_ne.mpr c29
              have c29b1 : (a2 != 3) = true := bne_iff_ne.mpr c29
              have H' := am H
              clear H
              go_wp2
              go_meet
              case rel => exact ⟨_, (false), zS, H', ⟨by have := HK1.out; first | omega | exact Nat.le_refl _⟩, ⟨zR HO_7.out⟩, ⟨zR HO_8.out⟩, ⟨zB HB⟩⟩
            ·rw [if_neg c28] at H
             have c28b0 : (a2 == 2) = false := beq_eq_false_iff_ne.mpr c28
             have c28b1 : (a2 != 2) = true := bne_iff_ne.mpr c28
             by_cases c30 : a2 = 3
             ·rw [if_pos c30] at H
              have c30b0 : (a2 == 3) = true := beq_iff_eq.mpr c30
              have c30b1 : (a2 != 3) = false := bne_eq_false_iff_eq.mpr c30
              clear c30
              have H' := am H
              clear H
              go_wp2
              go_meet
              case rel => exact ⟨_, (false), zS, H', ⟨by have := HK1.out; first | omega | exact Nat.le_refl _⟩, ⟨zR HO_7.out⟩, ⟨zR HO_8.out⟩, ⟨zB HB⟩⟩
             ·rw [if_neg c30] at H
              have c30b0 : (a2 == 3) = false := beq_eq_false_iff_ne.mpr c30
              have c30b1 : (a2 != 3) = true := bne_iff_ne.mpr c30
              have H' := am H
              clear H
              go_wp2
              go_meet
              case rel => exact ⟨_, (false), zS, H', ⟨by have := HK1.out; first | omega | exact Nat.le_refl _⟩, ⟨zR HO_7.out⟩, ⟨zR HO_8.out⟩, ⟨zB HB⟩⟩
         ·rw [if_neg c25] at H
          have c25b0 : (a2 == 1) = false := beq_eq_false_iff_ne.mpr c25
          have c25b1 : (a2 != 1) = true := bne_iff_ne.mpr c25
          (first | rw [c25b0] | (simp only [i64_w, i32_w]; rw [c25b0]) | skip)
          by_cases c31 : a2 = 2
          ·rw [if_pos c31] at H
           have c31b0 : (a2 == 2) = true := beq_iff_eq.mpr c31
           have c31b1 : (a2 != 2) = false := bne_eq_false_iff_eq.mpr c31
           clear c31
           by_cases c32 : t414 = true
           ·subst c32
            have H1 : (if t416 = true then (r34_combine.j1 k1 l0 l1 a2 t407 x8_1 x9_1 true) else (if a2 = 3 then (r34_combine.j1 k1 l0 l1 a2 t407 x8_1 x9_1 (!t416)) else (r34_combine.j1 k1 l0 l1 a2 t407 x8_1 x9_1 false))) = some r := by rw [if_pos rfl] at H; exact H
            clear H
            have H := H1
            clear H1
            by_cases c33 : t416 = true
            ·subst c33
             have H1 : (r34_combine.j1 k1 l0 l1 a2 t407 x8_1 x9_1 true) = some r := by rw [if_pos rfl] at H; exact H
             clear H
             have H := H1
             clear H1
             have H' := am H
             clear H
             go_wp2
             go_meet
             case rel => exact ⟨_, (true), zS, H', ⟨by have := HK1.out; first | omega | exact Nat.le_refl _⟩, ⟨zR HO_7.out⟩, ⟨zR HO_8.out⟩, ⟨zB HB⟩⟩
            ·replace c33 := Bool.eq_false_iff.mpr c33
             subst c33
             have H1 : (if a2 = 3 then (r34_combine.j1 k1 l0 l1 a2 t407 x8_1 x9_1 (!false)) else (r34_combine.j1 k1 l0 l1 a2 t407 x8_1 x9_1 false)) = some r := by rw [if_neg (show ¬ (false = true) by decide)] at H; exact H
             clear H
             have H := H1
             clear H1
             by_cases c34 : a2 = 3
             ·rw [if_pos c34] at H
              have c34b0 : (a2 == 3) = true := beq_iff_eq.mpr c34
              have c34b1 : (a2 != 3) = false := bne_eq_false_iff_eq.mpr c34
              clear c34
              have H' := am H
              clear H
              go_wp2
              go_meet
              case rel => exact ⟨_, (!false), zS, H', ⟨by have := HK1.out; first | omega | exact Nat.le_refl _⟩, ⟨zR HO_7.out⟩, ⟨zR HO_8.out⟩, ⟨zB HB⟩⟩
             ·rw [if_neg c34] at H
              have c34b0 : (a2 == 3) = false := beq_eq_false_iff_ne.mpr c34
              have c34b1 : (a2 != 3) = true := bne_iff_ne.mpr c34
              have H' := am H
              clear H
              go_wp2
              go_meet
              case rel => exact ⟨_, (false), zS, H', ⟨by have := HK1.out; first | omega | exact Nat.le_refl _⟩, ⟨zR HO_7.out⟩, ⟨zR HO_8.out⟩, ⟨zB HB⟩⟩
           ·replace c32 := Bool.eq_false_iff.mpr c32
            subst c32
            have H1 : (if a2 = 3 then (r34_combine.j1 k1 l0 l1 a2 t407 x8_1 x9_1 false) else (r34_combine.j1 k1 l0 l1 a2 t407 x8_1 x9_1 false)) = some r := by rw [if_neg (show ¬ (false = true) by decide)] at H; exact H
            clear H
            have H := H1
            clear H1
            by_cases c35 : a2 = 3
            ·rw [if_pos c35] at H
             have c35b0 : (a2 == 3) = true := beq_iff_eq.mpr c35
             have c35b1 : (a2 != 3) = false := bne_eq_false_iff_eq.mpr c35
             clear c35
             have H' := am H
             clear H
             go_wp2
             go_meet
             case rel => exact ⟨_, (false), zS, H', ⟨by have := HK1.out; first | omega | exact Nat.le_refl _⟩, ⟨zR HO_7.out⟩, ⟨zR HO_8.out⟩, ⟨zB HB⟩⟩
            ·rw [if_neg c35] at H
             have c35b0 : (a2 == 3) = false := beq_eq_false_iff_ne.mpr c35
             have c35b1 : (a2 != 3) = true := bne_iff_ne.mpr c35
             have H' := am H
             clear H
             go_wp2
             go_meet
             case rel => exact ⟨_, (false), zS, H', ⟨by have := HK1.out; first | omega | exact Nat.le_refl _⟩, ⟨zR HO_7.out⟩, ⟨zR HO_8.out⟩, ⟨zB HB⟩⟩
          ·rw [if_neg c31] at H
           have c31b0 : (a2 == 2) = false := beq_eq_false_iff_ne.mpr c31
           have c31b1 : (a2 != 2) = true := bne_iff_ne.mpr c31
           by_cases c36 : a2 = 3
           ·rw [if_pos c36] at H
            have c36b0 : (a2 == 3) = true := beq_iff_eq.mpr c36
            have c36b1 : (a2 != 3) = false := bne_eq_false_iff_eq.mpr c36
            clear c36
            by_cases c37 : t414 = true
            ·subst c37
             have H1 : (r34_combine.j1 k1 l0 l1 a2 t407 x8_1 x9_1 (!t416)) = some r := by rw [if_pos rfl] at H; exact H
             clear H
             have H := H1
             clear H1
             have H' := am H
             clear H
             go_wp2
             go_meet
             case rel => exact ⟨_, (!t416), zS, H', ⟨by have := HK1.out; first | omega | exact Nat.le_refl _⟩, ⟨zR HO_7.out⟩, ⟨zR HO_8.out⟩, ⟨zB HB⟩⟩
            ·replace c37 := Bool.eq_false_iff.mpr c37
             subst c37
             have H1 : (r34_combine.j1 k1 l0 l1 a2 t407 x8_1 x9_1 false) = some r := by rw [if_neg (show ¬ (false = true) by decide)] at H; exact H
             clear H
             have H := H1
             clear H1
             have H' := am H
             clear H
             go_wp2
             go_meet
             case rel => exact ⟨_, (false), zS, H', ⟨by have := HK1.out; first | omega | exact Nat.le_refl _⟩, ⟨zR HO_7.out⟩, ⟨zR HO_8.out⟩, ⟨zB HB⟩⟩
           ·rw [if_neg c36] at H
            have c36b0 : (a2 == 3) = false := beq_eq_false_iff_ne.mpr c36
            have c36b1 : (a2 != 3) = true := bne_iff_ne.mpr c36
            have H' := am H
            clear H
            go_wp2
            go_meet
            case rel => exact ⟨_, (false), zS, H', ⟨by have := HK1.out; first | omega | exact Nat.le_refl _⟩, ⟨zR HO_7.out⟩, ⟨zR HO_8.out⟩, ⟨zB HB⟩⟩
        case rest =>
         clear HC20
         try clear c1
         try clear c2
         try clear p2
         try clear c3
         try clear c4
         try clear p4
         try clear q4
         try clear hx4
         try clear c5
         try clear p6
         try clear c15
         try clear c15b0
         try clear c16
         try clear c16b0
         try clear c17
         try clear c17b0
         try clear c25
         try clear c25b0
         try clear c25b1
         try clear c26
         try clear c27
         try clear c28
         try clear c28b0
         try clear c28b1
         try clear c29
         try clear c29b0
         try clear c29b1
         try clear c30
         try clear c30b0
         try clear c30b1
         try clear c31
         try clear c31b0
         try clear c31b1
         try clear c32
         try clear c33
         try clear c34
         try clear c34b0
         try clear c34b1
         try clear c35
         try clear c35b0
         try clear c35b1
         try clear c36
         try clear c36b0
         try clear c36b1
         try clear c37
         try clear hx413_0
         try clear hx415_0
         try clear p2
         try clear p413
         try clear p415
         try clear q413
         try clear q415
         obtain ⟨kq, x66_19, rfl, HA, HJ19, HO_7, HO_8, HB⟩ := hcut
         cases kq with
         | zero => exact absurd HA.out (by simp [r34_combine.j1])
         | succ kj19 =>
          have H := HA.out
          clear HA
          simp only [r34_combine.j1] at H
          by_cases c38 : x66_19 = true
          ·subst c38
           have H1 : (if 0 ≤ x9_1 then (if x9_1 < (t407.length : Int) then (if 0 ≤ (wrap64 (x9_1 + 1)) then (if (wrap64 (x9_1 + 1)) < (t407.length : Int) then ((r34_add.f kj19 x8_1 (rd t407 x9_1) (rd t407 (wrap64 (x9_1 + 1)))).bind fun t419 => (r34_combine.l0 kj19 l0 l1 a2 t407 t419 (wrap64 (x9_1 + 1)))) else (none)) else (none)) else (none)) else (none)) = some r := by rw [if_pos rfl] at H; exact H
           clear H
           have H := H1
           clear H1
           by_cases c39 : 0 ≤ x9_1
           ·rw [if_pos c39] at H
            have c39b0 : decide (0 ≤ x9_1) = true := decide_eq_true c39
            clear c39
            by_cases c40 : x9_1 < (t407.length : Int)
            ·rw [if_pos c40] at H
             have c40b0 : decide (x9_1 < (t407.length : Int)) = true := decide_eq_true c40
             clear c40
             obtain ⟨ji41, hji41⟩ : ∃ j_ : Int, (wrap64 (x9_1 + 1)) = j_ := ⟨_, rfl⟩
             replace H : (if 0 ≤ (ji41) then (if (ji41) < (t407.length : Int) then ((r34_add.f kj19 x8_1 (rd t407 x9_1) (rd t407 (ji41))).bind fun t419 => (r34_combine.l0 kj19 l0 l1 a2 t407 t419 ji41)) else (none)) else (none)) = some r := by first | (rw [hji41] at H; exact H) | (simp only [hji41] at H ⊢; exact H)
             (try rw [hji41] at c15b0)
             have hji41w : (IntKind.i64.wrap (x9_1 + 1)) = ji41 := (i64_w _).trans hji41
             by_cases c42 : 0 ≤ (ji41)
             ·rw [if_pos c42] at H
              have c42b0 : decide (0 ≤ (ji41)) = true := decide_eq_true c42
              clear c42
              by_cases c43 : (ji41) < (t407.length : Int)
              ·rw [if_pos c43] at H
               have c43b0 : decide ((ji41) < (t407.length : Int)) = true := decide_eq_true c43
               clear c43
               replace H := Option.bind_eq_some_iff.mp H
               obtain ⟨t419, A440, H⟩ := H
               replace H : (r34_combine.l0 kj19 l0 l1 a2 t407 t419 ji41) = some r := H
               have A44 := am A440
               clear A440
               have H' := am H
               clear H
               try go_wp2
               have n0_ := am (Kd.R_drew HO_7.out)
               have n1_ := am (Kd.R_drew HO_8.out)
               have n2_ := am (below_drew1 HB.out)
               clear HO_7
               clear HO_8
               clear HB
               have HO_7 := n0_
               have HO_8 := n1_
               have HB := n2_
               clear n0_ n1_ n2_
               have p417 : 0 ≤ (x9_1 : Int) := of_decide_eq_true zA
               have q417 : x9_1 < (t407.length : Int) := of_decide_eq_true zA
               obtain ⟨ad417, e417, hx417_0⟩ := Kd.at_int (Kd.R_reads' HO_7.out).2.2 x9_1 p417 q417
               obtain rfl : ad413 = ad417 := (by injection e417)
               replace p417 := eq_true p417
               replace q417 := eq_true q417
               have p418 : 0 ≤ ((ji41) : Int) := of_decide_eq_true zA
               have q418 : (ji41) < (t407.length : Int) := of_decide_eq_true zA
               obtain ⟨ad418, e418, hx418_0⟩ := Kd.at_int (Kd.R_reads' HO_7.out).2.2 (ji41) p418 q418
               obtain rfl : ad413 = ad418 := (by injection e418)
               replace p418 := eq_true p418
               replace q418 := eq_true q418
               obtain ⟨Ao46, co46, eo46⟩ := Kd.R_slice HO_8.out
               (first | subst eo46 | (injection eo46 with f1_ f2_ f3_; have f4_ := f1_.symm; have f5_ := f3_.symm; clear f1_ f2_ f3_; subst f4_; subst f5_))
               refine start_ (n := 12) (S := fun w' => w'.cell? (ad413.add (x9_1).toNat) = some (.int .i64 (rd t407 x9_1)) ∧ w'.cell? (ad413.add ((ji41)).toNat) = some (.int .i64 (rd t407 (ji41)))) (ds := []) #[F,F,F,F,F,F,F,F,F,F,F,F] (by kernel_rfl) rfl rfl ⟨hx417_0, hx418_0⟩ (fun hHeld => ?_); refine with_tabW r34_combine.tab8 r34_combine.bits8 (fun HT_ HW_ => ?_)
               generalize wc.drew = w45 at HO_7 HO_8 HB hx417_0 hx418_0 hHeld ⊢
               refine pure_ (i := 0) (N := some 67) (v := ?_) (a' := ?_) #[T,F,F,F,F,F,F,F,F,F,F,F] rfl rfl (zO HT_) (fun _ _ _ h => h) (Or.inl ⟨by rfl, ?_⟩) ?_ ?_
               rotate_left
               ·intro w'
                go_simp
                with_reducible rfl
               rotate_left
               ·exact zP i64_w i32_w
               refine pure_ (i := 1) (N := some 68) (v := ?_) (a' := ?_) #[T,T,F,F,F,F,F,F,F,F,F,F] rfl rfl (zO HT_) (fun _ _ _ h => h) (Or.inl ⟨by rfl, ?_⟩) ?_ ?_
               rotate_left
               ·intro w'
                go_simp
                with_reducible rfl
               rotate_left
               ·exact zP i64_w i32_w
               refine pure_ (i := 2) (N := some 69) (v := ?_) (a' := ?_) #[T,T,T,F,F,F,F,F,F,F,F,F] rfl rfl (zO HT_) (fun _ _ _ h => h) (Or.inl ⟨by rfl, ?_⟩) ?_ ?_
               rotate_left
               ·intro w'
                go_simp
                with_reducible rfl
               rotate_left
               ·exact zP i64_w i32_w
               refine pure_ (i := 3) (N := some 70) (v := ?_) (a' := ?_) #[T,T,T,T,F,F,F,F,F,F,F,F] rfl rfl (zO HT_) (fun _ _ _ h => h) (Or.inl ⟨by rfl, ?_⟩) ?_ ?_
               rotate_left
               ·intro w'
                go_simp
                with_reducible rfl
               rotate_left
               ·exact zP i64_w i32_w
               refine pure_ (i := 5) (N := some 72) (v := ?_) (a' := ?_) #[T,T,T,T,F,T,F,F,F,F,F,F] rfl rfl (zO HT_) (fun _ _ _ h => h) (Or.inl ⟨by rfl, ?_⟩) ?_ ?_
               rotate_left
               ·intro w'
                go_simp
                with_reducible rfl
               rotate_left
               ·exact zP i64_w i32_w
               refine pure_ (i := 6) (N := some 73) (v := ?_) (a' := ?_) #[T,T,T,T,F,T,T,F,F,F,F,F] rfl rfl (zO HT_) (fun _ _ _ h => h) (Or.inl ⟨by rfl, ?_⟩) ?_ ?_
               rotate_left
               ·intro w'
                go_simp
                with_reducible rfl
               rotate_left
               ·exact zP i64_w i32_w
               refine pure_ (i := 7) (N := some 74) (v := ?_) (a' := ?_) #[T,T,T,T,F,T,T,T,F,F,F,F] rfl rfl (zO HT_) (fun _ _ _ h => h) (Or.inl ⟨by rfl, ?_⟩) ?_ ?_
               rotate_left
               ·intro w'
                go_simp
                with_reducible rfl
               rotate_left
               ·exact zP i64_w i32_w
               refine pure_ (i := 8) (N := some 75) (v := ?_) (a' := ?_) #[T,T,T,T,F,T,T,T,T,F,F,F] rfl rfl (zO HT_) (fun _ _ _ h => h) (Or.inl ⟨by rfl, ?_⟩) ?_ ?_
               rotate_left
               ·intro w'
                go_simp
                with_reducible rfl
               rotate_left
               ·exact zP i64_w i32_w
               refine take_ (i := 4) (N := some 71) (v := ?_) (a' := ?_) #[T,T,T,T,T,T,T,T,T,F,F,F] rfl rfl (take_ofW HT_.out HW_.out (by kernel_rfl)) (fun _ _ _ h => h) (Or.inl ⟨by rfl, ?_⟩) hHeld ?_ ?_
               rotate_left
               ·rintro w' ⟨s0, s1⟩
                go_simp
                with_reducible rfl
               rotate_left
               ·exact zP i64_w i32_w
               refine take_ (i := 9) (N := some 76) (v := ?_) (a' := ?_) #[T,T,T,T,T,T,T,T,T,T,F,F] rfl rfl (take_ofW HT_.out HW_.out (by kernel_rfl)) (fun _ _ _ h => h) (Or.inl ⟨by rfl, ?_⟩) hHeld ?_ ?_
               rotate_left
               ·rintro w' ⟨s0, s1⟩
                go_simp
                with_reducible rfl
               rotate_left
               ·exact zP i64_w i32_w
               refine one_ (i := 10) (N := some 77) #[T,T,T,T,T,T,T,T,T,T,T,F] rfl rfl (one_of HT_.out (by kernel_rfl)) (by decide) (fun K hK => ?_)
               refine goes_ Try.func45 (by kernel_rfl) rfl #[.slice Ao46 x8_1.length co46, .int .i64 (rd t407 x9_1), .int .i64 (rd t407 (ji41))] (by rfl) rfl rfl (by (try simp only [List.map_toArray, List.map_cons, List.map_nil]); first | done | (simp only [hji41]; rfl) | rfl | (simp only [List.length_drop, List.length_take]; rfl)) ?_
               with_reducible refine (r34_add.calls kj19 (fun k_ => some k_ = (.slice Ao46 x8_1.length co46 : Value).ownBlock) (.slice Ao46 x8_1.length co46) x8_1 (rd t407 x9_1) (rd t407 (ji41)) t419 w _ ?side1 ?side2 A44.out).mono ?_
               (case side1 => exact zB HB)
               (case side2 => exact Kd.R_tight rfl HO_8.out)
               rintro e w47 ⟨v420, rfl, ho0, hb, hkp⟩
               have HS0_ := cell_kept (hHeld.1) hkp (by first | (rw [add_block]; exact (fun hs_ => ((((Kd.R_apart' HO_7.out (Kd.R_typed HO_8.out) (by decide))).1 _ rfl).2) hs_)) | (show ¬ _; simp only [add_block]; exact (fun hs_ => ((((Kd.R_apart' HO_7.out (Kd.R_typed HO_8.out) (by decide))).1 _ rfl).2) hs_)) | exact (fun hs_ => ((((Kd.R_apart' HO_7.out (Kd.R_typed HO_8.out) (by decide))).1 _ rfl).2) hs_))
               have HS1_ := cell_kept (hHeld.2) hkp (by first | (rw [add_block]; exact (fun hs_ => ((((Kd.R_apart' HO_7.out (Kd.R_typed HO_8.out) (by decide))).1 _ rfl).2) hs_)) | (show ¬ _; simp only [add_block]; exact (fun hs_ => ((((Kd.R_apart' HO_7.out (Kd.R_typed HO_8.out) (by decide))).1 _ rfl).2) hs_)) | exact (fun hs_ => ((((Kd.R_apart' HO_7.out (Kd.R_typed HO_8.out) (by decide))).1 _ rfl).2) hs_))
               refine ⟨_, rfl, ?_⟩
               have n0_ := am (Kd.R_mono (ok' := fun k_ => True) (Kd.R_keptB ((Kd.R_apart' HO_7.out (Kd.R_typed HO_8.out) (by decide))) hkp (fun k_ hk_ hs_ => (hk_.2) hs_)) (fun k_ hk_ => trivial))
               have n1_ := am (Kd.R_mono (ok' := fun k_ => True) ho0 (fun k_ hk_ => trivial))
               have n2_ := am (hb)
               clear HO_7
               clear HB
               clear HO_8
               have HO_7 := n0_
               have HO421 := n1_
               have HB := n2_
               clear n0_ n1_ n2_
               (try clear hb)
               (try clear hkp)
               (try clear ho0)
               refine hK.out _ _ ⟨HS0_, HS1_⟩ (fun hHeld => ?_)
               clear hK K
               refine norm_ (a' := ?_) ?_ ?_
               rotate_left
               ·show Act.put _ (some 77) _ = _
                simp only [Act.put, List.setIfInBounds_toArray, List.set_cons_zero, List.set_cons_succ, i64_w, i32_w]
                rfl
               refine pure_ (i := 11) (N := some 8) (v := ?_) (a' := ?_) #[T,T,T,T,T,T,T,T,T,T,T,T] rfl rfl (zO HT_) (fun _ _ _ h => h) (Or.inl ⟨by rfl, ?_⟩) ?_ ?_
               rotate_left
               ·intro w'
                go_simp
                with_reducible rfl
               rotate_left
               ·exact zP i64_w i32_w
               refine done_ (done_of HT_.out (by kernel_rfl)) ?_
               try go_wp2
               go_roundg kj19
               case measure => have := HK1.out; have := HJ19.out; omega
               case rel => exact ⟨(t419), (ji41), (by first | rfl | (simp; done) | (simp only [← hji41] <;> (first | rfl | simp)) | (simp [*]; done)), H', ⟨by have := HK1.out; have := HJ19.out; omega⟩, ⟨zR HO_7.out⟩, ⟨zR HO421.out⟩, ⟨zB HB⟩⟩
              ·rw [if_neg c43] at H
               exact absurd H (by simp)
             ·rw [if_neg c42] at H
              exact absurd H (by simp)
            ·rw [if_neg c40] at H
             exact absurd H (by simp)
           ·rw [if_neg c39] at H
            exact absurd H (by simp)
          ·replace c38 := Bool.eq_false_iff.mpr c38
           subst c38
           have H1 : (r34_combine.l0 kj19 l0 l1 a2 t407 x8_1 (wrap64 (x9_1 + 1))) = some r := by rw [if_neg (show ¬ (false = true) by decide)] at H; exact H
           clear H
           have H := H1
           clear H1
           have H' := am H
           clear H
           go_wp2
           go_roundg kj19
           case measure => have := HK1.out; have := HJ19.out; omega
           case rel => exact ⟨(x8_1), (wrap64 (x9_1 + 1)), zS, H', ⟨by have := HK1.out; have := HJ19.out; omega⟩, ⟨zR HO_7.out⟩, ⟨zR HO_8.out⟩, ⟨zB HB⟩⟩
       ·rw [if_neg c17] at H
        exact absurd H (by simp)
      ·rw [if_neg c16] at H
       exact absurd H (by simp)
     ·rw [if_neg c15] at H
      have c15b0 : decide ((wrap64 (x9_1 + 1)) < (t407.length : Int)) = false := decide_eq_false c15
      clear c15
      obtain rfl := Option.some.inj H
      obtain ⟨Ao48, co48, eo48⟩ := Kd.R_slice HO_7.out
      subst eo48
      go_wp2
      go_ret
      exact ⟨_, by first | rfl | (simp [errW_none, errW_some] <;> rfl) | (simp [*, errW_none, errW_some] <;> rfl), by refine zR ?_; exact HO_8.out, by repeat (first | (with_reducible first | exact HB.out | apply below_alloc | apply pw_below_drewN | apply below_drew1) | exact HB.out)⟩
  ·rw [if_neg c5] at H
   exact absurd H (by simp)
 ·rw [if_neg c4] at H
  exact absurd H (by simp)

/-! ### r34_Union: function 30 -/
def r34_Union.f (k : Nat) (l0 : List (S25)) (l1 : List (S25)) : Option ((List (S25))) := (r34_combine.f k l0 l1 1).bind fun t422 => (some t422)
theorem r34_Union.mono : ∀ a0 a1 k, LeO (r34_Union.f k a0 a1) (r34_Union.f (k + 1) a0 a1) := by
 intro a0 a1 k
 unfold r34_Union.f
 repeat' first
   | (with_reducible exact r34_combine.mono _ _ _ _)
   | (with_reducible exact LeO.refl _)
   | (with_reducible exact LeO.none _)
   | (with_reducible refine LeO.ite ?_ ?_)
   | (with_reducible refine LeO.bind ?_ (fun _ => ?_))
   | exact r34_combine.mono _ _ _ _
   | exact LeO.none _
   | refine LeO.ite ?_ ?_
   | refine LeO.bind ?_ (fun _ => ?_)
set_option maxHeartbeats 8000000 in
set_option maxRecDepth 100000 in
theorem r34_Union.calls (k : Nat) (A0 : Option Addr) (c0 : Nat) (l0 : List (S25)) (A1 : Option Addr) (c1 : Nat) (l1 : List (S25)) (r : List (S25)) (w : World) (hr0 : Kd.C k25 w A0 l0.length l0) (hc0 : l0.length ≤ c0) (hr1 : Kd.C k25 w A1 l1.length l1) (hc1 : l1.length ≤ c1) (h : r34_Union.f k l0 l1 = some r) :
  Calls Try.prog 30 #[.slice A0 l0.length c0, .slice A1 l1.length c1] w fun e w' => ∃ v0_ : Value, e = .returned (v0_) ∧ Kd.R k25 25 w' w.heap.size (fun _ => True) v0_ r ∧ Below w.heap.size w w' := by
 have HR0 := am hr0
 have HC0 := am hc0
 clear hr0 hc0
 have HR1 := am hr1
 have HC1 := am hc1
 clear hr1 hc1
 have HB := am (Below.refl w.heap.size w)
 have H : ((r34_combine.f k l0 l1 1).bind fun t422 => (some t422)) = some r := h
 clear h
 replace H := Option.bind_eq_some_iff.mp H
 obtain ⟨t422, A30, H⟩ := H
 replace H : (some t422) = some r := H
 have A3 := am A30
 clear A30
 obtain rfl := Option.some.inj H
 go_enter Try.func30, Try.ntmps30
 go_wp2_with (first | ((with_reducible refine gate_callee (f := 36) rfl ?_); refine goesL_ (some 7) rfl rfl Try.func36 (by kernel_rfl) rfl #[.slice A0 l0.length c0, .slice A1 l1.length c1, .int .i64 1] rfl zM ?_; (with_reducible refine (r34_combine.calls k _ _ l0 _ _ l1 1 t422 _ ?side1 ?side2 ?side3 ?side4 A3.out).mono ?_); (case side1 => repeat (first | exact HR0.out | (with_reducible refine Kd.C_alloc ?_ _) | (with_reducible refine Kd.C_drewN ?_ _) | (with_reducible refine Kd.C_drew ?_))); (case side2 => exact HC0.out); (case side3 => repeat (first | exact HR1.out | (with_reducible refine Kd.C_alloc ?_ _) | (with_reducible refine Kd.C_drewN ?_ _) | (with_reducible refine Kd.C_drew ?_))); (case side4 => exact HC1.out); rintro e w4 ⟨v423, rfl, ho0, hb⟩; refine ⟨_, rfl, ?_⟩; have n0_ := am (Kd.R_lower ho0 (below_size (zB HB))); have n1_ := am (below_step (zB HB) hb); clear HB; have HO424 := n0_; have HB := n1_; clear n0_ n1_; (try clear hb); (try clear hb2); (try clear hk); (try clear hi); (try clear ho0)))
 go_ret
 exact ⟨_, by first | rfl | (simp [errW_none, errW_some] <;> rfl) | (simp [*, errW_none, errW_some] <;> rfl), by refine zR ?_; exact HO424.out, by repeat (first | (with_reducible first | exact HB.out | apply below_alloc | apply pw_below_drewN | apply below_drew1) | exact HB.out)⟩

end
end Go.Proofs.Ytapbmkcncjkanaa.P
