-- Written by this session's wip/tools/px.py out of the translation. Lean checks it.
import Derived.Test.YtapbmkcncjkanaaP0
import Derived.Test.YtapbmkcncjkanaaP20
namespace Go.Proofs.Ytapbmkcncjkanaa.P
noncomputable section
open Go.RowKit Go.Proofs.YtapbmkcncjkanaaW.PrintWords Go.Proofs.YtapbmkcncjkanaaW.PrintLast Go.Proofs.YtapbmkcncjkanaaW.PrintMore
attribute [local go_sem] max2_int min2_int max_two min_two max_three min_three max_four min_four   -- for this text's walks alone
set_option linter.unusedVariables false
set_option linter.unusedSimpArgs false

/-! ### r34_Gaps: function 31 -/
mutual
def r34_Gaps.l0 : Nat → Int → List (S25) → List (S25) → Int → Option ((List (S25)))
 | 0, _, _, _, _ => none
 | k + 1, x1, x5, x6, x7 => if x7 < (x5.length : Int) then (if (x6.length : Int) > 0 then (if 0 ≤ x7 then (if 0 ≤ (wrap64 ((x6.length : Int) - 1)) then (if (wrap64 ((x6.length : Int) - 1)) < (x6.length : Int) then (r34_Gaps.j1 k x1 x5 x6 x7 (x6.length : Int) (decide ((wrap64 ((wrap64 (((rd_T25 x5 x7).f0) - ((rd_T25 x6 (wrap64 ((x6.length : Int) - 1))).f0))) - ((rd_T25 x6 (wrap64 ((x6.length : Int) - 1))).f1))) ≤ x1))) else (none)) else (none)) else (none)) else (r34_Gaps.j1 k x1 x5 x6 x7 (x6.length : Int) false)) else (some x6)
def r34_Gaps.j1 : Nat → Int → List (S25) → List (S25) → Int → Int → Bool → Option ((List (S25)))
 | 0, _, _, _, _, _, _ => none
 | k + 1, x1, x5, x6, x7, x8, x44 => if x44 = true then (if 0 ≤ x7 then (if x7 < (x5.length : Int) then (if 0 ≤ (wrap64 (x8 - 1)) then (if (wrap64 (x8 - 1)) < (x6.length : Int) then (r34_Gaps.l0 k x1 x5 (x6.set ((wrap64 (x8 - 1)) : Int).toNat (⟨(rd_T25 x6 (wrap64 (x8 - 1))).f0, wrap64 ((wrap64 (((rd_T25 x5 x7).f0) + ((rd_T25 x5 x7).f1))) - ((rd_T25 x6 (wrap64 (x8 - 1))).f0))⟩ : S25)) (wrap64 (x7 + 1))) else (none)) else (none)) else (none)) else (none)) else (if 0 ≤ x7 then (if x7 < (x5.length : Int) then (if x6.length < 8796093022208 then (r34_Gaps.l0 k x1 x5 (x6 ++ [(⟨(rd_T25 x5 x7).f0, (rd_T25 x5 x7).f1⟩ : S25)]) (wrap64 (x7 + 1))) else (none)) else (none)) else (none))
end
def r34_Gaps.f (k : Nat) (l0 : List (S25)) (a1 : Int) : Option ((List (S25))) := (r34_Normal.f k l0).bind fun t428 => (r34_Gaps.l0 k a1 t428 (([] : List (S25))) 0)
theorem r34_Gaps.mono_l : ∀ k, (∀ y0 y1 y2 y3, LeO (r34_Gaps.l0 k y0 y1 y2 y3) (r34_Gaps.l0 (k + 1) y0 y1 y2 y3)) ∧ (∀ y0 y1 y2 y3 y4 y5, LeO (r34_Gaps.j1 k y0 y1 y2 y3 y4 y5) (r34_Gaps.j1 (k + 1) y0 y1 y2 y3 y4 y5))
 | 0 => ⟨fun _ _ _ _ r h => by simp [r34_Gaps.l0] at h, fun _ _ _ _ _ _ r h => by simp [r34_Gaps.j1] at h⟩
 | k + 1 => by
  obtain ⟨ih0, ih1⟩ := r34_Gaps.mono_l k
  refine ⟨?_, ?_⟩
  ·intro y0 y1 y2 y3
   unfold r34_Gaps.l0
   repeat' first
   | (with_reducible exact ih0 _ _ _ _)
   | (with_reducible exact ih1 _ _ _ _ _ _)
   | (with_reducible exact r34_Normal.mono _ _)
   | (with_reducible exact LeO.refl _)
   | (with_reducible exact LeO.none _)
   | (with_reducible refine LeO.ite ?_ ?_)
   | (with_reducible refine LeO.bind ?_ (fun _ => ?_))
   | exact ih0 _ _ _ _
   | exact ih1 _ _ _ _ _ _
   | exact r34_Normal.mono _ _
   | exact LeO.none _
   | refine LeO.ite ?_ ?_
   | refine LeO.bind ?_ (fun _ => ?_)
  ·intro y0 y1 y2 y3 y4 y5
   unfold r34_Gaps.j1
   repeat' first
   | (with_reducible exact ih0 _ _ _ _)
   | (with_reducible exact ih1 _ _ _ _ _ _)
   | (with_reducible exact r34_Normal.mono _ _)
   | (with_reducible exact LeO.refl _)
   | (with_reducible exact LeO.none _)
   | (with_reducible refine LeO.ite ?_ ?_)
   | (with_reducible refine LeO.bind ?_ (fun _ => ?_))
   | exact ih0 _ _ _ _
   | exact ih1 _ _ _ _ _ _
   | exact r34_Normal.mono _ _
   | exact LeO.none _
   | refine LeO.ite ?_ ?_
   | refine LeO.bind ?_ (fun _ => ?_)
theorem r34_Gaps.mono : ∀ a0 a1 k, LeO (r34_Gaps.f k a0 a1) (r34_Gaps.f (k + 1) a0 a1) := by
 intro a0 a1 k
 obtain ⟨ih0, ih1⟩ := r34_Gaps.mono_l k
 unfold r34_Gaps.f
 repeat' first
   | (with_reducible exact ih0 _ _ _ _)
   | (with_reducible exact ih1 _ _ _ _ _ _)
   | (with_reducible exact r34_Normal.mono _ _)
   | (with_reducible exact LeO.refl _)
   | (with_reducible exact LeO.none _)
   | (with_reducible refine LeO.ite ?_ ?_)
   | (with_reducible refine LeO.bind ?_ (fun _ => ?_))
   | exact ih0 _ _ _ _
   | exact ih1 _ _ _ _ _ _
   | exact r34_Normal.mono _ _
   | exact LeO.none _
   | refine LeO.ite ?_ ?_
   | refine LeO.bind ?_ (fun _ => ?_)
def r34_Gaps.T7 : Bool × List (List Nat × List Nat) := (true, [([], []), ([0], [0]), ([1], [1]), ([2], [2]), ([2], [2]), ([3, 4, 2], [2, 3, 4]), ([5, 2], [2, 5]), ([6, 2], [2, 6]), ([2], [2]), ([2], [2]), ([9, 2], [2, 9]), ([8, 10, 2], [2, 8, 10]), ([11, 2], [2, 11]), ([12, 2], [2, 12]), ([7, 13, 2], [2, 7, 13]), ([2], [2]), ([2], [2]), ([16, 2], [2, 16]), ([15, 17, 2], [2, 15, 17]), ([18, 2], [2, 18]), ([19, 2], [2, 19]), ([14, 20, 2], [2, 14, 20]), ([2], [2]), ([21, 22, 2], [2, 21, 22]), ([2, 23], [2, 23])])
def r34_Gaps.B7 : List Nat := [0, 1, 3, 7, 7, 31, 63, 127, 7, 7, 519, 1799, 3847, 7943, 16383, 7, 7, 65543, 229383, 491527, 1015815, 2097151, 7, 8388607, 16777215]
theorem r34_Gaps.tab7 : rtab .any (opsOf Try.f31 7) = r34_Gaps.T7 := by kernel_rfl
theorem r34_Gaps.bits7 : waitsOk r34_Gaps.T7.2 r34_Gaps.B7 = true := by kernel_rfl
def r34_Gaps.T8 : Bool × List (List Nat × List Nat) := (true, [([], []), ([], []), ([1], [1]), ([], []), ([], []), ([3, 4], [3, 4]), ([5], [5]), ([6], [6]), ([], []), ([], []), ([8, 9], [8, 9]), ([10], [10]), ([11], [11]), ([7, 12], [7, 12]), ([], []), ([], []), ([15], [15]), ([14, 16], [14, 16]), ([17], [17]), ([18], [18]), ([13, 19], [13, 19]), ([0, 2, 0, 1, 2, 3, 4, 5, 6, 7, 8, 9, 10, 11, 12, 13, 14, 15, 16, 17, 18, 19, 20], [0, 2]), ([21, 0, 1, 2, 3, 4, 5, 6, 7, 8, 9, 10, 11, 12, 13, 14, 15, 16, 17, 18, 19, 20], [21]), ([22, 20, 0, 1, 2, 3, 4, 5, 6, 7, 8, 9, 10, 11, 12, 13, 14, 15, 16, 17, 18, 19, 20], [20, 22])])
def r34_Gaps.B8 : List Nat := [0, 0, 2, 0, 0, 24, 56, 120, 0, 0, 768, 1792, 3840, 8184, 0, 0, 32768, 114688, 245760, 507904, 1048568, 2097151, 4194303, 8388607]
theorem r34_Gaps.tab8 : rtab .any (opsOf Try.f31 8) = r34_Gaps.T8 := by kernel_rfl
theorem r34_Gaps.bits8 : waitsOk r34_Gaps.T8.2 r34_Gaps.B8 = true := by kernel_rfl
set_option maxHeartbeats 8000000 in
set_option maxRecDepth 100000 in
theorem r34_Gaps.calls (k : Nat) (A0 : Option Addr) (c0 : Nat) (l0 : List (S25)) (a1 : Int) (r : List (S25)) (w : World) (hr0 : Kd.C k25 w A0 l0.length l0) (hc0 : l0.length ≤ c0) (h : r34_Gaps.f k l0 a1 = some r) :
  Calls Try.prog 31 #[.slice A0 l0.length c0, .int .i64 a1] w fun e w' => ∃ v0_ : Value, e = .returned (v0_) ∧ Kd.R k25 25 w' w.heap.size (fun _ => True) v0_ r ∧ Below w.heap.size w w' := by
 have hu25 := Try.underlying25
 have HR0 := am hr0
 have HC0 := am hc0
 clear hr0 hc0
 have HB := am (Below.refl w.heap.size w)
 have H : ((r34_Normal.f k l0).bind fun t428 => (r34_Gaps.l0 k a1 t428 (([] : List (S25))) 0)) = some r := h
 clear h
 replace H := Option.bind_eq_some_iff.mp H
 obtain ⟨t428, A30, H⟩ := H
 replace H : (r34_Gaps.l0 k a1 t428 (([] : List (S25))) 0) = some r := H
 have A3 := am A30
 clear A30
 obtain ⟨y431, hy431⟩ : ∃ y_ : List (S25), y_ = (([] : List (S25))) := ⟨_, rfl⟩
 replace H : (r34_Gaps.l0 k a1 t428 y431 0) = some r := by first | (rw [hy431]; with_reducible exact H) | (have H2_ := (Option.bind_some _ _).symm.trans H; rw [hy431]; with_reducible exact H2_) | (have H2_ := (Option.bind_some _ _).symm.trans H; with_reducible exact H2_) | with_reducible exact H | (rw [hy431]; exact H) | exact H
 have Ny431 := am hy431
 clear hy431
 have H' := am H
 clear H
 go_enter Try.func31, Try.ntmps31
 go_wp2_with (first | ((with_reducible refine gate_callee (f := 37) rfl ?_); refine goesL_ (some 10) rfl rfl Try.func37 (by kernel_rfl) rfl #[.slice A0 l0.length c0] rfl zM ?_; (with_reducible refine (r34_Normal.calls k _ _ l0 t428 _ ?side1 ?side2 A3.out).mono ?_); (case side1 => repeat (first | exact HR0.out | (with_reducible refine Kd.C_alloc ?_ _) | (with_reducible refine Kd.C_drewN ?_ _) | (with_reducible refine Kd.C_drew ?_))); (case side2 => exact HC0.out); rintro e w4 ⟨v429, rfl, ho0, hb⟩; refine ⟨_, rfl, ?_⟩; have n0_ := am (Kd.R_lower ho0 (below_size (zB HB))); have n1_ := am (below_step (zB HB) hb); clear HB; have HO430 := n0_; have HB := n1_; clear n0_ n1_; (try clear hb); (try clear hb2); (try clear hk); (try clear hi); (try clear ho0)) | ((with_reducible refine gate_dst (N := 11) rfl ?_); refine Kd.R_lit k25 _ 25 ?hg (N := 11) ?hd (xs := ([] : List (S25))) (inner := []) (ok := fun _ => True) (okp := fun _ => True) ?hr ?hp (fun _ hk => hk) trivial (Below.refl _ _) (Nat.le_refl _) (by simp) ?_; (case hd => rfl); (case hg => rfl); (case hr => first | (go_simp; done) | (go_simp; rfl)); (case hp => exact (Reps.none _ _)); intro v432 w5 ho6 hb hg_ hnew_; clear hg_ hnew_; (first | rw [← Ny431.out] at ho6 | (simp only [Int.reduceToNat] at ho6; rw [← Ny431.out] at ho6)); have n0_ := am (Kd.R_elder' (zR HO430.out) (Kd.R_base ho6) hb); have n1_ := am (Kd.R_lower (Kd.R_new' ho6 (Kd.R_lt (zR HO430.out))) (below_size (zB HB))); have n2_ := am (below_step (zB HB) hb); clear HO430; clear HB; have HO430 := n0_; have HO433 := n1_; have HB := n2_; clear n0_ n1_ n2_; clear hb ho6))
 go_loopg [6, 7] k (fun kq v6 v7 w' => ∃ (x5_1 : List (S25)) (x6_1 : List (S25)) (x7_1 : Int), v7 = .int .i64 x7_1 ∧ Aside0 (r34_Gaps.l0 kq a1 x5_1 x6_1 x7_1 = some r) ∧ Aside0 (kq ≤ k) ∧ Aside0 (Kd.R k25 25 w' w.heap.size (fun k_ => some k_ ≠ (v6 : Value).ownBlock) v429 x5_1) ∧ Aside0 (Kd.R k25 25 w' w.heap.size (fun k_ => some k_ ≠ (v429 : Value).ownBlock) v6 x6_1) ∧ Aside0 (Below w.heap.size w w'))
 case atStart => exact ⟨(t428), (y431), (0), zS, H', ⟨Nat.le_refl _⟩, ⟨by refine zR ?_; exact Kd.R_mono HO430.out (fun _ hk => hk.2)⟩, ⟨by refine zR ?_; exact Kd.R_mono HO433.out (fun _ hk => hk.2)⟩, ⟨zB HB⟩⟩
 case round =>
  clear H'
  try clear p2
  try clear c3
  obtain ⟨x5_1, x6_1, x7_1, rfl, HA, HK1, HO_5, HO_6, HB⟩ := hrel
  cases gk with
  | zero => exact absurd HA.out (by simp [r34_Gaps.l0])
  | succ k1 =>
   have H := HA.out
   clear HA
   simp only [r34_Gaps.l0] at H
   by_cases c7 : x7_1 < (x5_1.length : Int)
   ·rw [if_pos c7] at H
    have c7b0 : decide (x7_1 < (x5_1.length : Int)) = true := decide_eq_true c7
    clear c7
    have HC8 := am H
    clear H
    obtain ⟨Ao9, co9, eo9⟩ := Kd.R_slice HO_5.out
    subst eo9
    obtain ⟨Ao10, co10, eo10⟩ := Kd.R_slice HO_6.out
    subst eo10
    go_upto_region 7 with (fail)
    go_cut [44] (fun v44 wc => ∃ (kq : Nat) (x44_7 : Bool), v44 = .bool x44_7 ∧ Aside0 (r34_Gaps.j1 kq a1 x5_1 x6_1 x7_1 (x6_1.length : Int) x44_7 = some r) ∧ Aside0 (kq ≤ k1) ∧ Aside0 (Kd.R k25 25 wc w.heap.size (fun k_ => some k_ ≠ ((.slice Ao10 x6_1.length co10) : Value).ownBlock) (.slice Ao9 x5_1.length co9) x5_1) ∧ Aside0 (Kd.R k25 25 wc w.heap.size (fun k_ => some k_ ≠ ((.slice Ao9 x5_1.length co9) : Value).ownBlock) (.slice Ao10 x6_1.length co10) x6_1) ∧ Aside0 (Below w.heap.size w wc))
    case first =>
     have H := HC8.out
     clear HC8
     by_cases c11 : (x6_1.length : Int) > 0
     ·rw [if_pos c11] at H
      have c11b0 : decide (0 < (x6_1.length : Int)) = true := decide_eq_true c11
      have c11b1 : decide (0 < x6_1.length) = true := decide_eq_true (by omega)
      clear c11
      (first | rw [c11b0] | (simp only [i64_w, i32_w]; rw [c11b0]) | skip)
      by_cases c12 : 0 ≤ x7_1
      ·rw [if_pos c12] at H
       have c12b0 : decide (0 ≤ x7_1) = true := decide_eq_true c12
       clear c12
       obtain ⟨ji13, hji13⟩ : ∃ j_ : Int, (wrap64 ((x6_1.length : Int) - 1)) = j_ := ⟨_, rfl⟩
       replace H : (if 0 ≤ (ji13) then (if (ji13) < (x6_1.length : Int) then (r34_Gaps.j1 k1 a1 x5_1 x6_1 x7_1 (x6_1.length : Int) (decide ((wrap64 ((wrap64 (((rd_T25 x5_1 x7_1).f0) - ((rd_T25 x6_1 (ji13)).f0))) - ((rd_T25 x6_1 (ji13)).f1))) ≤ a1))) else (none)) else (none)) = some r := by first | (rw [hji13] at H; exact H) | (simp only [hji13] at H ⊢; exact H)
       have hji13w : (IntKind.i64.wrap ((x6_1.length : Int) - 1)) = ji13 := (i64_w _).trans hji13
       by_cases c14 : 0 ≤ (ji13)
       ·rw [if_pos c14] at H
        have c14b0 : decide (0 ≤ (ji13)) = true := decide_eq_true c14
        clear c14
        by_cases c15 : (ji13) < (x6_1.length : Int)
        ·rw [if_pos c15] at H
         have c15b0 : decide ((ji13) < (x6_1.length : Int)) = true := decide_eq_true c15
         clear c15
         have H' := am H
         clear H
         try go_wp2
         have n0_ := am (Kd.R_drew HO_5.out)
         have n1_ := am (Kd.R_drew HO_6.out)
         have n2_ := am (below_drew1 HB.out)
         clear HO_5
         clear HO_6
         clear HB
         have HO_5 := n0_
         have HO_6 := n1_
         have HB := n2_
         clear n0_ n1_ n2_
         have p434 : 0 ≤ (x7_1 : Int) := of_decide_eq_true zA
         have q434 : x7_1 < (x5_1.length : Int) := of_decide_eq_true zA
         obtain ⟨ad434, e434, hx434_0, hx434_1⟩ := at_T25 (Kd.R_reads' HO_5.out).2.2 x7_1 p434 q434
         cases e434
         replace p434 := eq_true p434
         replace q434 := eq_true q434
         have p435 : 0 ≤ ((ji13) : Int) := of_decide_eq_true zA
         have q435 : (ji13) < (x6_1.length : Int) := of_decide_eq_true zA
         obtain ⟨ad435, e435, hx435_0, hx435_1⟩ := at_T25 (Kd.R_reads' HO_6.out).2.2 (ji13) p435 q435
         cases e435
         replace p435 := eq_true p435
         replace q435 := eq_true q435
         have p436 : 0 ≤ ((ji13) : Int) := of_decide_eq_true zA
         have q436 : (ji13) < (x6_1.length : Int) := of_decide_eq_true zA
         obtain ⟨ad436, e436, hx436_0, hx436_1⟩ := at_T25 (Kd.R_reads' HO_6.out).2.2 (ji13) p436 q436
         obtain rfl : ad435 = ad436 := (by injection e436)
         replace p436 := eq_true p436
         replace q436 := eq_true q436
         refine start_ (n := 25) (S := fun w' => w'.cell? (ad434.add ((x7_1).toNat * 2)) = some (.int .i64 ((rd_T25 x5_1 x7_1).f0)) ∧ w'.cell? ⟨(ad434.add ((x7_1).toNat * 2)).block, (ad434.add ((x7_1).toNat * 2)).off + 1, none⟩ = some (.int .i64 ((rd_T25 x5_1 x7_1).f1)) ∧ w'.cell? (ad435.add (((ji13)).toNat * 2)) = some (.int .i64 ((rd_T25 x6_1 (ji13)).f0)) ∧ w'.cell? ⟨(ad435.add (((ji13)).toNat * 2)).block, (ad435.add (((ji13)).toNat * 2)).off + 1, none⟩ = some (.int .i64 ((rd_T25 x6_1 (ji13)).f1)) ∧ w'.cell? (ad435.add (((ji13)).toNat * 2)) = some (.int .i64 ((rd_T25 x6_1 (ji13)).f0)) ∧ w'.cell? ⟨(ad435.add (((ji13)).toNat * 2)).block, (ad435.add (((ji13)).toNat * 2)).off + 1, none⟩ = some (.int .i64 ((rd_T25 x6_1 (ji13)).f1))) (ds := []) #[F,F,F,F,F,F,F,F,F,F,F,F,F,F,F,F,F,F,F,F,F,F,F,F,F] (by kernel_rfl) rfl rfl ⟨hx434_0, hx434_1, hx435_0, hx435_1, hx436_0, hx436_1⟩ (fun hHeld => ?_); refine with_tabW r34_Gaps.tab7 r34_Gaps.bits7 (fun HT_ HW_ => ?_)
         generalize wr.drew = w16 at HO_5 HO_6 HB hx434_0 hx434_1 hx435_0 hx435_1 hx436_0 hx436_1 hHeld ⊢
         refine pure_ (i := 0) (N := some 20) (v := ?_) (a' := ?_) #[T,F,F,F,F,F,F,F,F,F,F,F,F,F,F,F,F,F,F,F,F,F,F,F,F] rfl rfl (zO HT_) (fun _ _ _ h => h) (Or.inl ⟨by rfl, ?_⟩) ?_ ?_
         rotate_left
         ·intro w'
          go_simp
          with_reducible rfl
         rotate_left
         ·exact zP i64_w i32_w
         refine pure_ (i := 1) (N := some 21) (v := ?_) (a' := ?_) #[T,T,F,F,F,F,F,F,F,F,F,F,F,F,F,F,F,F,F,F,F,F,F,F,F] rfl rfl (zO HT_) (fun _ _ _ h => h) (Or.inl ⟨by rfl, ?_⟩) ?_ ?_
         rotate_left
         ·intro w'
          go_simp
          with_reducible rfl
         rotate_left
         ·exact zP i64_w i32_w
         refine pure_ (i := 2) (N := some 22) (v := ?_) (a' := ?_) #[T,T,T,F,F,F,F,F,F,F,F,F,F,F,F,F,F,F,F,F,F,F,F,F,F] rfl rfl (zO HT_) (fun _ _ _ h => h) (Or.inl ⟨by rfl, ?_⟩) ?_ ?_
         rotate_left
         ·intro w'
          go_simp
          with_reducible rfl
         rotate_left
         ·exact zP i64_w i32_w
         refine pure_ (i := 3) (N := some 23) (v := ?_) (a' := ?_) #[T,T,T,T,F,F,F,F,F,F,F,F,F,F,F,F,F,F,F,F,F,F,F,F,F] rfl rfl (zO HT_) (fun _ _ _ h => h) (Or.inl ⟨by rfl, ?_⟩) ?_ ?_
         rotate_left
         ·intro w'
          go_simp
          with_reducible rfl
         rotate_left
         ·exact zP i64_w i32_w
         refine pure_ (i := 4) (N := some 24) (v := ?_) (a' := ?_) #[T,T,T,T,T,F,F,F,F,F,F,F,F,F,F,F,F,F,F,F,F,F,F,F,F] rfl rfl (zO HT_) (fun _ _ _ h => h) (Or.inl ⟨by rfl, ?_⟩) ?_ ?_
         rotate_left
         ·intro w'
          go_simp
          with_reducible rfl
         rotate_left
         ·exact zP i64_w i32_w
         refine pure_ (i := 5) (N := some 25) (v := ?_) (a' := ?_) #[T,T,T,T,T,T,F,F,F,F,F,F,F,F,F,F,F,F,F,F,F,F,F,F,F] rfl rfl (zO HT_) (fun _ _ _ h => h) (Or.inl ⟨by rfl, ?_⟩) ?_ ?_
         rotate_left
         ·intro w'
          go_simp
          with_reducible rfl
         rotate_left
         ·exact zP i64_w i32_w
         refine pure_ (i := 6) (N := some 26) (v := ?_) (a' := ?_) #[T,T,T,T,T,T,T,F,F,F,F,F,F,F,F,F,F,F,F,F,F,F,F,F,F] rfl rfl (zO HT_) (fun _ _ _ h => h) (Or.inl ⟨by rfl, ?_⟩) ?_ ?_
         rotate_left
         ·intro w'
          go_simp
          with_reducible rfl
         rotate_left
         ·exact zP i64_w i32_w
         refine pure_ (i := 8) (N := some 28) (v := ?_) (a' := ?_) #[T,T,T,T,T,T,T,F,T,F,F,F,F,F,F,F,F,F,F,F,F,F,F,F,F] rfl rfl (zO HT_) (fun _ _ _ h => h) (Or.inl ⟨by rfl, ?_⟩) ?_ ?_
         rotate_left
         ·intro w'
          go_simp
          with_reducible rfl
         rotate_left
         ·exact zP i64_w i32_w
         refine pure_ (i := 9) (N := some 29) (v := ?_) (a' := ?_) #[T,T,T,T,T,T,T,F,T,T,F,F,F,F,F,F,F,F,F,F,F,F,F,F,F] rfl rfl (zO HT_) (fun _ _ _ h => h) (Or.inl ⟨by rfl, ?_⟩) ?_ ?_
         rotate_left
         ·intro w'
          go_simp
          with_reducible rfl
         rotate_left
         ·exact zP i64_w i32_w
         refine pure_ (i := 10) (N := some 30) (v := ?_) (a' := ?_) #[T,T,T,T,T,T,T,F,T,T,T,F,F,F,F,F,F,F,F,F,F,F,F,F,F] rfl rfl (zO HT_) (fun _ _ _ h => h) (Or.inl ⟨by rfl, ?_⟩) ?_ ?_
         rotate_left
         ·intro w'
          go_simp
          with_reducible rfl
         rotate_left
         ·exact zP i64_w i32_w
         refine pure_ (i := 11) (N := some 31) (v := ?_) (a' := ?_) #[T,T,T,T,T,T,T,F,T,T,T,T,F,F,F,F,F,F,F,F,F,F,F,F,F] rfl rfl (zO HT_) (fun _ _ _ h => h) (Or.inl ⟨by rfl, ?_⟩) ?_ ?_
         rotate_left
         ·intro w'
          go_simp
          with_reducible rfl
         rotate_left
         ·exact zP i64_w i32_w
         refine pure_ (i := 12) (N := some 32) (v := ?_) (a' := ?_) #[T,T,T,T,T,T,T,F,T,T,T,T,T,F,F,F,F,F,F,F,F,F,F,F,F] rfl rfl (zO HT_) (fun _ _ _ h => h) (Or.inl ⟨by rfl, ?_⟩) ?_ ?_
         rotate_left
         ·intro w'
          go_simp
          with_reducible rfl
         rotate_left
         ·exact zP i64_w i32_w
         refine pure_ (i := 15) (N := some 35) (v := ?_) (a' := ?_) #[T,T,T,T,T,T,T,F,T,T,T,T,T,F,F,T,F,F,F,F,F,F,F,F,F] rfl rfl (zO HT_) (fun _ _ _ h => h) (Or.inl ⟨by rfl, ?_⟩) ?_ ?_
         rotate_left
         ·intro w'
          go_simp
          with_reducible rfl
         rotate_left
         ·exact zP i64_w i32_w
         refine pure_ (i := 16) (N := some 36) (v := ?_) (a' := ?_) #[T,T,T,T,T,T,T,F,T,T,T,T,T,F,F,T,T,F,F,F,F,F,F,F,F] rfl rfl (zO HT_) (fun _ _ _ h => h) (Or.inl ⟨by rfl, ?_⟩) ?_ ?_
         rotate_left
         ·intro w'
          go_simp
          with_reducible rfl
         rotate_left
         ·exact zP i64_w i32_w
         refine pure_ (i := 17) (N := some 37) (v := ?_) (a' := ?_) #[T,T,T,T,T,T,T,F,T,T,T,T,T,F,F,T,T,T,F,F,F,F,F,F,F] rfl rfl (zO HT_) (fun _ _ _ h => h) (Or.inl ⟨by rfl, ?_⟩) ?_ ?_
         rotate_left
         ·intro w'
          go_simp
          with_reducible rfl
         rotate_left
         ·exact zP i64_w i32_w
         refine pure_ (i := 18) (N := some 38) (v := ?_) (a' := ?_) #[T,T,T,T,T,T,T,F,T,T,T,T,T,F,F,T,T,T,T,F,F,F,F,F,F] rfl rfl (zO HT_) (fun _ _ _ h => h) (Or.inl ⟨by rfl, ?_⟩) ?_ ?_
         rotate_left
         ·intro w'
          go_simp
          with_reducible rfl
         rotate_left
         ·exact zP i64_w i32_w
         refine pure_ (i := 19) (N := some 39) (v := ?_) (a' := ?_) #[T,T,T,T,T,T,T,F,T,T,T,T,T,F,F,T,T,T,T,T,F,F,F,F,F] rfl rfl (zO HT_) (fun _ _ _ h => h) (Or.inl ⟨by rfl, ?_⟩) ?_ ?_
         rotate_left
         ·intro w'
          go_simp
          with_reducible rfl
         rotate_left
         ·exact zP i64_w i32_w
         refine pure_ (i := 22) (N := some 42) (v := ?_) (a' := ?_) #[T,T,T,T,T,T,T,F,T,T,T,T,T,F,F,T,T,T,T,T,F,F,T,F,F] rfl rfl (zO HT_) (fun _ _ _ h => h) (Or.inl ⟨by rfl, ?_⟩) ?_ ?_
         rotate_left
         ·intro w'
          go_simp
          with_reducible rfl
         rotate_left
         ·exact zP i64_w i32_w
         refine take_ (i := 7) (N := some 27) (v := ?_) (a' := ?_) #[T,T,T,T,T,T,T,T,T,T,T,T,T,F,F,T,T,T,T,T,F,F,T,F,F] rfl rfl (take_ofW HT_.out HW_.out (by kernel_rfl)) (fun _ _ _ h => h) (Or.inl ⟨by rfl, ?_⟩) hHeld ?_ ?_
         rotate_left
         ·rintro w' ⟨s0, s1, s2, s3, s4, s5⟩
          go_simp
          with_reducible rfl
         rotate_left
         ·exact zP i64_w i32_w
         refine take_ (i := 13) (N := some 33) (v := ?_) (a' := ?_) #[T,T,T,T,T,T,T,T,T,T,T,T,T,T,F,T,T,T,T,T,F,F,T,F,F] rfl rfl (take_ofW HT_.out HW_.out (by kernel_rfl)) (fun _ _ _ h => h) (Or.inl ⟨by rfl, ?_⟩) hHeld ?_ ?_
         rotate_left
         ·rintro w' ⟨s0, s1, s2, s3, s4, s5⟩
          go_simp
          with_reducible rfl
         rotate_left
         ·exact zP i64_w i32_w
         refine pure_ (i := 14) (N := some 34) (v := ?_) (a' := ?_) #[T,T,T,T,T,T,T,T,T,T,T,T,T,T,T,T,T,T,T,T,F,F,T,F,F] rfl rfl (zO HT_) (fun _ _ _ h => h) (Or.inl ⟨by rfl, ?_⟩) ?_ ?_
         rotate_left
         ·intro w'
          go_simp
          with_reducible rfl
         rotate_left
         ·exact zP i64_w i32_w
         refine take_ (i := 20) (N := some 40) (v := ?_) (a' := ?_) #[T,T,T,T,T,T,T,T,T,T,T,T,T,T,T,T,T,T,T,T,T,F,T,F,F] rfl rfl (take_ofW HT_.out HW_.out (by kernel_rfl)) (fun _ _ _ h => h) (Or.inl ⟨by rfl, ?_⟩) hHeld ?_ ?_
         rotate_left
         ·rintro w' ⟨s0, s1, s2, s3, s4, s5⟩
          go_simp
          with_reducible rfl
         rotate_left
         ·exact zP i64_w i32_w
         refine pure_ (i := 21) (N := some 41) (v := ?_) (a' := ?_) #[T,T,T,T,T,T,T,T,T,T,T,T,T,T,T,T,T,T,T,T,T,T,T,F,F] rfl rfl (zO HT_) (fun _ _ _ h => h) (Or.inl ⟨by rfl, ?_⟩) ?_ ?_
         rotate_left
         ·intro w'
          go_simp
          with_reducible rfl
         rotate_left
         ·exact zP i64_w i32_w
         refine pure_ (i := 23) (N := some 43) (v := ?_) (a' := ?_) #[T,T,T,T,T,T,T,T,T,T,T,T,T,T,T,T,T,T,T,T,T,T,T,T,F] rfl rfl (zO HT_) (fun _ _ _ h => h) (Or.inl ⟨by rfl, ?_⟩) ?_ ?_
         rotate_left
         ·intro w'
          go_simp
          with_reducible rfl
         rotate_left
         ·exact zP i64_w i32_w
         refine pure_ (i := 24) (N := some 44) (v := ?_) (a' := ?_) #[T,T,T,T,T,T,T,T,T,T,T,T,T,T,T,T,T,T,T,T,T,T,T,T,T] rfl rfl (zO HT_) (fun _ _ _ h => h) (Or.inl ⟨by rfl, ?_⟩) ?_ ?_
         rotate_left
         ·intro w'
          go_simp
          with_reducible rfl
         rotate_left
         ·exact zP i64_w i32_w
         refine done_ (done_of HT_.out (by kernel_rfl)) ?_
         try go_wp2
         (try simp only [show (Value.int .i64 ji13) = .int .i64 (wrap64 ((x6_1.length : Int) - 1)) from by rw [hji13]])
         go_meet
         case rel => exact ⟨k1, (decide ((wrap64 ((wrap64 (((rd_T25 x5_1 x7_1).f0) - ((rd_T25 x6_1 (ji13)).f0))) - ((rd_T25 x6_1 (ji13)).f1))) ≤ a1)), (by first | rfl | (simp; done) | (simp only [← hji13] <;> (first | rfl | simp)) | (simp [*]; done)), (by first | exact H' | (rw [hji13]; exact H') | (simp only [hji13]; exact H')), ⟨by have := HK1.out; first | omega | exact Nat.le_refl _⟩, ⟨zR HO_5.out⟩, ⟨zR HO_6.out⟩, ⟨zB HB⟩⟩
        ·rw [if_neg c15] at H
         exact absurd H (by simp)
       ·rw [if_neg c14] at H
        exact absurd H (by simp)
      ·rw [if_neg c12] at H
       exact absurd H (by simp)
     ·rw [if_neg c11] at H
      have c11b0 : decide (0 < (x6_1.length : Int)) = false := decide_eq_false c11
      have c11b1 : decide (0 < x6_1.length) = false := decide_eq_false (by omega)
      clear c11
      (first | rw [c11b0] | (simp only [i64_w, i32_w]; rw [c11b0]) | skip)
      have H' := am H
      clear H
      try go_wp2
      have n0_ := am (Kd.R_drew HO_5.out)
      have n1_ := am (Kd.R_drew HO_6.out)
      have n2_ := am (below_drew1 HB.out)
      clear HO_5
      clear HO_6
      clear HB
      have HO_5 := n0_
      have HO_6 := n1_
      have HB := n2_
      clear n0_ n1_ n2_
      refine start_ (n := 25) (S := fun w' => True) (ds := []) #[F,F,F,F,F,F,F,F,F,F,F,F,F,F,F,F,F,F,F,F,F,F,F,F,F] (by kernel_rfl) rfl rfl trivial (fun hHeld => ?_); refine with_tabW r34_Gaps.tab7 r34_Gaps.bits7 (fun HT_ HW_ => ?_)
      generalize wr.drew = w17 at HO_5 HO_6 HB hHeld ⊢
      refine pure_ (i := 0) (N := some 20) (v := ?_) (a' := ?_) #[T,F,F,F,F,F,F,F,F,F,F,F,F,F,F,F,F,F,F,F,F,F,F,F,F] rfl rfl (zO HT_) (fun _ _ _ h => h) (Or.inl ⟨by rfl, ?_⟩) ?_ ?_
      rotate_left
      ·intro w'
       go_simp
       with_reducible rfl
      rotate_left
      ·exact zP i64_w i32_w
      refine pure_ (i := 1) (N := some 21) (v := ?_) (a' := ?_) #[T,T,F,F,F,F,F,F,F,F,F,F,F,F,F,F,F,F,F,F,F,F,F,F,F] rfl rfl (zO HT_) (fun _ _ _ h => h) (Or.inl ⟨by rfl, ?_⟩) ?_ ?_
      rotate_left
      ·intro w'
       go_simp
       with_reducible rfl
      rotate_left
      ·exact zP i64_w i32_w
      refine pure_ (i := 2) (N := some 22) (v := ?_) (a' := ?_) #[T,T,T,F,F,F,F,F,F,F,F,F,F,F,F,F,F,F,F,F,F,F,F,F,F] rfl rfl (zO HT_) (fun _ _ _ h => h) (Or.inl ⟨by rfl, ?_⟩) ?_ ?_
      rotate_left
      ·intro w'
       go_simp
       with_reducible rfl
      rotate_left
      ·exact zP i64_w i32_w
      refine pure_ (i := 3) (N := some 23) (v := undef) (a' := ?_) #[T,T,T,T,F,F,F,F,F,F,F,F,F,F,F,F,F,F,F,F,F,F,F,F,F] rfl rfl (zO HT_) (fun _ _ _ h => h) (Or.inr ⟨by rfl, rfl⟩) ?_ ?_
      rotate_left
      ·exact zP i64_w i32_w
      refine pure_ (i := 4) (N := some 24) (v := undef) (a' := ?_) #[T,T,T,T,T,F,F,F,F,F,F,F,F,F,F,F,F,F,F,F,F,F,F,F,F] rfl rfl (zO HT_) (fun _ _ _ h => h) (Or.inr ⟨by rfl, rfl⟩) ?_ ?_
      rotate_left
      ·exact zP i64_w i32_w
      refine pure_ (i := 5) (N := some 25) (v := undef) (a' := ?_) #[T,T,T,T,T,T,F,F,F,F,F,F,F,F,F,F,F,F,F,F,F,F,F,F,F] rfl rfl (zO HT_) (fun _ _ _ h => h) (Or.inr ⟨by rfl, rfl⟩) ?_ ?_
      rotate_left
      ·exact zP i64_w i32_w
      refine pure_ (i := 6) (N := some 26) (v := undef) (a' := ?_) #[T,T,T,T,T,T,T,F,F,F,F,F,F,F,F,F,F,F,F,F,F,F,F,F,F] rfl rfl (zO HT_) (fun _ _ _ h => h) (Or.inr ⟨by rfl, rfl⟩) ?_ ?_
      rotate_left
      ·exact zP i64_w i32_w
      refine pure_ (i := 7) (N := some 27) (v := undef) (a' := ?_) #[T,T,T,T,T,T,T,T,F,F,F,F,F,F,F,F,F,F,F,F,F,F,F,F,F] rfl rfl (zO HT_) (fun _ _ _ h => h) (Or.inr ⟨by rfl, rfl⟩) ?_ ?_
      rotate_left
      ·exact zP i64_w i32_w
      refine pure_ (i := 8) (N := some 28) (v := undef) (a' := ?_) #[T,T,T,T,T,T,T,T,T,F,F,F,F,F,F,F,F,F,F,F,F,F,F,F,F] rfl rfl (zO HT_) (fun _ _ _ h => h) (Or.inr ⟨by rfl, rfl⟩) ?_ ?_
      rotate_left
      ·exact zP i64_w i32_w
      refine pure_ (i := 9) (N := some 29) (v := undef) (a' := ?_) #[T,T,T,T,T,T,T,T,T,T,F,F,F,F,F,F,F,F,F,F,F,F,F,F,F] rfl rfl (zO HT_) (fun _ _ _ h => h) (Or.inr ⟨by rfl, rfl⟩) ?_ ?_
      rotate_left
      ·exact zP i64_w i32_w
      refine pure_ (i := 10) (N := some 30) (v := undef) (a' := ?_) #[T,T,T,T,T,T,T,T,T,T,T,F,F,F,F,F,F,F,F,F,F,F,F,F,F] rfl rfl (zO HT_) (fun _ _ _ h => h) (Or.inr ⟨by rfl, rfl⟩) ?_ ?_
      rotate_left
      ·exact zP i64_w i32_w
      refine pure_ (i := 11) (N := some 31) (v := undef) (a' := ?_) #[T,T,T,T,T,T,T,T,T,T,T,T,F,F,F,F,F,F,F,F,F,F,F,F,F] rfl rfl (zO HT_) (fun _ _ _ h => h) (Or.inr ⟨by rfl, rfl⟩) ?_ ?_
      rotate_left
      ·exact zP i64_w i32_w
      refine pure_ (i := 12) (N := some 32) (v := undef) (a' := ?_) #[T,T,T,T,T,T,T,T,T,T,T,T,T,F,F,F,F,F,F,F,F,F,F,F,F] rfl rfl (zO HT_) (fun _ _ _ h => h) (Or.inr ⟨by rfl, rfl⟩) ?_ ?_
      rotate_left
      ·exact zP i64_w i32_w
      refine pure_ (i := 13) (N := some 33) (v := undef) (a' := ?_) #[T,T,T,T,T,T,T,T,T,T,T,T,T,T,F,F,F,F,F,F,F,F,F,F,F] rfl rfl (zO HT_) (fun _ _ _ h => h) (Or.inr ⟨by rfl, rfl⟩) ?_ ?_
      rotate_left
      ·exact zP i64_w i32_w
      refine pure_ (i := 14) (N := some 34) (v := undef) (a' := ?_) #[T,T,T,T,T,T,T,T,T,T,T,T,T,T,T,F,F,F,F,F,F,F,F,F,F] rfl rfl (zO HT_) (fun _ _ _ h => h) (Or.inr ⟨by rfl, rfl⟩) ?_ ?_
      rotate_left
      ·exact zP i64_w i32_w
      refine pure_ (i := 15) (N := some 35) (v := undef) (a' := ?_) #[T,T,T,T,T,T,T,T,T,T,T,T,T,T,T,T,F,F,F,F,F,F,F,F,F] rfl rfl (zO HT_) (fun _ _ _ h => h) (Or.inr ⟨by rfl, rfl⟩) ?_ ?_
      rotate_left
      ·exact zP i64_w i32_w
      refine pure_ (i := 16) (N := some 36) (v := undef) (a' := ?_) #[T,T,T,T,T,T,T,T,T,T,T,T,T,T,T,T,T,F,F,F,F,F,F,F,F] rfl rfl (zO HT_) (fun _ _ _ h => h) (Or.inr ⟨by rfl, rfl⟩) ?_ ?_
      rotate_left
      ·exact zP i64_w i32_w
      refine pure_ (i := 17) (N := some 37) (v := undef) (a' := ?_) #[T,T,T,T,T,T,T,T,T,T,T,T,T,T,T,T,T,T,F,F,F,F,F,F,F] rfl rfl (zO HT_) (fun _ _ _ h => h) (Or.inr ⟨by rfl, rfl⟩) ?_ ?_
      rotate_left
      ·exact zP i64_w i32_w
      refine pure_ (i := 18) (N := some 38) (v := undef) (a' := ?_) #[T,T,T,T,T,T,T,T,T,T,T,T,T,T,T,T,T,T,T,F,F,F,F,F,F] rfl rfl (zO HT_) (fun _ _ _ h => h) (Or.inr ⟨by rfl, rfl⟩) ?_ ?_
      rotate_left
      ·exact zP i64_w i32_w
      refine pure_ (i := 19) (N := some 39) (v := undef) (a' := ?_) #[T,T,T,T,T,T,T,T,T,T,T,T,T,T,T,T,T,T,T,T,F,F,F,F,F] rfl rfl (zO HT_) (fun _ _ _ h => h) (Or.inr ⟨by rfl, rfl⟩) ?_ ?_
      rotate_left
      ·exact zP i64_w i32_w
      refine pure_ (i := 20) (N := some 40) (v := undef) (a' := ?_) #[T,T,T,T,T,T,T,T,T,T,T,T,T,T,T,T,T,T,T,T,T,F,F,F,F] rfl rfl (zO HT_) (fun _ _ _ h => h) (Or.inr ⟨by rfl, rfl⟩) ?_ ?_
      rotate_left
      ·exact zP i64_w i32_w
      refine pure_ (i := 21) (N := some 41) (v := undef) (a' := ?_) #[T,T,T,T,T,T,T,T,T,T,T,T,T,T,T,T,T,T,T,T,T,T,F,F,F] rfl rfl (zO HT_) (fun _ _ _ h => h) (Or.inr ⟨by rfl, rfl⟩) ?_ ?_
      rotate_left
      ·exact zP i64_w i32_w
      refine pure_ (i := 22) (N := some 42) (v := undef) (a' := ?_) #[T,T,T,T,T,T,T,T,T,T,T,T,T,T,T,T,T,T,T,T,T,T,T,F,F] rfl rfl (zO HT_) (fun _ _ _ h => h) (Or.inr ⟨by rfl, rfl⟩) ?_ ?_
      rotate_left
      ·exact zP i64_w i32_w
      refine pure_ (i := 23) (N := some 43) (v := undef) (a' := ?_) #[T,T,T,T,T,T,T,T,T,T,T,T,T,T,T,T,T,T,T,T,T,T,T,T,F] rfl rfl (zO HT_) (fun _ _ _ h => h) (Or.inr ⟨by rfl, rfl⟩) ?_ ?_
      rotate_left
      ·exact zP i64_w i32_w
      refine pure_ (i := 24) (N := some 44) (v := ?_) (a' := ?_) #[T,T,T,T,T,T,T,T,T,T,T,T,T,T,T,T,T,T,T,T,T,T,T,T,T] rfl rfl (zO HT_) (fun _ _ _ h => h) (Or.inl ⟨by rfl, ?_⟩) ?_ ?_
      rotate_left
      ·intro w'
       go_simp
       with_reducible rfl
      rotate_left
      ·exact zP i64_w i32_w
      refine done_ (done_of HT_.out (by kernel_rfl)) ?_
      try go_wp2
      go_meet
      case rel => exact ⟨_, (false), zS, H', ⟨by have := HK1.out; first | omega | exact Nat.le_refl _⟩, ⟨zR HO_5.out⟩, ⟨zR HO_6.out⟩, ⟨zB HB⟩⟩
    case rest =>
     clear HC8
     try clear c1
     try clear p2
     try clear c3
     try clear p4
     try clear q4
     try clear hx4
     try clear p6
     try clear c7
     try clear c7b0
     try clear c11
     try clear c11b0
     try clear c11b1
     try clear c12
     try clear c12b0
     try clear c14
     try clear c14b0
     try clear c15
     try clear c15b0
     try clear hx434_0
     try clear hx434_1
     try clear hx435_0
     try clear hx435_1
     try clear hx436_0
     try clear hx436_1
     try clear p2
     try clear p434
     try clear p435
     try clear p436
     try clear q434
     try clear q435
     try clear q436
     obtain ⟨kq, x44_7, rfl, HA, HJ7, HO_5, HO_6, HB⟩ := hcut
     cases kq with
     | zero => exact absurd HA.out (by simp [r34_Gaps.j1])
     | succ kj7 =>
      have H := HA.out
      clear HA
      simp only [r34_Gaps.j1] at H
      by_cases c18 : x44_7 = true
      ·subst c18
       have H1 : (if 0 ≤ x7_1 then (if x7_1 < (x5_1.length : Int) then (if 0 ≤ (wrap64 ((x6_1.length : Int) - 1)) then (if (wrap64 ((x6_1.length : Int) - 1)) < (x6_1.length : Int) then (r34_Gaps.l0 kj7 a1 x5_1 (x6_1.set ((wrap64 ((x6_1.length : Int) - 1)) : Int).toNat (⟨(rd_T25 x6_1 (wrap64 ((x6_1.length : Int) - 1))).f0, wrap64 ((wrap64 (((rd_T25 x5_1 x7_1).f0) + ((rd_T25 x5_1 x7_1).f1))) - ((rd_T25 x6_1 (wrap64 ((x6_1.length : Int) - 1))).f0))⟩ : S25)) (wrap64 (x7_1 + 1))) else (none)) else (none)) else (none)) else (none)) = some r := by rw [if_pos rfl] at H; exact H
       clear H
       have H := H1
       clear H1
       by_cases c19 : 0 ≤ x7_1
       ·rw [if_pos c19] at H
        have c19b0 : decide (0 ≤ x7_1) = true := decide_eq_true c19
        clear c19
        by_cases c20 : x7_1 < (x5_1.length : Int)
        ·rw [if_pos c20] at H
         have c20b0 : decide (x7_1 < (x5_1.length : Int)) = true := decide_eq_true c20
         clear c20
         obtain ⟨ji21, hji21⟩ : ∃ j_ : Int, (wrap64 ((x6_1.length : Int) - 1)) = j_ := ⟨_, rfl⟩
         replace H : (if 0 ≤ (ji21) then (if (ji21) < (x6_1.length : Int) then (r34_Gaps.l0 kj7 a1 x5_1 (x6_1.set ((ji21) : Int).toNat (⟨(rd_T25 x6_1 (ji21)).f0, wrap64 ((wrap64 (((rd_T25 x5_1 x7_1).f0) + ((rd_T25 x5_1 x7_1).f1))) - ((rd_T25 x6_1 (ji21)).f0))⟩ : S25)) (wrap64 (x7_1 + 1))) else (none)) else (none)) = some r := by first | (rw [hji21] at H; exact H) | (simp only [hji21] at H ⊢; exact H)
         have hji21w : (IntKind.i64.wrap ((x6_1.length : Int) - 1)) = ji21 := (i64_w _).trans hji21
         by_cases c22 : 0 ≤ (ji21)
         ·rw [if_pos c22] at H
          have c22b0 : decide (0 ≤ (ji21)) = true := decide_eq_true c22
          clear c22
          by_cases c23 : (ji21) < (x6_1.length : Int)
          ·rw [if_pos c23] at H
           have c23b0 : decide ((ji21) < (x6_1.length : Int)) = true := decide_eq_true c23
           clear c23
           obtain ⟨y440, hy440⟩ : ∃ y_ : List (S25), y_ = (x6_1.set ((ji21) : Int).toNat (⟨(rd_T25 x6_1 (ji21)).f0, wrap64 ((wrap64 (((rd_T25 x5_1 x7_1).f0) + ((rd_T25 x5_1 x7_1).f1))) - ((rd_T25 x6_1 (ji21)).f0))⟩ : S25)) := ⟨_, rfl⟩
           replace H : (r34_Gaps.l0 kj7 a1 x5_1 y440 (wrap64 (x7_1 + 1))) = some r := by first | (rw [hy440]; with_reducible exact H) | (have H2_ := (Option.bind_some _ _).symm.trans H; rw [hy440]; with_reducible exact H2_) | (have H2_ := (Option.bind_some _ _).symm.trans H; with_reducible exact H2_) | with_reducible exact H | (rw [hy440]; exact H) | exact H
           have Ny440 := am hy440
           clear hy440
           have H' := am H
           clear H
           try go_wp2
           have n0_ := am (Kd.R_drew HO_5.out)
           have n1_ := am (Kd.R_drew HO_6.out)
           have n2_ := am (below_drew1 HB.out)
           clear HO_5
           clear HO_6
           clear HB
           have HO_5 := n0_
           have HO_6 := n1_
           have HB := n2_
           clear n0_ n1_ n2_
           have p437 : 0 ≤ (x7_1 : Int) := of_decide_eq_true zA
           have q437 : x7_1 < (x5_1.length : Int) := of_decide_eq_true zA
           obtain ⟨ad437, e437, hx437_0, hx437_1⟩ := at_T25 (Kd.R_reads' HO_5.out).2.2 x7_1 p437 q437
           cases e437
           replace p437 := eq_true p437
           replace q437 := eq_true q437
           have p438 : 0 ≤ (x7_1 : Int) := of_decide_eq_true zA
           have q438 : x7_1 < (x5_1.length : Int) := of_decide_eq_true zA
           obtain ⟨ad438, e438, hx438_0, hx438_1⟩ := at_T25 (Kd.R_reads' HO_5.out).2.2 x7_1 p438 q438
           obtain rfl : ad437 = ad438 := (by injection e438)
           replace p438 := eq_true p438
           replace q438 := eq_true q438
           have p439 : 0 ≤ ((ji21) : Int) := of_decide_eq_true zA
           have q439 : (ji21) < (x6_1.length : Int) := of_decide_eq_true zA
           obtain ⟨ad439, e439, hx439_0, hx439_1⟩ := at_T25 (Kd.R_reads' HO_6.out).2.2 (ji21) p439 q439
           cases e439
           replace p439 := eq_true p439
           replace q439 := eq_true q439
           have p24 : 0 ≤ ((ji21) : Int) := of_decide_eq_true zA
           have q24 : ((ji21) : Int) < ((x6_1.length : Int) : Int) := of_decide_eq_true zA
           obtain ⟨go24, co24, eo24, gb24, gl24, cl24, HG24⟩ := Kd.R_form HO_6.out (by omega)
           (first | cases eo24 | (injection eo24 with ea_ en_ ec_; (first | subst ea_ | (injection ea_ with ea_; subst ea_)); subst ec_; clear en_))
           have GB24 := am gb24
           have GG24 := am HG24
           clear gb24 gl24 HG24
           (first | simp only [add_plain] at hx439_0 | skip)
           (first | simp only [add_plain] at hx439_1 | skip)
           obtain ⟨ce24, hcl24, hM24, hcc24, hfr24⟩ := Kd.R_elem HO_6.out z25 ((ji21) : Int) p24 q24
           obtain rfl := k25_openM hM24
           have hx24_0 : World.cell? _ ⟨go24, ((ji21) : Int).toNat * 2, none⟩ = some (.int .i64 ((rd_T25 x6_1 (ji21)).f0)) := hcc24 0 _ rfl
           have hx24_1 : World.cell? _ ⟨go24, ((ji21) : Int).toNat * 2 + 1, none⟩ = some (.int .i64 ((rd_T25 x6_1 (ji21)).f1)) := hcc24 1 _ rfl
           have hf24_0 : World.frozen? _ ⟨go24, ((ji21) : Int).toNat * 2, none⟩ = false := hfr24 0
           have hf24_1 : World.frozen? _ ⟨go24, ((ji21) : Int).toNat * 2 + 1, none⟩ = false := hfr24 1
           clear hcl24 hcc24 hfr24 hM24
           replace p24 := eq_true p24
           replace q24 := eq_true q24
           obtain ⟨ce26, hcl26, hM26, hcc26, hfr26⟩ := Kd.R_elem HO_6.out z25 ((ji21) : Int) (of_decide_eq_true zA) (by have h_ : ((ji21) : Int) < ((x6_1.length : Int) : Int) := of_decide_eq_true zA; first | exact h_ | (have e_ := (Kd.R_reads' HO_6.out).1; omega) | simpa using h_)
           obtain rfl := k25_openM hM26
           have HP26 := (Kd.R_seg HO_6.out ((ji21) : Int) (of_decide_eq_true zA) (by have h_ : ((ji21) : Int) < ((x6_1.length : Int) : Int) := of_decide_eq_true zA; first | exact h_ | (have e_ := (Kd.R_reads' HO_6.out).1; omega) | simpa using h_) (seg := [.int .i64 (wrap64 ((wrap64 (((rd_T25 x5_1 x7_1).f0) + ((rd_T25 x5_1 x7_1).f1))) - ((rd_T25 x6_1 (ji21)).f0)))]) (j := 1) hcl26 hcc26 (show 2 ≤ 2 from by decide) (x' := (⟨(rd_T25 x6_1 (ji21)).f0, wrap64 ((wrap64 (((rd_T25 x5_1 x7_1).f0) + ((rd_T25 x5_1 x7_1).f1))) - ((rd_T25 x6_1 (ji21)).f0))⟩ : S25)) (k25_mkM _ _ _ (⟨(rd_T25 x6_1 (ji21)).f0, wrap64 ((wrap64 (((rd_T25 x5_1 x7_1).f0) + ((rd_T25 x5_1 x7_1).f1))) - ((rd_T25 x6_1 (ji21)).f0))⟩ : S25) ) (fun _ hk => hk)).1
           rw [← Ny440.out] at HP26
           have HQ26 := am HP26
           clear hcl26 hcc26 hfr26 hM26 HP26
           refine start_ (n := 24) (S := fun w' => w'.cell? (ad437.add ((x7_1).toNat * 2)) = some (.int .i64 ((rd_T25 x5_1 x7_1).f0)) ∧ w'.cell? ⟨(ad437.add ((x7_1).toNat * 2)).block, (ad437.add ((x7_1).toNat * 2)).off + 1, none⟩ = some (.int .i64 ((rd_T25 x5_1 x7_1).f1)) ∧ w'.cell? (ad437.add ((x7_1).toNat * 2)) = some (.int .i64 ((rd_T25 x5_1 x7_1).f0)) ∧ w'.cell? ⟨(ad437.add ((x7_1).toNat * 2)).block, (ad437.add ((x7_1).toNat * 2)).off + 1, none⟩ = some (.int .i64 ((rd_T25 x5_1 x7_1).f1)) ∧ w'.cell? ⟨go24, (((ji21)).toNat * 2), none⟩ = some (.int .i64 ((rd_T25 x6_1 (ji21)).f0)) ∧ w'.cell? ⟨go24, (((ji21)).toNat * 2) + 1, none⟩ = some (.int .i64 ((rd_T25 x6_1 (ji21)).f1))) (ds := [23]) #[F,F,F,F,F,F,F,F,F,F,F,F,F,F,F,F,F,F,F,F,F,F,F,F] (by kernel_rfl) rfl rfl ⟨hx437_0, hx437_1, hx438_0, hx438_1, hx439_0, hx439_1⟩ (fun hHeld => ?_); refine with_tabW r34_Gaps.tab8 r34_Gaps.bits8 (fun HT_ HW_ => ?_)
           generalize wc.drew = w25 at HO_5 HO_6 HB GG24 HQ26 hf24_0 hf24_1 hx24_0 hx24_1 hx437_0 hx437_1 hx438_0 hx438_1 hx439_0 hx439_1 hHeld ⊢
           refine pure_ (i := 0) (N := some 45) (v := ?_) (a' := ?_) #[T,F,F,F,F,F,F,F,F,F,F,F,F,F,F,F,F,F,F,F,F,F,F,F] rfl rfl (zO HT_) (fun _ _ _ h => h) (Or.inl ⟨by rfl, ?_⟩) ?_ ?_
           rotate_left
           ·intro w'
            go_simp
            with_reducible rfl
           rotate_left
           ·exact zP i64_w i32_w
           refine pure_ (i := 1) (N := some 46) (v := ?_) (a' := ?_) #[T,T,F,F,F,F,F,F,F,F,F,F,F,F,F,F,F,F,F,F,F,F,F,F] rfl rfl (zO HT_) (fun _ _ _ h => h) (Or.inl ⟨by rfl, ?_⟩) ?_ ?_
           rotate_left
           ·intro w'
            go_simp
            with_reducible rfl
           rotate_left
           ·exact zP i64_w i32_w
           refine pure_ (i := 2) (N := some 47) (v := ?_) (a' := ?_) #[T,T,T,F,F,F,F,F,F,F,F,F,F,F,F,F,F,F,F,F,F,F,F,F] rfl rfl (zO HT_) (fun _ _ _ h => h) (Or.inl ⟨by rfl, ?_⟩) ?_ ?_
           rotate_left
           ·intro w'
            go_simp
            with_reducible rfl
           rotate_left
           ·exact zP i64_w i32_w
           refine pure_ (i := 3) (N := some 48) (v := ?_) (a' := ?_) #[T,T,T,T,F,F,F,F,F,F,F,F,F,F,F,F,F,F,F,F,F,F,F,F] rfl rfl (zO HT_) (fun _ _ _ h => h) (Or.inl ⟨by rfl, ?_⟩) ?_ ?_
           rotate_left
           ·intro w'
            go_simp
            with_reducible rfl
           rotate_left
           ·exact zP i64_w i32_w
           refine pure_ (i := 4) (N := some 49) (v := ?_) (a' := ?_) #[T,T,T,T,T,F,F,F,F,F,F,F,F,F,F,F,F,F,F,F,F,F,F,F] rfl rfl (zO HT_) (fun _ _ _ h => h) (Or.inl ⟨by rfl, ?_⟩) ?_ ?_
           rotate_left
           ·intro w'
            go_simp
            with_reducible rfl
           rotate_left
           ·exact zP i64_w i32_w
           refine pure_ (i := 5) (N := some 50) (v := ?_) (a' := ?_) #[T,T,T,T,T,T,F,F,F,F,F,F,F,F,F,F,F,F,F,F,F,F,F,F] rfl rfl (zO HT_) (fun _ _ _ h => h) (Or.inl ⟨by rfl, ?_⟩) ?_ ?_
           rotate_left
           ·intro w'
            go_simp
            with_reducible rfl
           rotate_left
           ·exact zP i64_w i32_w
           refine pure_ (i := 6) (N := some 51) (v := ?_) (a' := ?_) #[T,T,T,T,T,T,T,F,F,F,F,F,F,F,F,F,F,F,F,F,F,F,F,F] rfl rfl (zO HT_) (fun _ _ _ h => h) (Or.inl ⟨by rfl, ?_⟩) ?_ ?_
           rotate_left
           ·intro w'
            go_simp
            with_reducible rfl
           rotate_left
           ·exact zP i64_w i32_w
           refine pure_ (i := 8) (N := some 53) (v := ?_) (a' := ?_) #[T,T,T,T,T,T,T,F,T,F,F,F,F,F,F,F,F,F,F,F,F,F,F,F] rfl rfl (zO HT_) (fun _ _ _ h => h) (Or.inl ⟨by rfl, ?_⟩) ?_ ?_
           rotate_left
           ·intro w'
            go_simp
            with_reducible rfl
           rotate_left
           ·exact zP i64_w i32_w
           refine pure_ (i := 9) (N := some 54) (v := ?_) (a' := ?_) #[T,T,T,T,T,T,T,F,T,T,F,F,F,F,F,F,F,F,F,F,F,F,F,F] rfl rfl (zO HT_) (fun _ _ _ h => h) (Or.inl ⟨by rfl, ?_⟩) ?_ ?_
           rotate_left
           ·intro w'
            go_simp
            with_reducible rfl
           rotate_left
           ·exact zP i64_w i32_w
           refine pure_ (i := 10) (N := some 55) (v := ?_) (a' := ?_) #[T,T,T,T,T,T,T,F,T,T,T,F,F,F,F,F,F,F,F,F,F,F,F,F] rfl rfl (zO HT_) (fun _ _ _ h => h) (Or.inl ⟨by rfl, ?_⟩) ?_ ?_
           rotate_left
           ·intro w'
            go_simp
            with_reducible rfl
           rotate_left
           ·exact zP i64_w i32_w
           refine pure_ (i := 11) (N := some 56) (v := ?_) (a' := ?_) #[T,T,T,T,T,T,T,F,T,T,T,T,F,F,F,F,F,F,F,F,F,F,F,F] rfl rfl (zO HT_) (fun _ _ _ h => h) (Or.inl ⟨by rfl, ?_⟩) ?_ ?_
           rotate_left
           ·intro w'
            go_simp
            with_reducible rfl
           rotate_left
           ·exact zP i64_w i32_w
           refine pure_ (i := 14) (N := some 59) (v := ?_) (a' := ?_) #[T,T,T,T,T,T,T,F,T,T,T,T,F,F,T,F,F,F,F,F,F,F,F,F] rfl rfl (zO HT_) (fun _ _ _ h => h) (Or.inl ⟨by rfl, ?_⟩) ?_ ?_
           rotate_left
           ·intro w'
            go_simp
            with_reducible rfl
           rotate_left
           ·exact zP i64_w i32_w
           refine pure_ (i := 15) (N := some 60) (v := ?_) (a' := ?_) #[T,T,T,T,T,T,T,F,T,T,T,T,F,F,T,T,F,F,F,F,F,F,F,F] rfl rfl (zO HT_) (fun _ _ _ h => h) (Or.inl ⟨by rfl, ?_⟩) ?_ ?_
           rotate_left
           ·intro w'
            go_simp
            with_reducible rfl
           rotate_left
           ·exact zP i64_w i32_w
           refine pure_ (i := 16) (N := some 61) (v := ?_) (a' := ?_) #[T,T,T,T,T,T,T,F,T,T,T,T,F,F,T,T,T,F,F,F,F,F,F,F] rfl rfl (zO HT_) (fun _ _ _ h => h) (Or.inl ⟨by rfl, ?_⟩) ?_ ?_
           rotate_left
           ·intro w'
            go_simp
            with_reducible rfl
           rotate_left
           ·exact zP i64_w i32_w
           refine pure_ (i := 17) (N := some 62) (v := ?_) (a' := ?_) #[T,T,T,T,T,T,T,F,T,T,T,T,F,F,T,T,T,T,F,F,F,F,F,F] rfl rfl (zO HT_) (fun _ _ _ h => h) (Or.inl ⟨by rfl, ?_⟩) ?_ ?_
           rotate_left
           ·intro w'
            go_simp
            with_reducible rfl
           rotate_left
           ·exact zP i64_w i32_w
           refine pure_ (i := 18) (N := some 63) (v := ?_) (a' := ?_) #[T,T,T,T,T,T,T,F,T,T,T,T,F,F,T,T,T,T,T,F,F,F,F,F] rfl rfl (zO HT_) (fun _ _ _ h => h) (Or.inl ⟨by rfl, ?_⟩) ?_ ?_
           rotate_left
           ·intro w'
            go_simp
            with_reducible rfl
           rotate_left
           ·exact zP i64_w i32_w
           refine take_ (i := 7) (N := some 52) (v := ?_) (a' := ?_) #[T,T,T,T,T,T,T,T,T,T,T,T,F,F,T,T,T,T,T,F,F,F,F,F] rfl rfl (take_ofW HT_.out HW_.out (by kernel_rfl)) (fun _ _ _ h => h) (Or.inl ⟨by rfl, ?_⟩) hHeld ?_ ?_
           rotate_left
           ·rintro w' ⟨s0, s1, s2, s3, s4, s5⟩
            go_simp
            with_reducible rfl
           rotate_left
           ·exact zP i64_w i32_w
           refine take_ (i := 12) (N := some 57) (v := ?_) (a' := ?_) #[T,T,T,T,T,T,T,T,T,T,T,T,T,F,T,T,T,T,T,F,F,F,F,F] rfl rfl (take_ofW HT_.out HW_.out (by kernel_rfl)) (fun _ _ _ h => h) (Or.inl ⟨by rfl, ?_⟩) hHeld ?_ ?_
           rotate_left
           ·rintro w' ⟨s0, s1, s2, s3, s4, s5⟩
            go_simp
            with_reducible rfl
           rotate_left
           ·exact zP i64_w i32_w
           refine pure_ (i := 13) (N := some 58) (v := ?_) (a' := ?_) #[T,T,T,T,T,T,T,T,T,T,T,T,T,T,T,T,T,T,T,F,F,F,F,F] rfl rfl (zO HT_) (fun _ _ _ h => h) (Or.inl ⟨by rfl, ?_⟩) ?_ ?_
           rotate_left
           ·intro w'
            go_simp
            with_reducible rfl
           rotate_left
           ·exact zP i64_w i32_w
           refine take_ (i := 19) (N := some 64) (v := ?_) (a' := ?_) #[T,T,T,T,T,T,T,T,T,T,T,T,T,T,T,T,T,T,T,T,F,F,F,F] rfl rfl (take_ofW HT_.out HW_.out (by kernel_rfl)) (fun _ _ _ h => h) (Or.inl ⟨by rfl, ?_⟩) hHeld ?_ ?_
           rotate_left
           ·rintro w' ⟨s0, s1, s2, s3, s4, s5⟩
            go_simp
            with_reducible rfl
           rotate_left
           ·exact zP i64_w i32_w
           refine pure_ (i := 20) (N := some 65) (v := ?_) (a' := ?_) #[T,T,T,T,T,T,T,T,T,T,T,T,T,T,T,T,T,T,T,T,T,F,F,F] rfl rfl (zO HT_) (fun _ _ _ h => h) (Or.inl ⟨by rfl, ?_⟩) ?_ ?_
           rotate_left
           ·intro w'
            go_simp
            with_reducible rfl
           rotate_left
           ·exact zP i64_w i32_w
           refine pure_ (i := 21) (N := some 66) (v := ?_) (a' := ?_) #[T,T,T,T,T,T,T,T,T,T,T,T,T,T,T,T,T,T,T,T,T,T,F,F] rfl rfl (zO HT_) (fun _ _ _ h => h) (Or.inl ⟨by rfl, ?_⟩) ?_ ?_
           rotate_left
           ·intro w'
            go_simp
            with_reducible rfl
           rotate_left
           ·exact zP i64_w i32_w
           refine pure_ (i := 22) (N := some 67) (v := ?_) (a' := ?_) #[T,T,T,T,T,T,T,T,T,T,T,T,T,T,T,T,T,T,T,T,T,T,T,F] rfl rfl (zO HT_) (fun _ _ _ h => h) (Or.inl ⟨by rfl, ?_⟩) ?_ ?_
           rotate_left
           ·intro w'
            go_simp
            with_reducible rfl
           rotate_left
           ·exact zP i64_w i32_w
           refine last_ (i := 23) (N := none) #[T,T,T,T,T,T,T,T,T,T,T,T,T,T,T,T,T,T,T,T,T,T,T,T] rfl rfl (one_of HT_.out (by kernel_rfl)) (by decide) (fun K hK => ?_)
           refine skip_ (w1 := ?_) (by rfl) rfl ?_ ?_
           rotate_left
           ·go_simp
            rfl
           refine hK.out _ _ ?_
           clear hK K
           refine done_ (done_of HT_.out (by kernel_rfl)) ?_
           try go_wp2
           go_roundg kj7
           case measure => have := HK1.out; have := HJ7.out; omega
           case rel => exact ⟨(x5_1), (y440), (wrap64 (x7_1 + 1)), zS, H', ⟨by have := HK1.out; have := HJ7.out; omega⟩, ⟨by refine zR ?_; exact Kd.R_mono (Kd.R_far (p := ⟨go24, ((ji21) : Int).toNat * 2 + 1, none⟩) (Kd.R_mono HO_5.out (fun k_ hk => (⟨hk, fun e_ => hk (by rw [e_]; rfl)⟩ : _ ∧ k_ ≠ go24))) (fun _ hk => hk.2) (.int .i64 (wrap64 ((wrap64 (((rd_T25 x5_1 x7_1).f0) + ((rd_T25 x5_1 x7_1).f1))) - ((rd_T25 x6_1 (ji21)).f0))))) (fun _ hk => hk.1)⟩, ⟨zR HQ26.out⟩, ⟨by repeat (first | (with_reducible first | exact HB.out | apply below_alloc | apply pw_below_drewN | apply below_drew1 | refine below_set ?_ GB24.out) | exact HB.out)⟩⟩
          ·rw [if_neg c23] at H
           exact absurd H (by simp)
         ·rw [if_neg c22] at H
          exact absurd H (by simp)
        ·rw [if_neg c20] at H
         exact absurd H (by simp)
       ·rw [if_neg c19] at H
        exact absurd H (by simp)
      ·replace c18 := Bool.eq_false_iff.mpr c18
       subst c18
       have H1 : (if 0 ≤ x7_1 then (if x7_1 < (x5_1.length : Int) then (if x6_1.length < 8796093022208 then (r34_Gaps.l0 kj7 a1 x5_1 (x6_1 ++ [(⟨(rd_T25 x5_1 x7_1).f0, (rd_T25 x5_1 x7_1).f1⟩ : S25)]) (wrap64 (x7_1 + 1))) else (none)) else (none)) else (none)) = some r := by rw [if_neg (show ¬ (false = true) by decide)] at H; exact H
       clear H
       have H := H1
       clear H1
       by_cases c27 : 0 ≤ x7_1
       ·rw [if_pos c27] at H
        have c27b0 : decide (0 ≤ x7_1) = true := decide_eq_true c27
        clear c27
        by_cases c28 : x7_1 < (x5_1.length : Int)
        ·rw [if_pos c28] at H
         have c28b0 : decide (x7_1 < (x5_1.length : Int)) = true := decide_eq_true c28
         clear c28
         by_cases c29 : x6_1.length < 8796093022208
         ·rw [if_pos c29] at H
          have LMc29 := am c29
          clear c29
          obtain ⟨y442, hy442⟩ : ∃ y_ : List (S25), y_ = (x6_1 ++ [(⟨(rd_T25 x5_1 x7_1).f0, (rd_T25 x5_1 x7_1).f1⟩ : S25)]) := ⟨_, rfl⟩
          replace H : (r34_Gaps.l0 kj7 a1 x5_1 y442 (wrap64 (x7_1 + 1))) = some r := by first | (rw [hy442]; with_reducible exact H) | (have H2_ := (Option.bind_some _ _).symm.trans H; rw [hy442]; with_reducible exact H2_) | (have H2_ := (Option.bind_some _ _).symm.trans H; with_reducible exact H2_) | with_reducible exact H | (rw [hy442]; exact H) | exact H
          have Ny442 := am hy442
          clear hy442
          have H' := am H
          clear H
          have p441 : 0 ≤ (x7_1 : Int) := of_decide_eq_true zA
          have q441 : x7_1 < (x5_1.length : Int) := of_decide_eq_true zA
          obtain ⟨ad441, e441, hx441_0, hx441_1⟩ := at_T25 (Kd.R_reads' HO_5.out).2.2 x7_1 p441 q441
          cases e441
          replace p441 := eq_true p441
          replace q441 := eq_true q441
          go_wp2_with (first | ((with_reducible refine gate_builtin (b := .append) (xs := #[.tmp 68, .tmp 73]) rfl ?_); at_builtin; refine Kd.R_append k25 (w0 := w) w.heap.size rfl (.tmp 68) (.tmp 73) 38 25 (.agg #[(.int .i64 0), (.int .i64 0)]) 16 rfl Try.underlying38 info25 rfl (by decide) (by omega) (.slice Ao10 x6_1.length co10) x6_1 (⟨(rd_T25 x5_1 x7_1).f0, (rd_T25 x5_1 x7_1).f1⟩ : S25) [.int .i64 ((rd_T25 x5_1 x7_1).f0), .int .i64 ((rd_T25 x5_1 x7_1).f1)] (fun k_ => some k_ ≠ (.slice (some ad441) x5_1.length co9 : Value).ownBlock) (fun _ => False) rfl rfl ?aP (fun _ hk => hk.elim) ?aF ?aO ?aB ?aS ?aL ?_; (case aP => exact k25_mkM _ _ _ (⟨(rd_T25 x5_1 x7_1).f0, (rd_T25 x5_1 x7_1).f1⟩ : S25)); (case aB => exact (zB HB)); (case aF => exact (fun k_ hk => Kd.fresh' (Kd.R_lt (zR HO_5.out)) k_ hk)); (case aO => exact (zR HO_6.out)); (case aS => exact (below_size (zB HB))); (case aL => have := LMc29.out; omega); intro v443 w30 ho hb hg hat; rw [← Ny442.out] at ho; have n0_ := am (Kd.R_after (ok := (fun _ => True)) (by refine zR ?_; exact Kd.R_mono HO_5.out (fun _ hk => ⟨trivial, hk⟩)) hg hat); have n1_ := am (hb); have n2_ := am (ho); clear HO_5; clear HB; clear HO_6; have HO_5 := n0_; have HB := n1_; have HO444 := n2_; clear n0_ n1_ n2_; clear ho hb hg hat))
          go_roundg kj7
          case measure => have := HK1.out; have := HJ7.out; omega
          case rel => exact ⟨(x5_1), (y442), (wrap64 (x7_1 + 1)), zS, H', ⟨by have := HK1.out; have := HJ7.out; omega⟩, ⟨by refine zR ?_; exact Kd.R_mono HO_5.out (fun _ hk => hk.2)⟩, ⟨zR HO444.out⟩, ⟨zB HB⟩⟩
         ·rw [if_neg c29] at H
          exact absurd H (by simp)
        ·rw [if_neg c28] at H
         exact absurd H (by simp)
       ·rw [if_neg c27] at H
        exact absurd H (by simp)
   ·rw [if_neg c7] at H
    have c7b0 : decide (x7_1 < (x5_1.length : Int)) = false := decide_eq_false c7
    clear c7
    obtain rfl := Option.some.inj H
    obtain ⟨Ao31, co31, eo31⟩ := Kd.R_slice HO_5.out
    subst eo31
    go_wp2
    go_ret
    exact ⟨_, by first | rfl | (simp [errW_none, errW_some] <;> rfl) | (simp [*, errW_none, errW_some] <;> rfl), by refine zR ?_; exact Kd.R_mono HO_6.out (fun _ hk => trivial), by repeat (first | (with_reducible first | exact HB.out | apply below_alloc | apply pw_below_drewN | apply below_drew1) | exact HB.out)⟩

end
end Go.Proofs.Ytapbmkcncjkanaa.P
