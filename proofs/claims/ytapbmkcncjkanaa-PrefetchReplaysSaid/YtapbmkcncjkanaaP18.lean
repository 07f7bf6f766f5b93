-- Written by this session's wip/tools/px.py out of the translation. Lean checks it.
import Derived.Test.YtapbmkcncjkanaaP0
namespace Go.Proofs.Ytapbmkcncjkanaa.P
noncomputable section
open Go.RowKit Go.Proofs.YtapbmkcncjkanaaW.PrintWords Go.Proofs.YtapbmkcncjkanaaW.PrintLast Go.Proofs.YtapbmkcncjkanaaW.PrintMore
attribute [local go_sem] max2_int min2_int max_two min_two max_three min_three max_four min_four   -- for this text's walks alone
set_option linter.unusedVariables false
set_option linter.unusedSimpArgs false

/-! ### r34_add: function 45 -/
def r34_add.j0 : Nat → List (S25) → Int → Int → Int → Bool → Option ((List (S25)))
 | 0, _, _, _, _, _ => none
 | k + 1, x0, x1, x2, x7, x28 => if x28 = true then (if 0 ≤ (wrap64 (x7 - 1)) then (if (wrap64 (x7 - 1)) < (x0.length : Int) then (some (x0.set ((wrap64 (x7 - 1)) : Int).toNat (⟨(rd_T25 x0 (wrap64 (x7 - 1))).f0, wrap64 (x2 - ((rd_T25 x0 (wrap64 (x7 - 1))).f0))⟩ : S25))) else (none)) else (none)) else (if x0.length < 8796093022208 then (some (x0 ++ [(⟨x1, wrap64 (x2 - x1)⟩ : S25)])) else (none))
def r34_add.f (k : Nat) (l0 : List (S25)) (a1 : Int) (a2 : Int) : Option ((List (S25))) := if (l0.length : Int) > 0 then (if 0 ≤ (wrap64 ((l0.length : Int) - 1)) then (if (wrap64 ((l0.length : Int) - 1)) < (l0.length : Int) then (r34_add.j0 k l0 a1 a2 (l0.length : Int) ((wrap64 (((rd_T25 l0 (wrap64 ((l0.length : Int) - 1))).f0) + ((rd_T25 l0 (wrap64 ((l0.length : Int) - 1))).f1))) == a1)) else (none)) else (none)) else (r34_add.j0 k l0 a1 a2 (l0.length : Int) false)
theorem r34_add.mono_l : ∀ k, (∀ y0 y1 y2 y3 y4, LeO (r34_add.j0 k y0 y1 y2 y3 y4) (r34_add.j0 (k + 1) y0 y1 y2 y3 y4))
 | 0 => fun _ _ _ _ _ r h => by simp [r34_add.j0] at h
 | k + 1 => by
  have ih0 := r34_add.mono_l k
  ·intro y0 y1 y2 y3 y4
   unfold r34_add.j0
   repeat' first
   | (with_reducible exact ih0 _ _ _ _ _)
   | (with_reducible exact LeO.refl _)
   | (with_reducible exact LeO.none _)
   | (with_reducible refine LeO.ite ?_ ?_)
   | (with_reducible refine LeO.bind ?_ (fun _ => ?_))
   | exact ih0 _ _ _ _ _
   | exact LeO.none _
   | refine LeO.ite ?_ ?_
   | refine LeO.bind ?_ (fun _ => ?_)
theorem r34_add.mono : ∀ a0 a1 a2 k, LeO (r34_add.f k a0 a1 a2) (r34_add.f (k + 1) a0 a1 a2) := by
 intro a0 a1 a2 k
 have ih0 := r34_add.mono_l k
 unfold r34_add.f
 repeat' first
   | (with_reducible exact ih0 _ _ _ _ _)
   | (with_reducible exact LeO.refl _)
   | (with_reducible exact LeO.none _)
   | (with_reducible refine LeO.ite ?_ ?_)
   | (with_reducible refine LeO.bind ?_ (fun _ => ?_))
   | exact ih0 _ _ _ _ _
   | exact LeO.none _
   | refine LeO.ite ?_ ?_
   | refine LeO.bind ?_ (fun _ => ?_)
set_option maxHeartbeats 8000000 in
set_option maxRecDepth 100000 in
theorem r34_add.calls (k : Nat) (P0_ : Nat → Prop) (u9000_ : Value) (l0 : List (S25)) (a1 : Int) (a2 : Int) (r : List (S25)) (w0 w : World) (hB : Below w0.heap.size w0 w) (ho0 : Kd.R k25 25 w w0.heap.size P0_ u9000_ l0) (h : r34_add.f k l0 a1 a2 = some r) :
  Calls Try.prog 45 #[u9000_, .int .i64 a1, .int .i64 a2] w fun e w' => ∃ v0_ : Value, e = .returned (v0_) ∧ Kd.R k25 25 w' w0.heap.size (fun k_ => (P0_ k_ ∨ w.heap.size ≤ k_)) v0_ r ∧ Below w0.heap.size w0 w' ∧ Kept w w' (fun k_ => P0_ k_) := by
 have hu25 := Try.underlying25
 have HO0 := am (show Kd.R k25 25 w w0.heap.size (fun k_ => (P0_ k_ ∨ w.heap.size ≤ k_)) u9000_ l0 from Kd.R_mono ho0 (fun k_ hk => (.inl hk)))
 have HK := am (Kept.refl w (fun k_ => P0_ k_))
 have HW0 := am hB.size
 have HB := am hB
 clear hB
 have H : (if (l0.length : Int) > 0 then (if 0 ≤ (wrap64 ((l0.length : Int) - 1)) then (if (wrap64 ((l0.length : Int) - 1)) < (l0.length : Int) then (r34_add.j0 k l0 a1 a2 (l0.length : Int) ((wrap64 (((rd_T25 l0 (wrap64 ((l0.length : Int) - 1))).f0) + ((rd_T25 l0 (wrap64 ((l0.length : Int) - 1))).f1))) == a1)) else (none)) else (none)) else (r34_add.j0 k l0 a1 a2 (l0.length : Int) false)) = some r := h
 clear h
 have HC4 := am H
 clear H
 obtain ⟨Ao5, co5, eo5⟩ := Kd.R_slice HO0.out
 subst eo5
 go_enter Try.func45, Try.ntmps45
 go_upto_region 2 with (fail)
 repeat (go_quiet (fail); go_upto_region 2 with (fail))
 go_cut [28] (fun v28 wc => ∃ (kq : Nat) (x28_3 : Bool), v28 = .bool x28_3 ∧ Aside0 (r34_add.j0 kq l0 a1 a2 (l0.length : Int) x28_3 = some r) ∧ Aside0 (kq ≤ k) ∧ Aside0 (Kd.R k25 25 wc w0.heap.size (fun k_ => (P0_ k_ ∨ w.heap.size ≤ k_)) (.slice Ao5 l0.length co5) l0) ∧ Aside0 (Kept w wc (fun k_ => P0_ k_)) ∧ Aside0 (Below w0.heap.size w0 wc))
 case first =>
  have H := HC4.out
  clear HC4
  by_cases c6 : (l0.length : Int) > 0
  ·rw [if_pos c6] at H
   have c6b0 : decide (0 < (l0.length : Int)) = true := decide_eq_true c6
   have c6b1 : decide (0 < l0.length) = true := decide_eq_true (by omega)
   clear c6
   (first | rw [c6b0] | (simp only [i64_w, i32_w]; rw [c6b0]) | skip)
   obtain ⟨ji7, hji7⟩ : ∃ j_ : Int, (wrap64 ((l0.length : Int) - 1)) = j_ := ⟨_, rfl⟩
   replace H : (if 0 ≤ (ji7) then (if (ji7) < (l0.length : Int) then (r34_add.j0 k l0 a1 a2 (l0.length : Int) ((wrap64 (((rd_T25 l0 (ji7)).f0) + ((rd_T25 l0 (ji7)).f1))) == a1)) else (none)) else (none)) = some r := by first | (rw [hji7] at H; exact H) | (simp only [hji7] at H ⊢; exact H)
   have hji7w : (IntKind.i64.wrap ((l0.length : Int) - 1)) = ji7 := (i64_w _).trans hji7
   by_cases c8 : 0 ≤ (ji7)
   ·rw [if_pos c8] at H
    have c8b0 : decide (0 ≤ (ji7)) = true := decide_eq_true c8
    clear c8
    by_cases c9 : (ji7) < (l0.length : Int)
    ·rw [if_pos c9] at H
     have c9b0 : decide ((ji7) < (l0.length : Int)) = true := decide_eq_true c9
     clear c9
     have H' := am H
     clear H
     have p391 : 0 ≤ ((ji7) : Int) := of_decide_eq_true zA
     have q391 : (ji7) < (l0.length : Int) := of_decide_eq_true zA
     obtain ⟨ad391, e391, hx391_0, hx391_1⟩ := at_T25 (Kd.R_reads' HO0.out).2.2 (ji7) p391 q391
     cases e391
     replace p391 := eq_true p391
     replace q391 := eq_true q391
     have p392 : 0 ≤ ((ji7) : Int) := of_decide_eq_true zA
     have q392 : (ji7) < (l0.length : Int) := of_decide_eq_true zA
     obtain ⟨ad392, e392, hx392_0, hx392_1⟩ := at_T25 (Kd.R_reads' HO0.out).2.2 (ji7) p392 q392
     obtain rfl : ad391 = ad392 := (by injection e392)
     replace p392 := eq_true p392
     replace q392 := eq_true q392
     go_wp2
     repeat (go_quiet (fail); try go_wp2)
     (try simp only [show (Value.int .i64 ji7) = .int .i64 (wrap64 ((l0.length : Int) - 1)) from by rw [hji7]])
     go_meet
     case rel => exact ⟨k, (((wrap64 (((rd_T25 l0 (ji7)).f0) + ((rd_T25 l0 (ji7)).f1))) == a1)), (by first | rfl | (simp; done) | (simp only [← hji7] <;> (first | rfl | simp)) | (simp [*]; done)), (by first | exact H' | (rw [hji7]; exact H') | (simp only [hji7]; exact H')), ⟨by first | omega | exact Nat.le_refl _⟩, ⟨zR HO0.out⟩, ⟨by repeat (first | (with_reducible first | exact HK.out | apply Kept.alloc | apply Kept.drewN | apply Kept.drew) | exact HK.out)⟩, ⟨zB HB⟩⟩
    ·rw [if_neg c9] at H
     exact absurd H (by simp)
   ·rw [if_neg c8] at H
    exact absurd H (by simp)
  ·rw [if_neg c6] at H
   have c6b0 : decide (0 < (l0.length : Int)) = false := decide_eq_false c6
   have c6b1 : decide (0 < l0.length) = false := decide_eq_false (by omega)
   clear c6
   (first | rw [c6b0] | (simp only [i64_w, i32_w]; rw [c6b0]) | skip)
   have H' := am H
   clear H
   go_wp2
   repeat (go_quiet (fail); try go_wp2)
   go_meet
   case rel => exact ⟨_, (false), zS, H', ⟨by first | omega | exact Nat.le_refl _⟩, ⟨zR HO0.out⟩, ⟨by repeat (first | (with_reducible first | exact HK.out | apply Kept.alloc | apply Kept.drewN | apply Kept.drew) | exact HK.out)⟩, ⟨zB HB⟩⟩
 case rest =>
  clear HC4
  try clear p2
  try clear p3
  try clear q3
  try clear hx3
  try clear c4
  try clear c6
  try clear c6b0
  try clear c6b1
  try clear p6
  try clear c8
  try clear c8b0
  try clear c9
  try clear c9b0
  try clear hx391_0
  try clear hx391_1
  try clear hx392_0
  try clear hx392_1
  try clear p391
  try clear p392
  try clear q391
  try clear q392
  obtain ⟨kq, x28_3, rfl, HA, HJ3, HO_0, HK, HB⟩ := hcut
  cases kq with
  | zero => exact absurd HA.out (by simp [r34_add.j0])
  | succ kj3 =>
   have H := HA.out
   clear HA
   simp only [r34_add.j0] at H
   by_cases c10 : x28_3 = true
   ·subst c10
    have H1 : (if 0 ≤ (wrap64 ((l0.length : Int) - 1)) then (if (wrap64 ((l0.length : Int) - 1)) < (l0.length : Int) then (some (l0.set ((wrap64 ((l0.length : Int) - 1)) : Int).toNat (⟨(rd_T25 l0 (wrap64 ((l0.length : Int) - 1))).f0, wrap64 (a2 - ((rd_T25 l0 (wrap64 ((l0.length : Int) - 1))).f0))⟩ : S25))) else (none)) else (none)) = some r := by rw [if_pos rfl] at H; exact H
    clear H
    have H := H1
    clear H1
    obtain ⟨ji11, hji11⟩ : ∃ j_ : Int, (wrap64 ((l0.length : Int) - 1)) = j_ := ⟨_, rfl⟩
    replace H : (if 0 ≤ (ji11) then (if (ji11) < (l0.length : Int) then (some (l0.set ((ji11) : Int).toNat (⟨(rd_T25 l0 (ji11)).f0, wrap64 (a2 - ((rd_T25 l0 (ji11)).f0))⟩ : S25))) else (none)) else (none)) = some r := by first | (rw [hji11] at H; exact H) | (simp only [hji11] at H ⊢; exact H)
    have hji11w : (IntKind.i64.wrap ((l0.length : Int) - 1)) = ji11 := (i64_w _).trans hji11
    by_cases c12 : 0 ≤ (ji11)
    ·rw [if_pos c12] at H
     have c12b0 : decide (0 ≤ (ji11)) = true := decide_eq_true c12
     clear c12
     by_cases c13 : (ji11) < (l0.length : Int)
     ·rw [if_pos c13] at H
      have c13b0 : decide ((ji11) < (l0.length : Int)) = true := decide_eq_true c13
      clear c13
      obtain ⟨y394, hy394⟩ : ∃ y_ : List (S25), y_ = (l0.set ((ji11) : Int).toNat (⟨(rd_T25 l0 (ji11)).f0, wrap64 (a2 - ((rd_T25 l0 (ji11)).f0))⟩ : S25)) := ⟨_, rfl⟩
      replace H : (some y394) = some r := by first | (rw [hy394]; with_reducible exact H) | (have H2_ := (Option.bind_some _ _).symm.trans H; rw [hy394]; with_reducible exact H2_) | (have H2_ := (Option.bind_some _ _).symm.trans H; with_reducible exact H2_) | with_reducible exact H | (rw [hy394]; exact H) | exact H
      have Ny394 := am hy394
      clear hy394
      obtain rfl := Option.some.inj H
      have p393 : 0 ≤ ((ji11) : Int) := of_decide_eq_true zA
      have q393 : (ji11) < (l0.length : Int) := of_decide_eq_true zA
      obtain ⟨ad393, e393, hx393_0, hx393_1⟩ := at_T25 (Kd.R_reads' HO_0.out).2.2 (ji11) p393 q393
      cases e393
      replace p393 := eq_true p393
      replace q393 := eq_true q393
      have p14 : 0 ≤ ((ji11) : Int) := of_decide_eq_true zA
      have q14 : ((ji11) : Int) < ((l0.length : Int) : Int) := of_decide_eq_true zA
      obtain ⟨go14, co14, eo14, gb14, gl14, cl14, HG14⟩ := Kd.R_form HO_0.out (by omega)
      (first | cases eo14 | (injection eo14 with ea_ en_ ec_; (first | subst ea_ | (injection ea_ with ea_; subst ea_)); subst ec_; clear en_))
      have GB14 := am gb14
      have GG14 := am HG14
      clear gb14 gl14 HG14
      have HMgo14 := am (show (P0_ go14 ∨ w.heap.size ≤ go14) from (HO_0.out.1 _ rfl))
      (first | simp only [add_plain] at hx393_0 | skip)
      (first | simp only [add_plain] at hx393_1 | skip)
      obtain ⟨ce14, hcl14, hM14, hcc14, hfr14⟩ := Kd.R_elem HO_0.out z25 ((ji11) : Int) p14 q14
      obtain rfl := k25_openM hM14
      have hx14_0 : wc.cell? ⟨go14, ((ji11) : Int).toNat * 2, none⟩ = some (.int .i64 ((rd_T25 l0 (ji11)).f0)) := hcc14 0 _ rfl
      have hx14_1 : wc.cell? ⟨go14, ((ji11) : Int).toNat * 2 + 1, none⟩ = some (.int .i64 ((rd_T25 l0 (ji11)).f1)) := hcc14 1 _ rfl
      have hf14_0 : wc.frozen? ⟨go14, ((ji11) : Int).toNat * 2, none⟩ = false := hfr14 0
      have hf14_1 : wc.frozen? ⟨go14, ((ji11) : Int).toNat * 2 + 1, none⟩ = false := hfr14 1
      clear hcl14 hcc14 hfr14 hM14
      replace p14 := eq_true p14
      replace q14 := eq_true q14
      have HX15 := am (show Kd.R k25 25 wc w0.heap.size (fun k_ => (P0_ k_ ∨ w.heap.size ≤ k_)) (.slice (some ⟨go14, 0, none⟩) l0.length co5) l0 from (zR HO_0.out))
      obtain ⟨ce15, hcl15, hM15, hcc15, hfr15⟩ := Kd.R_elem HX15.out z25 ((ji11) : Int) (of_decide_eq_true zA) (by have h_ : ((ji11) : Int) < ((l0.length : Int) : Int) := of_decide_eq_true zA; first | exact h_ | (have e_ := (Kd.R_reads' HO_0.out).1; omega) | simpa using h_)
      obtain rfl := k25_openM hM15
      have HP15 := Kd.R_seg HX15.out ((ji11) : Int) (of_decide_eq_true zA) (by have h_ : ((ji11) : Int) < ((l0.length : Int) : Int) := of_decide_eq_true zA; first | exact h_ | (have e_ := (Kd.R_reads' HO_0.out).1; omega) | simpa using h_) (seg := [.int .i64 (wrap64 (a2 - ((rd_T25 l0 (ji11)).f0)))]) (j := 1) hcl15 hcc15 (show 2 ≤ 2 from by decide) (x' := (⟨(rd_T25 l0 (ji11)).f0, wrap64 (a2 - ((rd_T25 l0 (ji11)).f0))⟩ : S25)) (k25_mkM _ _ _ (⟨(rd_T25 l0 (ji11)).f0, wrap64 (a2 - ((rd_T25 l0 (ji11)).f0))⟩ : S25) ) (fun _ hk => hk)
      have hx15_1 := hcc15 1 _ rfl
      (try simp only [show (k25).sz = 2 from rfl, Nat.mul_one, Nat.add_zero] at hx15_1)
      have hf15_1 := hfr15 1
      (try simp only [show (k25).sz = 2 from rfl, Nat.mul_one, Nat.add_zero] at hf15_1)
      clear hcl15 hcc15 hfr15 hM15
      go_wp2_with (first | ((with_reducible refine gate_store (t := 3) (p := 41) rfl ?_); (try (rw [drewN_self wc]; generalize hq_ : World.drewN wc _ = wc; have n0_ := am (Kd.R_at hq_ HO_0.out); have n1_ := am (kept_at hq_ HK.out); have n2_ := am (below_at hq_ HB.out); clear hq_ HO_0 HK HB; have HO_0 := n0_; have HK := n1_; have HB := n2_; clear n0_ n1_ n2_; (try (have HX15 := am (show Kd.R k25 25 wc w0.heap.size (fun k_ => (P0_ k_ ∨ w.heap.size ≤ k_)) (.slice (some ⟨go14, 0, none⟩) l0.length co5) l0 from (zR HO_0.out)))); (try (obtain ⟨ce15, hcl15, hM15, hcc15, hfr15⟩ := Kd.R_elem HX15.out z25 ((ji11) : Int) (of_decide_eq_true zA) (by have h_ : ((ji11) : Int) < ((l0.length : Int) : Int) := of_decide_eq_true zA; first | exact h_ | (have e_ := (Kd.R_reads' HO_0.out).1; omega) | simpa using h_))); (try (obtain rfl := k25_openM hM15)); (try (have HP15 := Kd.R_seg HX15.out ((ji11) : Int) (of_decide_eq_true zA) (by have h_ : ((ji11) : Int) < ((l0.length : Int) : Int) := of_decide_eq_true zA; first | exact h_ | (have e_ := (Kd.R_reads' HO_0.out).1; omega) | simpa using h_) (seg := [.int .i64 (wrap64 (a2 - ((rd_T25 l0 (ji11)).f0)))]) (j := 1) hcl15 hcc15 (show 2 ≤ 2 from by decide) (x' := (⟨(rd_T25 l0 (ji11)).f0, wrap64 (a2 - ((rd_T25 l0 (ji11)).f0))⟩ : S25)) (k25_mkM _ _ _ (⟨(rd_T25 l0 (ji11)).f0, wrap64 (a2 - ((rd_T25 l0 (ji11)).f0))⟩ : S25) ) (fun _ hk => hk))); (try (have hx15_1 := hcc15 1 _ rfl)); (try (try simp only [show (k25).sz = 2 from rfl, Nat.mul_one, Nat.add_zero] at hx15_1)); (try (have hf15_1 := hfr15 1)); (try (try simp only [show (k25).sz = 2 from rfl, Nat.mul_one, Nat.add_zero] at hf15_1)); (try (clear hcl15 hcc15 hfr15 hM15)))); refine store_event (t := 3) (p := 41) (v := ?vo_w16) (w1 := (wc.setCell ⟨go14, ((ji11) : Int).toNat * 2 + 1, none⟩ (.int .i64 (wrap64 (a2 - ((rd_T25 l0 (ji11)).f0)))))) ?hg ?ho ?hn ?hr ?_; (case ho => rfl); (case hg => rfl); (case hn => rfl); (case hr => first | (go_simp; done) | (go_simp; rfl)); intro w16 hw; have hg : wc.grownBy w16 (some go14) := (by rw [hw]; exact HP15.2); have hp_ : Kd.R k25 25 w16 w0.heap.size (fun k_ => (P0_ k_ ∨ w.heap.size ≤ k_)) (.slice (some ⟨go14, 0, none⟩) l0.length co5) y394 := (by rw [hw, Ny394.out]; exact HP15.1); clear HP15; have n0_ := am (hp_); have n1_ := am ((by rw [hw]; exact below_set (HB.out) GB14.out : Below w0.heap.size w0 w16)); have n2_ := am (Kept.of_grown (S := (fun k_ => P0_ k_)) hg (by repeat (first | (with_reducible first | exact HK.out | apply Kept.alloc | apply Kept.drewN | apply Kept.drew) | exact HK.out)) (fun k_ e_ => (HO_0.out.1 k_ e_))); clear HO_0; clear HB; clear HK; have HO_0 := n0_; have HB := n1_; have HK := n2_; clear n0_ n1_ n2_; clear hg hw hp_))
      repeat (go_quiet (first | ((with_reducible refine gate_store (t := 3) (p := 41) rfl ?_); (try (rw [drewN_self wc]; generalize hq_ : World.drewN wc _ = wc; have n0_ := am (Kd.R_at hq_ HO_0.out); have n1_ := am (kept_at hq_ HK.out); have n2_ := am (below_at hq_ HB.out); clear hq_ HO_0 HK HB; have HO_0 := n0_; have HK := n1_; have HB := n2_; clear n0_ n1_ n2_; (try (have HX15 := am (show Kd.R k25 25 wc w0.heap.size (fun k_ => (P0_ k_ ∨ w.heap.size ≤ k_)) (.slice (some ⟨go14, 0, none⟩) l0.length co5) l0 from (zR HO_0.out)))); (try (obtain ⟨ce15, hcl15, hM15, hcc15, hfr15⟩ := Kd.R_elem HX15.out z25 ((ji11) : Int) (of_decide_eq_true zA) (by have h_ : ((ji11) : Int) < ((l0.length : Int) : Int) := of_decide_eq_true zA; first | exact h_ | (have e_ := (Kd.R_reads' HO_0.out).1; omega) | simpa using h_))); (try (obtain rfl := k25_openM hM15)); (try (have HP15 := Kd.R_seg HX15.out ((ji11) : Int) (of_decide_eq_true zA) (by have h_ : ((ji11) : Int) < ((l0.length : Int) : Int) := of_decide_eq_true zA; first | exact h_ | (have e_ := (Kd.R_reads' HO_0.out).1; omega) | simpa using h_) (seg := [.int .i64 (wrap64 (a2 - ((rd_T25 l0 (ji11)).f0)))]) (j := 1) hcl15 hcc15 (show 2 ≤ 2 from by decide) (x' := (⟨(rd_T25 l0 (ji11)).f0, wrap64 (a2 - ((rd_T25 l0 (ji11)).f0))⟩ : S25)) (k25_mkM _ _ _ (⟨(rd_T25 l0 (ji11)).f0, wrap64 (a2 - ((rd_T25 l0 (ji11)).f0))⟩ : S25) ) (fun _ hk => hk))); (try (have hx15_1 := hcc15 1 _ rfl)); (try (try simp only [show (k25).sz = 2 from rfl, Nat.mul_one, Nat.add_zero] at hx15_1)); (try (have hf15_1 := hfr15 1)); (try (try simp only [show (k25).sz = 2 from rfl, Nat.mul_one, Nat.add_zero] at hf15_1)); (try (clear hcl15 hcc15 hfr15 hM15)))); refine store_event (t := 3) (p := 41) (v := ?vo_w16) (w1 := (wc.setCell ⟨go14, ((ji11) : Int).toNat * 2 + 1, none⟩ (.int .i64 (wrap64 (a2 - ((rd_T25 l0 (ji11)).f0)))))) ?hg ?ho ?hn ?hr ?_; (case ho => rfl); (case hg => rfl); (case hn => rfl); (case hr => first | (go_simp; done) | (go_simp; rfl)); intro w16 hw; have hg : wc.grownBy w16 (some go14) := (by rw [hw]; exact HP15.2); have hp_ : Kd.R k25 25 w16 w0.heap.size (fun k_ => (P0_ k_ ∨ w.heap.size ≤ k_)) (.slice (some ⟨go14, 0, none⟩) l0.length co5) y394 := (by rw [hw, Ny394.out]; exact HP15.1); clear HP15; have n0_ := am (hp_); have n1_ := am ((by rw [hw]; exact below_set (HB.out) GB14.out : Below w0.heap.size w0 w16)); have n2_ := am (Kept.of_grown (S := (fun k_ => P0_ k_)) hg (by repeat (first | (with_reducible first | exact HK.out | apply Kept.alloc | apply Kept.drewN | apply Kept.drew) | exact HK.out)) (fun k_ e_ => (HO_0.out.1 k_ e_))); clear HO_0; clear HB; clear HK; have HO_0 := n0_; have HB := n1_; have HK := n2_; clear n0_ n1_ n2_; clear hg hw hp_)); try go_wp2_with (first | ((with_reducible refine gate_store (t := 3) (p := 41) rfl ?_); (try (rw [drewN_self wc]; generalize hq_ : World.drewN wc _ = wc; have n0_ := am (Kd.R_at hq_ HO_0.out); have n1_ := am (kept_at hq_ HK.out); have n2_ := am (below_at hq_ HB.out); clear hq_ HO_0 HK HB; have HO_0 := n0_; have HK := n1_; have HB := n2_; clear n0_ n1_ n2_; (try (have HX15 := am (show Kd.R k25 25 wc w0.heap.size (fun k_ => (P0_ k_ ∨ w.heap.size ≤ k_)) (.slice (some ⟨go14, 0, none⟩) l0.length co5) l0 from (zR HO_0.out)))); (try (obtain ⟨ce15, hcl15, hM15, hcc15, hfr15⟩ := Kd.R_elem HX15.out z25 ((ji11) : Int) (of_decide_eq_true zA) (by have h_ : ((ji11) : Int) < ((l0.length : Int) : Int) := of_decide_eq_true zA; first | exact h_ | (have e_ := (Kd.R_reads' HO_0.out).1; omega) | simpa using h_))); (try (obtain rfl := k25_openM hM15)); (try (have HP15 := Kd.R_seg HX15.out ((ji11) : Int) (of_decide_eq_true zA) (by have h_ : ((ji11) : Int) < ((l0.length : Int) : Int) := of_decide_eq_true zA; first | exact h_ | (have e_ := (Kd.R_reads' HO_0.out).1; omega) | simpa using h_) (seg := [.int .i64 (wrap64 (a2 - ((rd_T25 l0 (ji11)).f0)))]) (j := 1) hcl15 hcc15 (show 2 ≤ 2 from by decide) (x' := (⟨(rd_T25 l0 (ji11)).f0, wrap64 (a2 - ((rd_T25 l0 (ji11)).f0))⟩ : S25)) (k25_mkM _ _ _ (⟨(rd_T25 l0 (ji11)).f0, wrap64 (a2 - ((rd_T25 l0 (ji11)).f0))⟩ : S25) ) (fun _ hk => hk))); (try (have hx15_1 := hcc15 1 _ rfl)); (try (try simp only [show (k25).sz = 2 from rfl, Nat.mul_one, Nat.add_zero] at hx15_1)); (try (have hf15_1 := hfr15 1)); (try (try simp only [show (k25).sz = 2 from rfl, Nat.mul_one, Nat.add_zero] at hf15_1)); (try (clear hcl15 hcc15 hfr15 hM15)))); refine store_event (t := 3) (p := 41) (v := ?vo_w16) (w1 := (wc.setCell ⟨go14, ((ji11) : Int).toNat * 2 + 1, none⟩ (.int .i64 (wrap64 (a2 - ((rd_T25 l0 (ji11)).f0)))))) ?hg ?ho ?hn ?hr ?_; (case ho => rfl); (case hg => rfl); (case hn => rfl); (case hr => first | (go_simp; done) | (go_simp; rfl)); intro w16 hw; have hg : wc.grownBy w16 (some go14) := (by rw [hw]; exact HP15.2); have hp_ : Kd.R k25 25 w16 w0.heap.size (fun k_ => (P0_ k_ ∨ w.heap.size ≤ k_)) (.slice (some ⟨go14, 0, none⟩) l0.length co5) y394 := (by rw [hw, Ny394.out]; exact HP15.1); clear HP15; have n0_ := am (hp_); have n1_ := am ((by rw [hw]; exact below_set (HB.out) GB14.out : Below w0.heap.size w0 w16)); have n2_ := am (Kept.of_grown (S := (fun k_ => P0_ k_)) hg (by repeat (first | (with_reducible first | exact HK.out | apply Kept.alloc | apply Kept.drewN | apply Kept.drew) | exact HK.out)) (fun k_ e_ => (HO_0.out.1 k_ e_))); clear HO_0; clear HB; clear HK; have HO_0 := n0_; have HB := n1_; have HK := n2_; clear n0_ n1_ n2_; clear hg hw hp_)))
      go_ret
      exact ⟨_, by first | rfl | (simp [errW_none, errW_some] <;> rfl) | (simp only [← hji11]; first | rfl | (simp [errW_none, errW_some] <;> rfl)) | (simp [*, errW_none, errW_some] <;> rfl), by refine zR ?_; exact HO_0.out, by repeat (first | (with_reducible first | exact HB.out | apply below_alloc | apply pw_below_drewN | apply below_drew1) | exact HB.out), by repeat (first | (with_reducible first | exact HK.out | apply Kept.alloc | apply Kept.drewN | apply Kept.drew) | exact HK.out)⟩
     ·rw [if_neg c13] at H
      exact absurd H (by simp)
    ·rw [if_neg c12] at H
     exact absurd H (by simp)
   ·replace c10 := Bool.eq_false_iff.mpr c10
    subst c10
    have H1 : (if l0.length < 8796093022208 then (some (l0 ++ [(⟨a1, wrap64 (a2 - a1)⟩ : S25)])) else (none)) = some r := by rw [if_neg (show ¬ (false = true) by decide)] at H; exact H
    clear H
    have H := H1
    clear H1
    by_cases c17 : l0.length < 8796093022208
    ·rw [if_pos c17] at H
     have LMc17 := am c17
     clear c17
     obtain ⟨y395, hy395⟩ : ∃ y_ : List (S25), y_ = (l0 ++ [(⟨a1, wrap64 (a2 - a1)⟩ : S25)]) := ⟨_, rfl⟩
     replace H : (some y395) = some r := by first | (rw [hy395]; with_reducible exact H) | (have H2_ := (Option.bind_some _ _).symm.trans H; rw [hy395]; with_reducible exact H2_) | (have H2_ := (Option.bind_some _ _).symm.trans H; with_reducible exact H2_) | with_reducible exact H | (rw [hy395]; exact H) | exact H
     have Ny395 := am hy395
     clear hy395
     obtain rfl := Option.some.inj H
     go_wp2_with (first | ((with_reducible refine gate_builtin (b := .append) (xs := #[.tmp 43, .tmp 49]) rfl ?_); at_builtin; refine Kd.R_append k25 (w0 := w0) w0.heap.size rfl (.tmp 43) (.tmp 49) 38 25 (.agg #[(.int .i64 0), (.int .i64 0)]) 16 rfl Try.underlying38 info25 rfl (by decide) (by omega) (.slice Ao5 l0.length co5) l0 (⟨a1, wrap64 (a2 - a1)⟩ : S25) [.int .i64 a1, .int .i64 (wrap64 (a2 - a1))] (fun k_ => (P0_ k_ ∨ w.heap.size ≤ k_)) (fun _ => False) rfl rfl ?aP (fun _ hk => hk.elim) ?aF ?aO ?aB ?aS ?aL ?_; (case aP => exact k25_mkM _ _ _ (⟨a1, wrap64 (a2 - a1)⟩ : S25)); (case aB => exact (zB HB)); (case aF => exact (fun k_ hk => (.inr (Nat.le_trans (by first | exact HK.out.1 | exact (show Kept w _ (fun k_ => P0_ k_) from by repeat (first | (with_reducible first | exact HK.out | apply Kept.alloc | apply Kept.drewN | apply Kept.drew) | exact HK.out)).1) hk)))); (case aO => exact (zR HO_0.out)); (case aS => exact (below_size (zB HB))); (case aL => have := LMc17.out; omega); intro v396 w18 ho hb hg hat; rw [← Ny395.out] at ho; have n0_ := am (hb); have n1_ := am (Kept.of_grown (S := (fun k_ => P0_ k_)) hg (by repeat (first | (with_reducible first | exact HK.out | apply Kept.alloc | apply Kept.drewN | apply Kept.drew) | exact HK.out)) (fun k_ e_ => (HO_0.out.1 k_ e_))); have n2_ := am (ho); clear HB; clear HK; clear HO_0; have HB := n0_; have HK := n1_; have HO397 := n2_; clear n0_ n1_ n2_; clear ho hb hg hat))
     repeat (go_quiet (first | ((with_reducible refine gate_builtin (b := .append) (xs := #[.tmp 43, .tmp 49]) rfl ?_); at_builtin; refine Kd.R_append k25 (w0 := w0) w0.heap.size rfl (.tmp 43) (.tmp 49) 38 25 (.agg #[(.int .i64 0), (.int .i64 0)]) 16 rfl Try.underlying38 info25 rfl (by decide) (by omega) (.slice Ao5 l0.length co5) l0 (⟨a1, wrap64 (a2 - a1)⟩ : S25) [.int .i64 a1, .int .i64 (wrap64 (a2 - a1))] (fun k_ => (P0_ k_ ∨ w.heap.size ≤ k_)) (fun _ => False) rfl rfl ?aP (fun _ hk => hk.elim) ?aF ?aO ?aB ?aS ?aL ?_; (case aP => exact k25_mkM _ _ _ (⟨a1, wrap64 (a2 - a1)⟩ : S25)); (case aB => exact (zB HB)); (case aF => exact (fun k_ hk => (.inr (Nat.le_trans (by first | exact HK.out.1 | exact (show Kept w _ (fun k_ => P0_ k_) from by repeat (first | (with_reducible first | exact HK.out | apply Kept.alloc | apply Kept.drewN | apply Kept.drew) | exact HK.out)).1) hk)))); (case aO => exact (zR HO_0.out)); (case aS => exact (below_size (zB HB))); (case aL => have := LMc17.out; omega); intro v396 w18 ho hb hg hat; rw [← Ny395.out] at ho; have n0_ := am (hb); have n1_ := am (Kept.of_grown (S := (fun k_ => P0_ k_)) hg (by repeat (first | (with_reducible first | exact HK.out | apply Kept.alloc | apply Kept.drewN | apply Kept.drew) | exact HK.out)) (fun k_ e_ => (HO_0.out.1 k_ e_))); have n2_ := am (ho); clear HB; clear HK; clear HO_0; have HB := n0_; have HK := n1_; have HO397 := n2_; clear n0_ n1_ n2_; clear ho hb hg hat)); try go_wp2_with (first | ((with_reducible refine gate_builtin (b := .append) (xs := #[.tmp 43, .tmp 49]) rfl ?_); at_builtin; refine Kd.R_append k25 (w0 := w0) w0.heap.size rfl (.tmp 43) (.tmp 49) 38 25 (.agg #[(.int .i64 0), (.int .i64 0)]) 16 rfl Try.underlying38 info25 rfl (by decide) (by omega) (.slice Ao5 l0.length co5) l0 (⟨a1, wrap64 (a2 - a1)⟩ : S25) [.int .i64 a1, .int .i64 (wrap64 (a2 - a1))] (fun k_ => (P0_ k_ ∨ w.heap.size ≤ k_)) (fun _ => False) rfl rfl ?aP (fun _ hk => hk.elim) ?aF ?aO ?aB ?aS ?aL ?_; (case aP => exact k25_mkM _ _ _ (⟨a1, wrap64 (a2 - a1)⟩ : S25)); (case aB => exact (zB HB)); (case aF => exact (fun k_ hk => (.inr (Nat.le_trans (by first | exact HK.out.1 | exact (show Kept w _ (fun k_ => P0_ k_) from by repeat (first | (with_reducible first | exact HK.out | apply Kept.alloc | apply Kept.drewN | apply Kept.drew) | exact HK.out)).1) hk)))); (case aO => exact (zR HO_0.out)); (case aS => exact (below_size (zB HB))); (case aL => have := LMc17.out; omega); intro v396 w18 ho hb hg hat; rw [← Ny395.out] at ho; have n0_ := am (hb); have n1_ := am (Kept.of_grown (S := (fun k_ => P0_ k_)) hg (by repeat (first | (with_reducible first | exact HK.out | apply Kept.alloc | apply Kept.drewN | apply Kept.drew) | exact HK.out)) (fun k_ e_ => (HO_0.out.1 k_ e_))); have n2_ := am (ho); clear HB; clear HK; clear HO_0; have HB := n0_; have HK := n1_; have HO397 := n2_; clear n0_ n1_ n2_; clear ho hb hg hat)))
     go_ret
     exact ⟨_, by first | rfl | (simp [errW_none, errW_some] <;> rfl) | (simp [*, errW_none, errW_some] <;> rfl), by refine zR ?_; exact HO397.out, by repeat (first | (with_reducible first | exact HB.out | apply below_alloc | apply pw_below_drewN | apply below_drew1) | exact HB.out), by repeat (first | (with_reducible first | exact HK.out | apply Kept.alloc | apply Kept.drewN | apply Kept.drew) | exact HK.out)⟩
    ·rw [if_neg c17] at H
     exact absurd H (by simp)

end
end Go.Proofs.Ytapbmkcncjkanaa.P
