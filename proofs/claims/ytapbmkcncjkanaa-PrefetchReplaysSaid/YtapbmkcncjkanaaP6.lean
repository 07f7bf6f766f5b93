-- Written by this session's wip/tools/px.py out of the translation. Lean checks it.
import Derived.Test.YtapbmkcncjkanaaP0
import Derived.Test.YtapbmkcncjkanaaP5
namespace Go.Proofs.Ytapbmkcncjkanaa.P
noncomputable section
open Go.RowKit Go.Proofs.YtapbmkcncjkanaaW.PrintWords Go.Proofs.YtapbmkcncjkanaaW.PrintLast Go.Proofs.YtapbmkcncjkanaaW.PrintMore
attribute [local go_sem] max2_int min2_int max_two min_two max_three min_three max_four min_four   -- for this text's walks alone
set_option linter.unusedVariables false
set_option linter.unusedSimpArgs false

/-! ### extent_merge: function 46 -/
mutual
def extent_merge.l0 : Nat → ((List Bool) → Option (Bool)) → (Int → Int → Option (Int × Int)) → List (S25) → List Int → List Bool → Int → List (S71) → Int → Option ((List (S25)))
 | 0, _, _, _, _, _, _, _, _ => none
 | k + 1, x0, x1, x7, x8, x9, x10, x11, x12 => if x12 < (x11.length : Int) then (if 0 ≤ x12 then (extent_merge.l1 k x0 x1 x7 x8 x9 x10 x11 x12 ((rd_T71 x11 x12).f0)) else (none)) else (some x7)
def extent_merge.l1 : Nat → ((List Bool) → Option (Bool)) → (Int → Int → Option (Int × Int)) → List (S25) → List Int → List Bool → Int → List (S71) → Int → Int → Option ((List (S25)))
 | 0, _, _, _, _, _, _, _, _, _ => none
 | k + 1, x0, x1, x7, x8, x9, x10, x11, x12, x13 => if x12 < (x11.length : Int) then (if 0 ≤ x12 then (extent_merge.j2 k x0 x1 x7 x8 x9 x10 x11 x12 x13 (((rd_T71 x11 x12).f0) == x13)) else (none)) else (extent_merge.j2 k x0 x1 x7 x8 x9 x10 x11 x12 x13 false)
def extent_merge.j2 : Nat → ((List Bool) → Option (Bool)) → (Int → Int → Option (Int × Int)) → List (S25) → List Int → List Bool → Int → List (S71) → Int → Int → Bool → Option ((List (S25)))
 | 0, _, _, _, _, _, _, _, _, _, _ => none
 | k + 1, x0, x1, x7, x8, x9, x10, x11, x12, x13, x44 => if x44 = true then (if 0 ≤ x12 then (if x12 < (x11.length : Int) then (if 0 ≤ ((rd_T71 x11 x12).f1) then (if ((rd_T71 x11 x12).f1) < (x8.length : Int) then ((some (x8.set (((rd_T71 x11 x12).f1) : Int).toNat (wrap64 ((rd x8 ((rd_T71 x11 x12).f1)) + ((rd_T71 x11 x12).f2))) : List Int)).bind fun y163 => (if ((rd_T71 x11 x12).f1) < (x9.length : Int) then (extent_merge.l1 k x0 x1 x7 y163 (x9.set (((rd_T71 x11 x12).f1) : Int).toNat (decide ((rd y163 ((rd_T71 x11 x12).f1)) > 0))) x10 x11 (wrap64 (x12 + 1)) x13) else (none))) else (none)) else (none)) else (none)) else (none)) else ((x0 x9).bind fun t168 => (if t168 = true then (extent_merge.j3 k x0 x1 x7 x8 x9 x10 x11 x12 x13 t168 (decide (x10 < 0))) else (extent_merge.j3 k x0 x1 x7 x8 x9 x10 x11 x12 x13 t168 false)))
def extent_merge.j3 : Nat → ((List Bool) → Option (Bool)) → (Int → Int → Option (Int × Int)) → List (S25) → List Int → List Bool → Int → List (S71) → Int → Int → Bool → Bool → Option ((List (S25)))
 | 0, _, _, _, _, _, _, _, _, _, _, _ => none
 | k + 1, x0, x1, x7, x8, x9, x10, x11, x12, x13, x14, x85 => if x85 = true then (extent_merge.j4 k x0 x1 x7 x8 x9 x13 x11 x12 x13 x14) else (extent_merge.j4 k x0 x1 x7 x8 x9 x10 x11 x12 x13 x14)
def extent_merge.j4 : Nat → ((List Bool) → Option (Bool)) → (Int → Int → Option (Int × Int)) → List (S25) → List Int → List Bool → Int → List (S71) → Int → Int → Bool → Option ((List (S25)))
 | 0, _, _, _, _, _, _, _, _, _, _ => none
 | k + 1, x0, x1, x7, x8, x9, x10, x11, x12, x13, x14 => if x14 = true then (extent_merge.j5 k x0 x1 x7 x8 x9 x10 x11 x12 x13 false) else (extent_merge.j5 k x0 x1 x7 x8 x9 x10 x11 x12 x13 (decide (x10 ≥ 0)))
def extent_merge.j5 : Nat → ((List Bool) → Option (Bool)) → (Int → Int → Option (Int × Int)) → List (S25) → List Int → List Bool → Int → List (S71) → Int → Int → Bool → Option ((List (S25)))
 | 0, _, _, _, _, _, _, _, _, _, _ => none
 | k + 1, x0, x1, x7, x8, x9, x10, x11, x12, x13, x92 => if x92 = true then ((x1 x10 (wrap64 (x13 - x10))).bind fun bt169 => (if x7.length < 8796093022208 then (extent_merge.l0 k x0 x1 (x7 ++ [(⟨bt169.1, bt169.2⟩ : S25)]) x8 x9 (-1) x11 x12) else (none))) else (extent_merge.l0 k x0 x1 x7 x8 x9 x10 x11 x12)
end
def extent_merge.f (k : Nat) (a0 : ((List Bool) → Option (Bool))) (a1 : (Int → Int → Option (Int × Int))) (l2 : List (List (S25))) : Option ((List (S25))) := if 0 ≤ (l2.length : Int) then (if ((l2.length : Int) : Int).toNat ≤ 35184372088832 then (if ((l2.length : Int) : Int).toNat ≤ 281474976710656 then ((extent_edges.f k l2).bind fun t155 => (extent_merge.l0 k a0 a1 ([] : List (S25)) (List.replicate ((l2.length : Int) : Int).toNat 0) (List.replicate ((l2.length : Int) : Int).toNat false) (-1) t155 0)) else (none)) else (none)) else (none)
theorem extent_merge.mono_l : ∀ k, (∀ y0 y1 y2 y3 y4 y5 y6 y7, LeO (extent_merge.l0 k y0 y1 y2 y3 y4 y5 y6 y7) (extent_merge.l0 (k + 1) y0 y1 y2 y3 y4 y5 y6 y7)) ∧ (∀ y0 y1 y2 y3 y4 y5 y6 y7 y8, LeO (extent_merge.l1 k y0 y1 y2 y3 y4 y5 y6 y7 y8) (extent_merge.l1 (k + 1) y0 y1 y2 y3 y4 y5 y6 y7 y8)) ∧ (∀ y0 y1 y2 y3 y4 y5 y6 y7 y8 y9, LeO (extent_merge.j2 k y0 y1 y2 y3 y4 y5 y6 y7 y8 y9) (extent_merge.j2 (k + 1) y0 y1 y2 y3 y4 y5 y6 y7 y8 y9)) ∧ (∀ y0 y1 y2 y3 y4 y5 y6 y7 y8 y9 y10, LeO (extent_merge.j3 k y0 y1 y2 y3 y4 y5 y6 y7 y8 y9 y10) (extent_merge.j3 (k + 1) y0 y1 y2 y3 y4 y5 y6 y7 y8 y9 y10)) ∧ (∀ y0 y1 y2 y3 y4 y5 y6 y7 y8 y9, LeO (extent_merge.j4 k y0 y1 y2 y3 y4 y5 y6 y7 y8 y9) (extent_merge.j4 (k + 1) y0 y1 y2 y3 y4 y5 y6 y7 y8 y9)) ∧ (∀ y0 y1 y2 y3 y4 y5 y6 y7 y8 y9, LeO (extent_merge.j5 k y0 y1 y2 y3 y4 y5 y6 y7 y8 y9) (extent_merge.j5 (k + 1) y0 y1 y2 y3 y4 y5 y6 y7 y8 y9))
 | 0 => ⟨fun _ _ _ _ _ _ _ _ r h => by simp [extent_merge.l0] at h, fun _ _ _ _ _ _ _ _ _ r h => by simp [extent_merge.l1] at h, fun _ _ _ _ _ _ _ _ _ _ r h => by simp [extent_merge.j2] at h, fun _ _ _ _ _ _ _ _ _ _ _ r h => by simp [extent_merge.j3] at h, fun _ _ _ _ _ _ _ _ _ _ r h => by simp [extent_merge.j4] at h, fun _ _ _ _ _ _ _ _ _ _ r h => by simp [extent_merge.j5] at h⟩
 | k + 1 => by
  obtain ⟨ih0, ih1, ih2, ih3, ih4, ih5⟩ := extent_merge.mono_l k
  refine ⟨?_, ?_, ?_, ?_, ?_, ?_⟩
  ·intro y0 y1 y2 y3 y4 y5 y6 y7
   unfold extent_merge.l0
   repeat' first
   | (with_reducible exact ih0 _ _ _ _ _ _ _ _)
   | (with_reducible exact ih1 _ _ _ _ _ _ _ _ _)
   | (with_reducible exact ih2 _ _ _ _ _ _ _ _ _ _)
   | (with_reducible exact ih3 _ _ _ _ _ _ _ _ _ _ _)
   | (with_reducible exact ih4 _ _ _ _ _ _ _ _ _ _)
   | (with_reducible exact ih5 _ _ _ _ _ _ _ _ _ _)
   | (with_reducible exact extent_edges.mono _ _)
   | (with_reducible exact LeO.refl _)
   | (with_reducible exact LeO.none _)
   | (with_reducible refine LeO.ite ?_ ?_)
   | (with_reducible refine LeO.bind ?_ (fun _ => ?_))
   | exact ih0 _ _ _ _ _ _ _ _
   | exact ih1 _ _ _ _ _ _ _ _ _
   | exact ih2 _ _ _ _ _ _ _ _ _ _
   | exact ih3 _ _ _ _ _ _ _ _ _ _ _
   | exact ih4 _ _ _ _ _ _ _ _ _ _
   | exact ih5 _ _ _ _ _ _ _ _ _ _
   | exact extent_edges.mono _ _
   | exact LeO.none _
   | refine LeO.ite ?_ ?_
   | refine LeO.bind ?_ (fun _ => ?_)
  ·intro y0 y1 y2 y3 y4 y5 y6 y7 y8
   unfold extent_merge.l1
   repeat' first
   | (with_reducible exact ih0 _ _ _ _ _ _ _ _)
   | (with_reducible exact ih1 _ _ _ _ _ _ _ _ _)
   | (with_reducible exact ih2 _ _ _ _ _ _ _ _ _ _)
   | (with_reducible exact ih3 _ _ _ _ _ _ _ _ _ _ _)
   | (with_reducible exact ih4 _ _ _ _ _ _ _ _ _ _)
   | (with_reducible exact ih5 _ _ _ _ _ _ _ _ _ _)
   | (with_reducible exact extent_edges.mono _ _)
   | (with_reducible exact LeO.refl _)
   | (with_reducible exact LeO.none _)
   | (with_reducible refine LeO.ite ?_ ?_)
   | (with_reducible refine LeO.bind ?_ (fun _ => ?_))
   | exact ih0 _ _ _ _ _ _ _ _
   | exact ih1 _ _ _ _ _ _ _ _ _
   | exact ih2 _ _ _ _ _ _ _ _ _ _
   | exact ih3 _ _ _ _ _ _ _ _ _ _ _
   | exact ih4 _ _ _ _ _ _ _ _ _ _
   | exact ih5 _ _ _ _ _ _ _ _ _ _
   | exact extent_edges.mono _ _
   | exact LeO.none _
   | refine LeO.ite ?_ ?_
   | refine LeO.bind ?_ (fun _ => ?_)
  ·intro y0 y1 y2 y3 y4 y5 y6 y7 y8 y9
   unfold extent_merge.j2
   repeat' first
   | (with_reducible exact ih0 _ _ _ _ _ _ _ _)
   | (with_reducible exact ih1 _ _ _ _ _ _ _ _ _)
   | (with_reducible exact ih2 _ _ _ _ _ _ _ _ _ _)
   | (with_reducible exact ih3 _ _ _ _ _ _ _ _ _ _ _)
   | (with_reducible exact ih4 _ _ _ _ _ _ _ _ _ _)
   | (with_reducible exact ih5 _ _ _ _ _ _ _ _ _ _)
   | (with_reducible exact extent_edges.mono _ _)
   | (with_reducible exact LeO.refl _)
   | (with_reducible exact LeO.none _)
   | (with_reducible refine LeO.ite ?_ ?_)
   | (with_reducible refine LeO.bind ?_ (fun _ => ?_))
   | exact ih0 _ _ _ _ _ _ _ _
   | exact ih1 _ _ _ _ _ _ _ _ _
   | exact ih2 _ _ _ _ _ _ _ _ _ _
   | exact ih3 _ _ _ _ _ _ _ _ _ _ _
   | exact ih4 _ _ _ _ _ _ _ _ _ _
   | exact ih5 _ _ _ _ _ _ _ _ _ _
   | exact extent_edges.mono _ _
   | exact LeO.none _
   | refine LeO.ite ?_ ?_
   | refine LeO.bind ?_ (fun _ => ?_)
  ·intro y0 y1 y2 y3 y4 y5 y6 y7 y8 y9 y10
   unfold extent_merge.j3
   repeat' first
   | (with_reducible exact ih0 _ _ _ _ _ _ _ _)
   | (with_reducible exact ih1 _ _ _ _ _ _ _ _ _)
   | (with_reducible exact ih2 _ _ _ _ _ _ _ _ _ _)
   | (with_reducible exact ih3 _ _ _ _ _ _ _ _ _ _ _)
   | (with_reducible exact ih4 _ _ _ _ _ _ _ _ _ _)
   | (with_reducible exact ih5 _ _ _ _ _ _ _ _ _ _)
   | (with_reducible exact extent_edges.mono _ _)
   | (with_reducible exact LeO.refl _)
   | (with_reducible exact LeO.none _)
   | (with_reducible refine LeO.ite ?_ ?_)
   | (with_reducible refine LeO.bind ?_ (fun _ => ?_))
   | exact ih0 _ _ _ _ _ _ _ _
   | exact ih1 _ _ _ _ _ _ _ _ _
   | exact ih2 _ _ _ _ _ _ _ _ _ _
   | exact ih3 _ _ _ _ _ _ _ _ _ _ _
   | exact ih4 _ _ _ _ _ _ _ _ _ _
   | exact ih5 _ _ _ _ _ _ _ _ _ _
   | exact extent_edges.mono _ _
   | exact LeO.none _
   | refine LeO.ite ?_ ?_
   | refine LeO.bind ?_ (fun _ => ?_)
  ·intro y0 y1 y2 y3 y4 y5 y6 y7 y8 y9
   unfold extent_merge.j4
   repeat' first
   | (with_reducible exact ih0 _ _ _ _ _ _ _ _)
   | (with_reducible exact ih1 _ _ _ _ _ _ _ _ _)
   | (with_reducible exact ih2 _ _ _ _ _ _ _ _ _ _)
   | (with_reducible exact ih3 _ _ _ _ _ _ _ _ _ _ _)
   | (with_reducible exact ih4 _ _ _ _ _ _ _ _ _ _)
   | (with_reducible exact ih5 _ _ _ _ _ _ _ _ _ _)
   | (with_reducible exact extent_edges.mono _ _)
   | (with_reducible exact LeO.refl _)
   | (with_reducible exact LeO.none _)
   | (with_reducible refine LeO.ite ?_ ?_)
   | (with_reducible refine LeO.bind ?_ (fun _ => ?_))
   | exact ih0 _ _ _ _ _ _ _ _
   | exact ih1 _ _ _ _ _ _ _ _ _
   | exact ih2 _ _ _ _ _ _ _ _ _ _
   | exact ih3 _ _ _ _ _ _ _ _ _ _ _
   | exact ih4 _ _ _ _ _ _ _ _ _ _
   | exact ih5 _ _ _ _ _ _ _ _ _ _
   | exact extent_edges.mono _ _
   | exact LeO.none _
   | refine LeO.ite ?_ ?_
   | refine LeO.bind ?_ (fun _ => ?_)
  ·intro y0 y1 y2 y3 y4 y5 y6 y7 y8 y9
   unfold extent_merge.j5
   repeat' first
   | (with_reducible exact ih0 _ _ _ _ _ _ _ _)
   | (with_reducible exact ih1 _ _ _ _ _ _ _ _ _)
   | (with_reducible exact ih2 _ _ _ _ _ _ _ _ _ _)
   | (with_reducible exact ih3 _ _ _ _ _ _ _ _ _ _ _)
   | (with_reducible exact ih4 _ _ _ _ _ _ _ _ _ _)
   | (with_reducible exact ih5 _ _ _ _ _ _ _ _ _ _)
   | (with_reducible exact extent_edges.mono _ _)
   | (with_reducible exact LeO.refl _)
   | (with_reducible exact LeO.none _)
   | (with_reducible refine LeO.ite ?_ ?_)
   | (with_reducible refine LeO.bind ?_ (fun _ => ?_))
   | exact ih0 _ _ _ _ _ _ _ _
   | exact ih1 _ _ _ _ _ _ _ _ _
   | exact ih2 _ _ _ _ _ _ _ _ _ _
   | exact ih3 _ _ _ _ _ _ _ _ _ _ _
   | exact ih4 _ _ _ _ _ _ _ _ _ _
   | exact ih5 _ _ _ _ _ _ _ _ _ _
   | exact extent_edges.mono _ _
   | exact LeO.none _
   | refine LeO.ite ?_ ?_
   | refine LeO.bind ?_ (fun _ => ?_)
theorem extent_merge.mono : ∀ a0 a1 a2 k, LeO (extent_merge.f k a0 a1 a2) (extent_merge.f (k + 1) a0 a1 a2) := by
 intro a0 a1 a2 k
 obtain ⟨ih0, ih1, ih2, ih3, ih4, ih5⟩ := extent_merge.mono_l k
 unfold extent_merge.f
 repeat' first
   | (with_reducible exact ih0 _ _ _ _ _ _ _ _)
   | (with_reducible exact ih1 _ _ _ _ _ _ _ _ _)
   | (with_reducible exact ih2 _ _ _ _ _ _ _ _ _ _)
   | (with_reducible exact ih3 _ _ _ _ _ _ _ _ _ _ _)
   | (with_reducible exact ih4 _ _ _ _ _ _ _ _ _ _)
   | (with_reducible exact ih5 _ _ _ _ _ _ _ _ _ _)
   | (with_reducible exact extent_edges.mono _ _)
   | (with_reducible exact LeO.refl _)
   | (with_reducible exact LeO.none _)
   | (with_reducible refine LeO.ite ?_ ?_)
   | (with_reducible refine LeO.bind ?_ (fun _ => ?_))
   | exact ih0 _ _ _ _ _ _ _ _
   | exact ih1 _ _ _ _ _ _ _ _ _
   | exact ih2 _ _ _ _ _ _ _ _ _ _
   | exact ih3 _ _ _ _ _ _ _ _ _ _ _
   | exact ih4 _ _ _ _ _ _ _ _ _ _
   | exact ih5 _ _ _ _ _ _ _ _ _ _
   | exact extent_edges.mono _ _
   | exact LeO.none _
   | refine LeO.ite ?_ ?_
   | refine LeO.bind ?_ (fun _ => ?_)
def extent_merge.T2 : Bool × List (List Nat × List Nat) := (true, [([], []), ([0], [0]), ([1, 1], [1]), ([], []), ([3], [3]), ([4, 4], [4]), ([2, 0, 1, 2], [2]), ([5, 6, 0, 1, 2, 3, 4, 5, 6], [5])])
def extent_merge.B2 : List Nat := [0, 1, 3, 0, 8, 24, 7, 127]
theorem extent_merge.tab2 : rtab .any (opsOf Try.f46 2) = extent_merge.T2 := by kernel_rfl
theorem extent_merge.bits2 : waitsOk extent_merge.T2.2 extent_merge.B2 = true := by kernel_rfl
def extent_merge.T10 : Bool × List (List Nat × List Nat) := (true, [([], []), ([], []), ([], []), ([1, 2], [1, 2]), ([3], [3]), ([4], [4]), ([0, 5], [0, 5]), ([6], [6]), ([], []), ([], []), ([8, 9], [8, 9]), ([10], [10]), ([11], [11]), ([7, 12], [7, 12]), ([0, 5, 0, 1, 2, 3, 4, 5, 6, 7, 8, 9, 10, 11, 12, 13], [0, 5]), ([14, 13, 0, 1, 2, 3, 4, 5, 6, 7, 8, 9, 10, 11, 12, 13], [13, 14])])
def extent_merge.B10 : List Nat := [0, 0, 0, 6, 14, 30, 63, 127, 0, 0, 768, 1792, 3840, 8191, 16383, 32767]
theorem extent_merge.tab10 : rtab .any (opsOf Try.f46 10) = extent_merge.T10 := by kernel_rfl
theorem extent_merge.bits10 : waitsOk extent_merge.T10.2 extent_merge.B10 = true := by kernel_rfl
def extent_merge.T11 : Bool × List (List Nat × List Nat) := (true, [([], []), ([], []), ([], []), ([1, 2], [1, 2]), ([3], [3]), ([4], [4]), ([], []), ([], []), ([], []), ([7, 8], [7, 8]), ([9], [9]), ([10], [10]), ([6, 11], [6, 11]), ([12], [12]), ([13], [13]), ([0, 5, 0, 1, 2, 3, 4, 5, 6, 7, 8, 9, 10, 11, 12, 13, 14], [0, 5]), ([15, 14, 0, 1, 2, 3, 4, 5, 6, 7, 8, 9, 10, 11, 12, 13, 14], [14, 15])])
def extent_merge.B11 : List Nat := [0, 0, 0, 6, 14, 30, 0, 0, 0, 384, 896, 1920, 4032, 8128, 16320, 32767, 65535]
theorem extent_merge.tab11 : rtab .any (opsOf Try.f46 11) = extent_merge.T11 := by kernel_rfl
theorem extent_merge.bits11 : waitsOk extent_merge.T11.2 extent_merge.B11 = true := by kernel_rfl
set_option maxHeartbeats 8000000 in
set_option maxRecDepth 100000 in
theorem extent_merge.calls (k : Nat) (a0 : ((List Bool) → Option (Bool))) (g0 : Nat) (cb0 : Array Value) (en0 : ∀ args W, (callFunc g0 args).run Try.prog W = .ok (.enter g0 args) W) (a1 : (Int → Int → Option (Int × Int))) (g1 : Nat) (cb1 : Array Value) (en1 : ∀ args W, (callFunc g1 args).run Try.prog W = .ok (.enter g1 args) W) (A2 : Option Addr) (c2 : Nat) (l2 : List (List (S25))) (r : List (S25)) (w : World) (hr2 : Kd.C (Kd.slice 25 k25) w A2 l2.length l2) (hc2 : l2.length ≤ c2) (hF0 : ∀ (A0_ : Option Addr) (c0_ : Nat) (y0_ : List Bool) (z0_ : Bool) (W_ : World), Below w.heap.size w W_ → Kd.C Kd.bool W_ A0_ y0_.length y0_ → y0_.length ≤ c0_ → a0 y0_ = some z0_ → Calls Try.prog g0 (#[.slice A0_ y0_.length c0_] ++ cb0) W_ fun e w' => e = .returned (.bool z0_) ∧ Below W_.heap.size W_ w') (hF1 : ∀ (y0_ : Int) (y1_ : Int) (z0_ : Int) (z1_ : Int) (W_ : World), Below w.heap.size w W_ → a1 y0_ y1_ = some (z0_, z1_) → Calls Try.prog g1 (#[.agg #[.int .i64 y0_, .int .i64 y1_]] ++ cb1) W_ fun e w' => e = .returned (.agg #[.int .i64 z0_, .int .i64 z1_]) ∧ Below W_.heap.size W_ w') (h : extent_merge.f k a0 a1 l2 = some r) :
  Calls Try.prog 46 #[.func (.func g0) #[] cb0, .func (.func g1) #[] cb1, .slice A2 l2.length c2] w fun e w' => ∃ v0_ : Value, e = .returned (v0_) ∧ Kd.R k25 25 w' w.heap.size (fun _ => True) v0_ r ∧ Below w.heap.size w w' := by
 have hu25 := Try.underlying25
 have HF0 := am hF0
 clear hF0
 have HF1 := am hF1
 clear hF1
 have HR2 := am hr2
 have HC2 := am hc2
 clear hr2 hc2
 have HB := am (Below.refl w.heap.size w)
 have H : (if 0 ≤ (l2.length : Int) then (if ((l2.length : Int) : Int).toNat ≤ 35184372088832 then (if ((l2.length : Int) : Int).toNat ≤ 281474976710656 then ((extent_edges.f k l2).bind fun t155 => (extent_merge.l0 k a0 a1 ([] : List (S25)) (List.replicate ((l2.length : Int) : Int).toNat 0) (List.replicate ((l2.length : Int) : Int).toNat false) (-1) t155 0)) else (none)) else (none)) else (none)) = some r := h
 clear h
 by_cases c4 : 0 ≤ (l2.length : Int)
 ·rw [if_pos c4] at H
  have c4b0 := eq_true c4
  have c4b1 : decide (0 ≤ (l2.length : Int)) = true := decide_eq_true c4
  clear c4
  by_cases c5 : ((l2.length : Int) : Int).toNat ≤ 35184372088832
  ·rw [if_pos c5] at H
   have c5b0 := eq_true c5
   have c5b1 : decide (((l2.length : Int) : Int).toNat ≤ 35184372088832) = true := decide_eq_true c5
   clear c5
   obtain ⟨y149, hy149⟩ : ∃ y_ : List Int, y_ = (List.replicate ((l2.length : Int) : Int).toNat 0) := ⟨_, rfl⟩
   replace H : (if ((l2.length : Int) : Int).toNat ≤ 281474976710656 then ((extent_edges.f k l2).bind fun t155 => (extent_merge.l0 k a0 a1 ([] : List (S25)) y149 (List.replicate ((l2.length : Int) : Int).toNat false) (-1) t155 0)) else (none)) = some r := by first | (rw [hy149]; with_reducible exact H) | (have H2_ := (Option.bind_some _ _).symm.trans H; rw [hy149]; with_reducible exact H2_) | (have H2_ := (Option.bind_some _ _).symm.trans H; with_reducible exact H2_) | with_reducible exact H | (rw [hy149]; exact H) | exact H
   have Ny149 := am hy149
   clear hy149
   by_cases c6 : ((l2.length : Int) : Int).toNat ≤ 281474976710656
   ·rw [if_pos c6] at H
    have c6b0 := eq_true c6
    have c6b1 : decide (((l2.length : Int) : Int).toNat ≤ 281474976710656) = true := decide_eq_true c6
    clear c6
    obtain ⟨y152, hy152⟩ : ∃ y_ : List Bool, y_ = (List.replicate ((l2.length : Int) : Int).toNat false) := ⟨_, rfl⟩
    replace H : ((extent_edges.f k l2).bind fun t155 => (extent_merge.l0 k a0 a1 ([] : List (S25)) y149 y152 (-1) t155 0)) = some r := by first | (rw [hy152]; with_reducible exact H) | (have H2_ := (Option.bind_some _ _).symm.trans H; rw [hy152]; with_reducible exact H2_) | (have H2_ := (Option.bind_some _ _).symm.trans H; with_reducible exact H2_) | with_reducible exact H | (rw [hy152]; exact H) | exact H
    have Ny152 := am hy152
    clear hy152
    replace H := Option.bind_eq_some_iff.mp H
    obtain ⟨t155, A70, H⟩ := H
    replace H : (extent_merge.l0 k a0 a1 ([] : List (S25)) y149 y152 (-1) t155 0) = some r := H
    have A7 := am A70
    clear A70
    have H' := am H
    clear H
    go_enter Try.func46, Try.ntmps46
    try go_wp2
    have n0_ := am (below_drew1 HB.out)
    clear HB
    have HB := n0_
    clear n0_
    refine start_ (n := 8) (S := fun w' => True) (ds := []) #[F,F,F,F,F,F,F,F] (by kernel_rfl) rfl rfl trivial (fun hHeld => ?_); refine with_tabW extent_merge.tab2 extent_merge.bits2 (fun HT_ HW_ => ?_)
    generalize w.drew = w8 at HB hHeld ⊢
    refine pure_ (i := 0) (N := some 15) (v := ?_) (a' := ?_) #[T,F,F,F,F,F,F,F] rfl rfl (zO HT_) (fun _ _ _ h => h) (Or.inl ⟨by rfl, ?_⟩) ?_ ?_
    rotate_left
    ·intro w'
     go_simp
     with_reducible rfl
    rotate_left
    ·exact zP i64_w i32_w
    refine pure_ (i := 1) (N := some 16) (v := ?_) (a' := ?_) #[T,T,F,F,F,F,F,F] rfl rfl (zO HT_) (fun _ _ _ h => h) (Or.inl ⟨by rfl, ?_⟩) ?_ ?_
    rotate_left
    ·intro w'
     go_simp
     with_reducible rfl
    rotate_left
    ·exact zP i64_w i32_w
    refine pure_ (i := 3) (N := some 18) (v := ?_) (a' := ?_) #[T,T,F,T,F,F,F,F] rfl rfl (zO HT_) (fun _ _ _ h => h) (Or.inl ⟨by rfl, ?_⟩) ?_ ?_
    rotate_left
    ·intro w'
     go_simp
     with_reducible rfl
    rotate_left
    ·exact zP i64_w i32_w
    refine pure_ (i := 4) (N := some 19) (v := ?_) (a' := ?_) #[T,T,F,T,T,F,F,F] rfl rfl (zO HT_) (fun _ _ _ h => h) (Or.inl ⟨by rfl, ?_⟩) ?_ ?_
    rotate_left
    ·intro w'
     go_simp
     with_reducible rfl
    rotate_left
    ·exact zP i64_w i32_w
    refine join_ (σ := Value × Value) 1 #[T,T,T,T,T,T,T,F] (fun s_ => [(17, s_.1), (20, s_.2), (8, s_.1)]) (fun s_ w' => (Kd.R (Kd.int .i64) 3 w' w.heap.size (fun _ => True) s_.1 y149) ∧ (Kd.R Kd.bool 4 w' w.heap.size (fun _ => True) s_.2 y152) ∧ (Below w.heap.size w w')) ?_ ?_
    rotate_left
    ·intro hCont
     refine two_ (i := 2) (j := 5) (Ni := some 17) (Nj := some 20) #[T,T,T,T,T,F,F,F] #[T,T,F,T,T,T,F,F] rfl rfl rfl rfl (two_of HT_.out (by kernel_rfl)) (by decide) (by decide) (fun K hK => ?_) (fun K hK => ?_)
     ·skip
      refine Kd.R_make_step (Kd.int .i64) _ 3 (by rfl) (N := 17) rfl 36 _ _ rfl (l2.length : Int) rfl rfl Try.underlying36 (.int .i64 0) 8 info3 rfl (by decide) (by omega) 0 (ok := fun _ => True) (okp := fun _ => True) rfl (fun _ hk => hk) trivial (of_decide_eq_true zA) (Nat.le_trans (Nat.mul_le_mul_right _ (of_decide_eq_true zA : (l2.length : Int).toNat ≤ 35184372088832)) (by omega)) (Below.refl _ _) (Nat.le_refl _) ?_
      intro v150 w9 ho10 hb hg_ hnew_
      clear hg_ hnew_
      (first | rw [← Ny149.out] at ho10 | (simp only [Int.reduceToNat] at ho10; rw [← Ny149.out] at ho10))
      have n0_ := am (Kd.R_lower ho10 (below_size (zB HB)))
      have n1_ := am (below_step (zB HB) hb)
      clear HB
      have HO151 := n0_
      have HB := n1_
      clear n0_ n1_
      clear hb ho10
      refine hK.out _ _ trivial (fun hHeld => ?_)
      clear hK K
      refine norm_ (a' := ?_) ?_ ?_
      rotate_left
      ·show Act.put _ (some 17) _ = _
       simp only [Act.put, List.setIfInBounds_toArray, List.set_cons_zero, List.set_cons_succ, i64_w, i32_w]
       rfl
      refine pure_ (i := 6) (N := some 8) (v := ?_) (a' := ?_) #[T,T,T,T,T,F,T,F] rfl rfl (zO HT_) (fun _ _ _ h => h) (Or.inl ⟨by rfl, ?_⟩) ?_ ?_
      rotate_left
      ·intro w'
       go_simp
       with_reducible rfl
      rotate_left
      ·exact zP i64_w i32_w
      refine one_ (i := 5) (N := some 20) #[T,T,T,T,T,T,T,F] rfl rfl (one_of HT_.out (by kernel_rfl)) (by decide) (fun K hK => ?_)
      refine Kd.R_make_step Kd.bool _ 4 (by rfl) (N := 20) rfl 59 _ _ rfl (l2.length : Int) rfl rfl Try.underlying59 (.bool false) 1 info4 rfl (by decide) (by omega) false (ok := fun _ => True) (okp := fun _ => True) rfl (fun _ hk => hk) trivial (of_decide_eq_true zA) (Nat.le_trans (Nat.mul_le_mul_right _ (of_decide_eq_true zA : (l2.length : Int).toNat ≤ 281474976710656)) (by omega)) (Below.refl _ _) (Nat.le_refl _) ?_
      intro v153 w11 ho12 hb hg_ hnew_
      clear hg_ hnew_
      (first | rw [← Ny152.out] at ho12 | (simp only [Int.reduceToNat] at ho12; rw [← Ny152.out] at ho12))
      have n0_ := am (Kd.R_below (zR HO151.out) hb)
      have n1_ := am (Kd.R_lower ho12 (below_size (zB HB)))
      have n2_ := am (below_step (zB HB) hb)
      clear HO151
      clear HB
      have HO151 := n0_
      have HO154 := n1_
      have HB := n2_
      clear n0_ n1_ n2_
      clear hb ho12
      refine hK.out _ _ trivial (fun hHeld => ?_)
      clear hK K
      refine norm_ (a' := ?_) ?_ ?_
      rotate_left
      ·show Act.put _ (some 20) _ = _
       simp only [Act.put, List.setIfInBounds_toArray, List.set_cons_zero, List.set_cons_succ, i64_w, i32_w]
       rfl
      exact norm_ (by simp only [putAll, Act.put, List.setIfInBounds_toArray, List.set_cons_zero, List.set_cons_succ]) (hCont (v150, v153) _ ⟨(zR HO151.out), (zR HO154.out), (zB HB)⟩)
     ·skip
      refine Kd.R_make_step Kd.bool _ 4 (by rfl) (N := 20) rfl 59 _ _ rfl (l2.length : Int) rfl rfl Try.underlying59 (.bool false) 1 info4 rfl (by decide) (by omega) false (ok := fun _ => True) (okp := fun _ => True) rfl (fun _ hk => hk) trivial (of_decide_eq_true zA) (Nat.le_trans (Nat.mul_le_mul_right _ (of_decide_eq_true zA : (l2.length : Int).toNat ≤ 281474976710656)) (by omega)) (Below.refl _ _) (Nat.le_refl _) ?_
      intro v153 w9 ho10 hb hg_ hnew_
      clear hg_ hnew_
      (first | rw [← Ny152.out] at ho10 | (simp only [Int.reduceToNat] at ho10; rw [← Ny152.out] at ho10))
      have n0_ := am (Kd.R_lower ho10 (below_size (zB HB)))
      have n1_ := am (below_step (zB HB) hb)
      clear HB
      have HO154 := n0_
      have HB := n1_
      clear n0_ n1_
      clear hb ho10
      refine hK.out _ _ trivial (fun hHeld => ?_)
      clear hK K
      refine norm_ (a' := ?_) ?_ ?_
      rotate_left
      ·show Act.put _ (some 20) _ = _
       simp only [Act.put, List.setIfInBounds_toArray, List.set_cons_zero, List.set_cons_succ, i64_w, i32_w]
       rfl
      refine one_ (i := 2) (N := some 17) #[T,T,T,T,T,T,F,F] rfl rfl (one_of HT_.out (by kernel_rfl)) (by decide) (fun K hK => ?_)
      refine Kd.R_make_step (Kd.int .i64) _ 3 (by rfl) (N := 17) rfl 36 _ _ rfl (l2.length : Int) rfl rfl Try.underlying36 (.int .i64 0) 8 info3 rfl (by decide) (by omega) 0 (ok := fun _ => True) (okp := fun _ => True) rfl (fun _ hk => hk) trivial (of_decide_eq_true zA) (Nat.le_trans (Nat.mul_le_mul_right _ (of_decide_eq_true zA : (l2.length : Int).toNat ≤ 35184372088832)) (by omega)) (Below.refl _ _) (Nat.le_refl _) ?_
      intro v150 w11 ho12 hb hg_ hnew_
      clear hg_ hnew_
      (first | rw [← Ny149.out] at ho12 | (simp only [Int.reduceToNat] at ho12; rw [← Ny149.out] at ho12))
      have n0_ := am (Kd.R_below (zR HO154.out) hb)
      have n1_ := am (Kd.R_lower ho12 (below_size (zB HB)))
      have n2_ := am (below_step (zB HB) hb)
      clear HO154
      clear HB
      have HO154 := n0_
      have HO151 := n1_
      have HB := n2_
      clear n0_ n1_ n2_
      clear hb ho12
      refine hK.out _ _ trivial (fun hHeld => ?_)
      clear hK K
      refine norm_ (a' := ?_) ?_ ?_
      rotate_left
      ·show Act.put _ (some 17) _ = _
       simp only [Act.put, List.setIfInBounds_toArray, List.set_cons_zero, List.set_cons_succ, i64_w, i32_w]
       rfl
      refine pure_ (i := 6) (N := some 8) (v := ?_) (a' := ?_) #[T,T,T,T,T,T,T,F] rfl rfl (zO HT_) (fun _ _ _ h => h) (Or.inl ⟨by rfl, ?_⟩) ?_ ?_
      rotate_left
      ·intro w'
       go_simp
       with_reducible rfl
      rotate_left
      ·exact zP i64_w i32_w
      exact norm_ (by simp only [putAll, Act.put, List.setIfInBounds_toArray, List.set_cons_zero, List.set_cons_succ]) (hCont (v150, v153) _ ⟨(zR HO151.out), (zR HO154.out), (zB HB)⟩)
    rintro ⟨v150, v153⟩ w13 ⟨h0_, h1_, h2_⟩
    have n0_ : Aside0 (Kd.R (Kd.int .i64) 3 w13 w.heap.size (fun _ => True) v150 y149) := ⟨h0_⟩
    have n1_ : Aside0 (Kd.R Kd.bool 4 w13 w.heap.size (fun _ => True) v153 y152) := ⟨h1_⟩
    have n2_ : Aside0 (Below w.heap.size w w13) := ⟨h2_⟩
    clear HB
    clear h0_ h1_ h2_
    have HO151 := n0_
    have HO154 := n1_
    have HB := n2_
    clear n0_ n1_ n2_
    have hHeld := trivial
    refine norm_ (a' := ?_) ?_ ?_
    rotate_left
    ·simp only [putAll, Act.put, List.setIfInBounds_toArray, List.set_cons_zero, List.set_cons_succ]
     rfl
    refine pure_ (i := 7) (N := some 9) (v := ?_) (a' := ?_) #[T,T,T,T,T,T,T,T] rfl rfl (zO HT_) (fun _ _ _ h => h) (Or.inl ⟨by rfl, ?_⟩) ?_ ?_
    rotate_left
    ·intro w'
     go_simp
     with_reducible rfl
    rotate_left
    ·exact zP i64_w i32_w
    refine done_ (done_of HT_.out (by kernel_rfl)) ?_
    try go_wp2_with (first | ((with_reducible refine gate_callee (f := 51) rfl ?_); refine goesL_ (some 22) rfl rfl Try.func51 (by kernel_rfl) rfl #[.slice A2 l2.length c2] rfl zM ?_; (with_reducible refine (extent_edges.calls k _ _ l2 t155 _ ?side1 ?side2 A7.out).mono ?_); (case side1 => exact zC (Kd.C_below HR2.out HB.out)); (case side2 => exact HC2.out); rintro e w14 ⟨v156, rfl, ho0, hb⟩; refine ⟨_, rfl, ?_⟩; have n0_ := am (Kd.R_below (zR HO151.out) hb); have n1_ := am (Kd.R_below (zR HO154.out) hb); have n2_ := am (Kd.R_lower ho0 (below_size (zB HB))); have n3_ := am (below_step (zB HB) hb); clear HO151; clear HO154; clear HB; have HO151 := n0_; have HO154 := n1_; have HO157 := n2_; have HB := n3_; clear n0_ n1_ n2_ n3_; (try clear hb); (try clear hb2); (try clear hk); (try clear hi); (try clear ho0)))
    go_loopg [7, 10, 12] k (fun kq v7 v10 v12 w' => ∃ (x7_1 : List (S25)) (x8_1 : List Int) (x9_1 : List Bool) (x10_1 : Int) (x12_1 : Int), v10 = .int .i64 x10_1 ∧ v12 = .int .i64 x12_1 ∧ Aside0 (extent_merge.l0 kq a0 a1 x7_1 x8_1 x9_1 x10_1 t155 x12_1 = some r) ∧ Aside0 (kq ≤ k) ∧ Aside0 (Kd.R k25 25 w' w.heap.size (fun _ => True) v7 x7_1) ∧ Aside0 (Kd.R (Kd.int .i64) 3 w' w.heap.size (fun _ => True) v150 x8_1) ∧ Aside0 (Kd.R Kd.bool 4 w' w.heap.size (fun _ => True) v153 x9_1) ∧ Aside0 (Kd.R k71 71 w' w.heap.size (fun _ => True) v156 t155) ∧ Aside0 (Below w.heap.size w w'))
    case atStart => exact ⟨(([] : List (S25))), (y149), (y152), ((-1)), (0), zS, zS, H', ⟨Nat.le_refl _⟩, ⟨by first | exact Kd.R_nil _ _ _ _ _ | exact Kd.N_nil _ _ _ _ _ | exact Kd.V_nil _ _ _ _ _ | exact Kd.Q_nil _ _ _ _ _ | exact Kd.S_nil _ _ _ _ _⟩, ⟨zR HO151.out⟩, ⟨zR HO154.out⟩, ⟨zR HO157.out⟩, ⟨zB HB⟩⟩
    case round =>
     clear H'
     try clear c2
     try clear p2
     try clear c4
     try clear c4b0
     try clear c4b1
     try clear c5
     try clear c5b0
     try clear c5b1
     try clear c6
     try clear c6b0
     try clear c6b1
     obtain ⟨x7_1, x8_1, x9_1, x10_1, x12_1, rfl, rfl, HA, HK1, HO_7, HO_8, HO_9, HO_11, HB⟩ := hrel
     cases gk with
     | zero => exact absurd HA.out (by simp [extent_merge.l0])
     | succ k1 =>
      have H := HA.out
      clear HA
      simp only [extent_merge.l0] at H
      by_cases c15 : x12_1 < (t155.length : Int)
      ·rw [if_pos c15] at H
       have c15b0 : decide (x12_1 < (t155.length : Int)) = true := decide_eq_true c15
       clear c15
       by_cases c16 : 0 ≤ x12_1
       ·rw [if_pos c16] at H
        have c16b0 : decide (0 ≤ x12_1) = true := decide_eq_true c16
        clear c16
        have H' := am H
        clear H
        obtain ⟨Ao17, co17, eo17⟩ := Kd.R_slice HO_11.out
        subst eo17
        have p158 : 0 ≤ (x12_1 : Int) := of_decide_eq_true zA
        have q158 : x12_1 < (t155.length : Int) := of_decide_eq_true zA
        obtain ⟨ad158, e158, hx158_0, hx158_1, hx158_2⟩ := at_T71 (Kd.R_reads' HO_11.out).2.2 x12_1 p158 q158
        cases e158
        replace p158 := eq_true p158
        replace q158 := eq_true q158
        go_wp2
        go_loopg [12] k1 (fun kq v12 w' => ∃ (x8_2 : List Int) (x9_2 : List Bool) (x12_2 : Int), v12 = .int .i64 x12_2 ∧ Aside0 (extent_merge.l1 kq a0 a1 x7_1 x8_2 x9_2 x10_1 t155 x12_2 ((rd_T71 t155 x12_1).f0) = some r) ∧ Aside0 (kq ≤ k1) ∧ Aside0 (Kd.R k25 25 w' w.heap.size (fun _ => True) u7 x7_1) ∧ Aside0 (Kd.R (Kd.int .i64) 3 w' w.heap.size (fun _ => True) v150 x8_2) ∧ Aside0 (Kd.R Kd.bool 4 w' w.heap.size (fun _ => True) v153 x9_2) ∧ Aside0 (Kd.R k71 71 w' w.heap.size (fun _ => True) (.slice (some ad158) t155.length co17) t155) ∧ Aside0 (Below w.heap.size w w'))
        case atStart => exact ⟨(x8_1), (x9_1), (x12_1), zS, H', ⟨Nat.le_refl _⟩, ⟨zR HO_7.out⟩, ⟨zR HO_8.out⟩, ⟨zR HO_9.out⟩, ⟨zR HO_11.out⟩, ⟨zB HB⟩⟩
        case round =>
         clear H'
         try clear c1
         try clear p1
         try clear q1
         try clear hx1
         try clear c2
         try clear p2
         try clear c4
         try clear c4b0
         try clear c4b1
         try clear c5
         try clear c5b0
         try clear c5b1
         try clear c6
         try clear c6b0
         try clear c6b1
         try clear c15
         try clear c15b0
         try clear p15
         try clear q15
         try clear hx15
         try clear c16
         try clear c16b0
         try clear hx158_0
         try clear hx158_1
         try clear hx158_2
         try clear p158
         try clear p2
         try clear q158
         obtain ⟨x8_2, x9_2, x12_2, rfl, HA, HK2, HO_7, HO_8, HO_9, HO_11, HB⟩ := hrel
         cases gk with
         | zero => exact absurd HA.out (by simp [extent_merge.l1])
         | succ k2 =>
          have H := HA.out
          clear HA
          simp only [extent_merge.l1] at H
          have HC18 := am H
          clear H
          go_upto_region 8 with (fail)
          go_cut [44] (fun v44 wc => ∃ (kq : Nat) (x44_17 : Bool), v44 = .bool x44_17 ∧ Aside0 (extent_merge.j2 kq a0 a1 x7_1 x8_2 x9_2 x10_1 t155 x12_2 ((rd_T71 t155 x12_1).f0) x44_17 = some r) ∧ Aside0 (kq ≤ k2) ∧ Aside0 (Kd.R k25 25 wc w.heap.size (fun _ => True) u7 x7_1) ∧ Aside0 (Kd.R (Kd.int .i64) 3 wc w.heap.size (fun _ => True) v150 x8_2) ∧ Aside0 (Kd.R Kd.bool 4 wc w.heap.size (fun _ => True) v153 x9_2) ∧ Aside0 (Kd.R k71 71 wc w.heap.size (fun _ => True) (.slice (some ad158) t155.length co17) t155) ∧ Aside0 (Below w.heap.size w wc))
          case first =>
           have H := HC18.out
           clear HC18
           by_cases c19 : x12_2 < (t155.length : Int)
           ·rw [if_pos c19] at H
            have c19b0 : decide (x12_2 < (t155.length : Int)) = true := decide_eq_true c19
            clear c19
            (first | rw [c19b0] | (simp only [i64_w, i32_w]; rw [c19b0]) | skip)
            by_cases c20 : 0 ≤ x12_2
            ·rw [if_pos c20] at H
             have c20b0 : decide (0 ≤ x12_2) = true := decide_eq_true c20
             clear c20
             have H' := am H
             clear H
             have p159 : 0 ≤ (x12_2 : Int) := of_decide_eq_true zA
             have q159 : x12_2 < (t155.length : Int) := of_decide_eq_true zA
             obtain ⟨ad159, e159, hx159_0, hx159_1, hx159_2⟩ := at_T71 (Kd.R_reads' HO_11.out).2.2 x12_2 p159 q159
             obtain rfl : ad158 = ad159 := (by injection e159)
             replace p159 := eq_true p159
             replace q159 := eq_true q159
             go_wp2
             go_meet
             case rel => exact ⟨_, ((((rd_T71 t155 x12_2).f0) == ((rd_T71 t155 x12_1).f0))), zS, H', ⟨by have := HK1.out; have := HK2.out; first | omega | exact Nat.le_refl _⟩, ⟨zR HO_7.out⟩, ⟨zR HO_8.out⟩, ⟨zR HO_9.out⟩, ⟨zR HO_11.out⟩, ⟨zB HB⟩⟩
            ·rw [if_neg c20] at H
             exact absurd H (by simp)
           ·rw [if_neg c19] at H
            have c19b0 : decide (x12_2 < (t155.length : Int)) = false := decide_eq_false c19
            clear c19
            (first | rw [c19b0] | (simp only [i64_w, i32_w]; rw [c19b0]) | skip)
            have H' := am H
            clear H
            go_wp2
            go_meet
            case rel => exact ⟨_, (false), zS, H', ⟨by have := HK1.out; have := HK2.out; first | omega | exact Nat.le_refl _⟩, ⟨zR HO_7.out⟩, ⟨zR HO_8.out⟩, ⟨zR HO_9.out⟩, ⟨zR HO_11.out⟩, ⟨zB HB⟩⟩
          case rest =>
           clear HC18
           try clear c1
           try clear p1
           try clear q1
           try clear hx1
           try clear c2
           try clear p2
           try clear c4
           try clear c4b0
           try clear c4b1
           try clear c5
           try clear c5b0
           try clear c5b1
           try clear c6
           try clear c6b0
           try clear c6b1
           try clear c15
           try clear c15b0
           try clear p15
           try clear q15
           try clear hx15
           try clear c16
           try clear c16b0
           try clear c19
           try clear c19b0
           try clear c20
           try clear c20b0
           try clear hx158_0
           try clear hx158_1
           try clear hx158_2
           try clear hx159_0
           try clear hx159_1
           try clear hx159_2
           try clear p1
           try clear p15
           try clear p158
           try clear p159
           try clear p2
           try clear q1
           try clear q15
           try clear q158
           try clear q159
           obtain ⟨kq, x44_17, rfl, HA, HJ17, HO_7, HO_8, HO_9, HO_11, HB⟩ := hcut
           cases kq with
           | zero => exact absurd HA.out (by simp [extent_merge.j2])
           | succ kj17 =>
            have H := HA.out
            clear HA
            simp only [extent_merge.j2] at H
            by_cases c21 : x44_17 = true
            ·subst c21
             have H1 : (if 0 ≤ x12_2 then (if x12_2 < (t155.length : Int) then (if 0 ≤ ((rd_T71 t155 x12_2).f1) then (if ((rd_T71 t155 x12_2).f1) < (x8_2.length : Int) then ((some (x8_2.set (((rd_T71 t155 x12_2).f1) : Int).toNat (wrap64 ((rd x8_2 ((rd_T71 t155 x12_2).f1)) + ((rd_T71 t155 x12_2).f2))) : List Int)).bind fun y163 => (if ((rd_T71 t155 x12_2).f1) < (x9_2.length : Int) then (extent_merge.l1 kj17 a0 a1 x7_1 y163 (x9_2.set (((rd_T71 t155 x12_2).f1) : Int).toNat (decide ((rd y163 ((rd_T71 t155 x12_2).f1)) > 0))) x10_1 t155 (wrap64 (x12_2 + 1)) ((rd_T71 t155 x12_1).f0)) else (none))) else (none)) else (none)) else (none)) else (none)) = some r := by rw [if_pos rfl] at H; exact H
             clear H
             have H := H1
             clear H1
             by_cases c22 : 0 ≤ x12_2
             ·rw [if_pos c22] at H
              have c22b0 : decide (0 ≤ x12_2) = true := decide_eq_true c22
              clear c22
              by_cases c23 : x12_2 < (t155.length : Int)
              ·rw [if_pos c23] at H
               have c23b0 : decide (x12_2 < (t155.length : Int)) = true := decide_eq_true c23
               clear c23
               by_cases c24 : 0 ≤ ((rd_T71 t155 x12_2).f1)
               ·rw [if_pos c24] at H
                have c24b0 : decide (0 ≤ ((rd_T71 t155 x12_2).f1)) = true := decide_eq_true c24
                clear c24
                by_cases c25 : ((rd_T71 t155 x12_2).f1) < (x8_2.length : Int)
                ·rw [if_pos c25] at H
                 have c25b0 : decide (((rd_T71 t155 x12_2).f1) < (x8_2.length : Int)) = true := decide_eq_true c25
                 clear c25
                 obtain ⟨y163, hy163⟩ : ∃ y_ : List Int, y_ = (x8_2.set (((rd_T71 t155 x12_2).f1) : Int).toNat (wrap64 ((rd x8_2 ((rd_T71 t155 x12_2).f1)) + ((rd_T71 t155 x12_2).f2)))) := ⟨_, rfl⟩
                 replace H : (if ((rd_T71 t155 x12_2).f1) < (x9_2.length : Int) then (extent_merge.l1 kj17 a0 a1 x7_1 y163 (x9_2.set (((rd_T71 t155 x12_2).f1) : Int).toNat (decide ((rd y163 ((rd_T71 t155 x12_2).f1)) > 0))) x10_1 t155 (wrap64 (x12_2 + 1)) ((rd_T71 t155 x12_1).f0)) else (none)) = some r := by first | (rw [hy163]; with_reducible exact H) | (have H2_ := (Option.bind_some _ _).symm.trans H; rw [hy163]; with_reducible exact H2_) | (have H2_ := (Option.bind_some _ _).symm.trans H; with_reducible exact H2_) | with_reducible exact H | (rw [hy163]; exact H) | exact H
                 have Ny163 := am hy163
                 clear hy163
                 by_cases c27 : ((rd_T71 t155 x12_2).f1) < (x9_2.length : Int)
                 ·rw [if_pos c27] at H
                  have c27b0 : decide (((rd_T71 t155 x12_2).f1) < (x9_2.length : Int)) = true := decide_eq_true c27
                  clear c27
                  obtain ⟨y167, hy167⟩ : ∃ y_ : List Bool, y_ = (x9_2.set (((rd_T71 t155 x12_2).f1) : Int).toNat (decide ((rd y163 ((rd_T71 t155 x12_2).f1)) > 0))) := ⟨_, rfl⟩
                  replace H : (extent_merge.l1 kj17 a0 a1 x7_1 y163 y167 x10_1 t155 (wrap64 (x12_2 + 1)) ((rd_T71 t155 x12_1).f0)) = some r := by first | (rw [hy167]; with_reducible exact H) | (have H2_ := (Option.bind_some _ _).symm.trans H; rw [hy167]; with_reducible exact H2_) | (have H2_ := (Option.bind_some _ _).symm.trans H; with_reducible exact H2_) | with_reducible exact H | (rw [hy167]; exact H) | exact H
                  have Ny167 := am hy167
                  clear hy167
                  have H' := am H
                  clear H
                  try go_wp2
                  have n0_ := am (Kd.R_drew HO_7.out)
                  have n1_ := am (Kd.R_drew HO_8.out)
                  have n2_ := am (Kd.R_drew HO_9.out)
                  have n3_ := am (Kd.R_drew HO_11.out)
                  have n4_ := am (below_drew1 HB.out)
                  clear HO_7
                  clear HO_8
                  clear HO_9
                  clear HO_11
                  clear HB
                  have HO_7 := n0_
                  have HO_8 := n1_
                  have HO_9 := n2_
                  have HO_11 := n3_
                  have HB := n4_
                  clear n0_ n1_ n2_ n3_ n4_
                  have p160 : 0 ≤ (x12_2 : Int) := of_decide_eq_true zA
                  have q160 : x12_2 < (t155.length : Int) := of_decide_eq_true zA
                  obtain ⟨ad160, e160, hx160_0, hx160_1, hx160_2⟩ := at_T71 (Kd.R_reads' HO_11.out).2.2 x12_2 p160 q160
                  obtain rfl : ad158 = ad160 := (by injection e160)
                  replace p160 := eq_true p160
                  replace q160 := eq_true q160
                  obtain ⟨Ao30, co30, eo30⟩ := Kd.R_slice HO_8.out
                  (first | subst eo30 | (injection eo30 with f1_ f2_ f3_; have f4_ := f1_.symm; have f5_ := f3_.symm; clear f1_ f2_ f3_; subst f4_; subst f5_))
                  have p161 : 0 ≤ (((rd_T71 t155 x12_2).f1) : Int) := of_decide_eq_true zA
                  have q161 : ((rd_T71 t155 x12_2).f1) < (x8_2.length : Int) := of_decide_eq_true zA
                  obtain ⟨ad161, e161, hx161_0⟩ := Kd.at_int (Kd.R_reads' HO_8.out).2.2 ((rd_T71 t155 x12_2).f1) p161 q161
                  cases e161
                  replace p161 := eq_true p161
                  replace q161 := eq_true q161
                  have p162 : 0 ≤ (x12_2 : Int) := of_decide_eq_true zA
                  have q162 : x12_2 < (t155.length : Int) := of_decide_eq_true zA
                  obtain ⟨ad162, e162, hx162_0, hx162_1, hx162_2⟩ := at_T71 (Kd.R_reads' HO_11.out).2.2 x12_2 p162 q162
                  obtain rfl : ad158 = ad162 := (by injection e162)
                  replace p162 := eq_true p162
                  replace q162 := eq_true q162
                  have p26 : 0 ≤ (((rd_T71 t155 x12_2).f1) : Int) := of_decide_eq_true zA
                  have q26 : (((rd_T71 t155 x12_2).f1) : Int) < ((x8_2.length : Int) : Int) := of_decide_eq_true zA
                  obtain ⟨go26, co26, eo26, gb26, gl26, cl26, HG26⟩ := Kd.R_form HO_8.out (by omega)
                  (first | cases eo26 | (injection eo26 with ea_ en_ ec_; (first | subst ea_ | (injection ea_ with ea_; subst ea_)); subst ec_; clear en_))
                  have GB26 := am gb26
                  have GG26 := am HG26
                  clear gb26 gl26 HG26
                  (first | simp only [add_plain] at hx161_0 | skip)
                  obtain ⟨hx26_0, hf26_0⟩ := Kd.R_celln 0 HO_8.out (((rd_T71 t155 x12_2).f1) : Int) p26 q26
                  replace p26 := eq_true p26
                  replace q26 := eq_true q26
                  have HP31 := Kd.R_putn HO_8.out (((rd_T71 t155 x12_2).f1) : Int) (wrap64 ((rd x8_2 ((rd_T71 t155 x12_2).f1)) + ((rd_T71 t155 x12_2).f2)))
                  rw [← Ny163.out] at HP31
                  have HQ31 := am HP31
                  clear HP31
                  refine start_ (n := 16) (S := fun w' => w'.cell? (ad158.add ((x12_2).toNat * 3)) = some (.int .i64 ((rd_T71 t155 x12_2).f0)) ∧ w'.cell? ⟨(ad158.add ((x12_2).toNat * 3)).block, (ad158.add ((x12_2).toNat * 3)).off + 1, none⟩ = some (.int .i64 ((rd_T71 t155 x12_2).f1)) ∧ w'.cell? ⟨(ad158.add ((x12_2).toNat * 3)).block, (ad158.add ((x12_2).toNat * 3)).off + 2, none⟩ = some (.int .i64 ((rd_T71 t155 x12_2).f2)) ∧ w'.cell? ⟨go26, (((rd_T71 t155 x12_2).f1)).toNat, none⟩ = some (.int .i64 (rd x8_2 ((rd_T71 t155 x12_2).f1))) ∧ w'.cell? (ad158.add ((x12_2).toNat * 3)) = some (.int .i64 ((rd_T71 t155 x12_2).f0)) ∧ w'.cell? ⟨(ad158.add ((x12_2).toNat * 3)).block, (ad158.add ((x12_2).toNat * 3)).off + 1, none⟩ = some (.int .i64 ((rd_T71 t155 x12_2).f1)) ∧ w'.cell? ⟨(ad158.add ((x12_2).toNat * 3)).block, (ad158.add ((x12_2).toNat * 3)).off + 2, none⟩ = some (.int .i64 ((rd_T71 t155 x12_2).f2))) (ds := [15]) #[F,F,F,F,F,F,F,F,F,F,F,F,F,F,F,F] (by kernel_rfl) rfl rfl ⟨hx160_0, hx160_1, hx160_2, hx161_0, hx162_0, hx162_1, hx162_2⟩ (fun hHeld => ?_); refine with_tabW extent_merge.tab10 extent_merge.bits10 (fun HT_ HW_ => ?_)
                  generalize wc.drew = w29 at HO_7 HO_8 HO_9 HO_11 HB GG26 HQ31 hf26_0 hx160_0 hx160_1 hx160_2 hx161_0 hx162_0 hx162_1 hx162_2 hx26_0 hHeld ⊢
                  refine pure_ (i := 0) (N := some 47) (v := ?_) (a' := ?_) #[T,F,F,F,F,F,F,F,F,F,F,F,F,F,F,F] rfl rfl (zO HT_) (fun _ _ _ h => h) (Or.inl ⟨by rfl, ?_⟩) ?_ ?_
                  rotate_left
                  ·intro w'
                   go_simp
                   with_reducible rfl
                  rotate_left
                  ·exact zP i64_w i32_w
                  refine pure_ (i := 1) (N := some 48) (v := ?_) (a' := ?_) #[T,T,F,F,F,F,F,F,F,F,F,F,F,F,F,F] rfl rfl (zO HT_) (fun _ _ _ h => h) (Or.inl ⟨by rfl, ?_⟩) ?_ ?_
                  rotate_left
                  ·intro w'
                   go_simp
                   with_reducible rfl
                  rotate_left
                  ·exact zP i64_w i32_w
                  refine pure_ (i := 2) (N := some 49) (v := ?_) (a' := ?_) #[T,T,T,F,F,F,F,F,F,F,F,F,F,F,F,F] rfl rfl (zO HT_) (fun _ _ _ h => h) (Or.inl ⟨by rfl, ?_⟩) ?_ ?_
                  rotate_left
                  ·intro w'
                   go_simp
                   with_reducible rfl
                  rotate_left
                  ·exact zP i64_w i32_w
                  refine pure_ (i := 3) (N := some 50) (v := ?_) (a' := ?_) #[T,T,T,T,F,F,F,F,F,F,F,F,F,F,F,F] rfl rfl (zO HT_) (fun _ _ _ h => h) (Or.inl ⟨by rfl, ?_⟩) ?_ ?_
                  rotate_left
                  ·intro w'
                   go_simp
                   with_reducible rfl
                  rotate_left
                  ·exact zP i64_w i32_w
                  refine pure_ (i := 4) (N := some 51) (v := ?_) (a' := ?_) #[T,T,T,T,T,F,F,F,F,F,F,F,F,F,F,F] rfl rfl (zO HT_) (fun _ _ _ h => h) (Or.inl ⟨by rfl, ?_⟩) ?_ ?_
                  rotate_left
                  ·intro w'
                   go_simp
                   with_reducible rfl
                  rotate_left
                  ·exact zP i64_w i32_w
                  refine pure_ (i := 8) (N := some 55) (v := ?_) (a' := ?_) #[T,T,T,T,T,F,F,F,T,F,F,F,F,F,F,F] rfl rfl (zO HT_) (fun _ _ _ h => h) (Or.inl ⟨by rfl, ?_⟩) ?_ ?_
                  rotate_left
                  ·intro w'
                   go_simp
                   with_reducible rfl
                  rotate_left
                  ·exact zP i64_w i32_w
                  refine pure_ (i := 9) (N := some 56) (v := ?_) (a' := ?_) #[T,T,T,T,T,F,F,F,T,T,F,F,F,F,F,F] rfl rfl (zO HT_) (fun _ _ _ h => h) (Or.inl ⟨by rfl, ?_⟩) ?_ ?_
                  rotate_left
                  ·intro w'
                   go_simp
                   with_reducible rfl
                  rotate_left
                  ·exact zP i64_w i32_w
                  refine pure_ (i := 10) (N := some 57) (v := ?_) (a' := ?_) #[T,T,T,T,T,F,F,F,T,T,T,F,F,F,F,F] rfl rfl (zO HT_) (fun _ _ _ h => h) (Or.inl ⟨by rfl, ?_⟩) ?_ ?_
                  rotate_left
                  ·intro w'
                   go_simp
                   with_reducible rfl
                  rotate_left
                  ·exact zP i64_w i32_w
                  refine pure_ (i := 11) (N := some 58) (v := ?_) (a' := ?_) #[T,T,T,T,T,F,F,F,T,T,T,T,F,F,F,F] rfl rfl (zO HT_) (fun _ _ _ h => h) (Or.inl ⟨by rfl, ?_⟩) ?_ ?_
                  rotate_left
                  ·intro w'
                   go_simp
                   with_reducible rfl
                  rotate_left
                  ·exact zP i64_w i32_w
                  refine take_ (i := 5) (N := some 52) (v := ?_) (a' := ?_) #[T,T,T,T,T,T,F,F,T,T,T,T,F,F,F,F] rfl rfl (take_ofW HT_.out HW_.out (by kernel_rfl)) (fun _ _ _ h => h) (Or.inl ⟨by rfl, ?_⟩) hHeld ?_ ?_
                  rotate_left
                  ·rintro w' ⟨s0, s1, s2, s3, s4, s5, s6⟩
                   go_simp
                   with_reducible rfl
                  rotate_left
                  ·exact zP i64_w i32_w
                  refine pure_ (i := 6) (N := some 53) (v := ?_) (a' := ?_) #[T,T,T,T,T,T,T,F,T,T,T,T,F,F,F,F] rfl rfl (zO HT_) (fun _ _ _ h => h) (Or.inl ⟨by rfl, ?_⟩) ?_ ?_
                  rotate_left
                  ·intro w'
                   go_simp
                   with_reducible rfl
                  rotate_left
                  ·exact zP i64_w i32_w
                  refine take_ (i := 7) (N := some 54) (v := ?_) (a' := ?_) #[T,T,T,T,T,T,T,T,T,T,T,T,F,F,F,F] rfl rfl (take_ofW HT_.out HW_.out (by kernel_rfl)) (fun _ _ _ h => h) (Or.inl ⟨by rfl, ?_⟩) hHeld ?_ ?_
                  rotate_left
                  ·rintro w' ⟨s0, s1, s2, s3, s4, s5, s6⟩
                   go_simp
                   with_reducible rfl
                  rotate_left
                  ·exact zP i64_w i32_w
                  refine take_ (i := 12) (N := some 59) (v := ?_) (a' := ?_) #[T,T,T,T,T,T,T,T,T,T,T,T,T,F,F,F] rfl rfl (take_ofW HT_.out HW_.out (by kernel_rfl)) (fun _ _ _ h => h) (Or.inl ⟨by rfl, ?_⟩) hHeld ?_ ?_
                  rotate_left
                  ·rintro w' ⟨s0, s1, s2, s3, s4, s5, s6⟩
                   go_simp
                   with_reducible rfl
                  rotate_left
                  ·exact zP i64_w i32_w
                  refine pure_ (i := 13) (N := some 60) (v := ?_) (a' := ?_) #[T,T,T,T,T,T,T,T,T,T,T,T,T,T,F,F] rfl rfl (zO HT_) (fun _ _ _ h => h) (Or.inl ⟨by rfl, ?_⟩) ?_ ?_
                  rotate_left
                  ·intro w'
                   go_simp
                   with_reducible rfl
                  rotate_left
                  ·exact zP i64_w i32_w
                  refine pure_ (i := 14) (N := some 61) (v := ?_) (a' := ?_) #[T,T,T,T,T,T,T,T,T,T,T,T,T,T,T,F] rfl rfl (zO HT_) (fun _ _ _ h => h) (Or.inl ⟨by rfl, ?_⟩) ?_ ?_
                  rotate_left
                  ·intro w'
                   go_simp
                   with_reducible rfl
                  rotate_left
                  ·exact zP i64_w i32_w
                  refine last_ (i := 15) (N := none) #[T,T,T,T,T,T,T,T,T,T,T,T,T,T,T,T] rfl rfl (one_of HT_.out (by kernel_rfl)) (by decide) (fun K hK => ?_)
                  refine skip_ (w1 := ?_) (by rfl) rfl ?_ ?_
                  rotate_left
                  ·go_simp
                   rfl
                  refine hK.out _ _ ?_
                  clear hK K
                  refine done_ (done_of HT_.out (by kernel_rfl)) ?_
                  try go_wp2
                  have n0_ : Aside0 (Kd.R k25 25 (w29.setCell ⟨go26, (((rd_T71 t155 x12_2).f1) : Int).toNat, none⟩ (.int .i64 (wrap64 ((rd x8_2 ((rd_T71 t155 x12_2).f1)) + ((rd_T71 t155 x12_2).f2))))) w.heap.size (fun _ => True) u7 x7_1) := ⟨by refine zR ?_; exact Kd.R_mono (Kd.R_far (p := ⟨go26, (((rd_T71 t155 x12_2).f1) : Int).toNat, none⟩) (Kd.R_types HO_7.out GG26.out (by decide)) (fun _ hk => hk.2) (.int .i64 (wrap64 ((rd x8_2 ((rd_T71 t155 x12_2).f1)) + ((rd_T71 t155 x12_2).f2))))) (fun _ hk => trivial)⟩
                  have n1_ : Aside0 (Kd.R (Kd.int .i64) 3 (w29.setCell ⟨go26, (((rd_T71 t155 x12_2).f1) : Int).toNat, none⟩ (.int .i64 (wrap64 ((rd x8_2 ((rd_T71 t155 x12_2).f1)) + ((rd_T71 t155 x12_2).f2))))) w.heap.size (fun _ => True) (.slice (some ⟨go26, 0, none⟩) x8_2.length co30) y163) := ⟨zR HQ31.out⟩
                  have n2_ : Aside0 (Kd.R Kd.bool 4 (w29.setCell ⟨go26, (((rd_T71 t155 x12_2).f1) : Int).toNat, none⟩ (.int .i64 (wrap64 ((rd x8_2 ((rd_T71 t155 x12_2).f1)) + ((rd_T71 t155 x12_2).f2))))) w.heap.size (fun _ => True) v153 x9_2) := ⟨by refine zR ?_; exact Kd.R_mono (Kd.R_far (p := ⟨go26, (((rd_T71 t155 x12_2).f1) : Int).toNat, none⟩) (Kd.R_types HO_9.out GG26.out (by decide)) (fun _ hk => hk.2) (.int .i64 (wrap64 ((rd x8_2 ((rd_T71 t155 x12_2).f1)) + ((rd_T71 t155 x12_2).f2))))) (fun _ hk => trivial)⟩
                  have n3_ : Aside0 (Kd.R k71 71 (w29.setCell ⟨go26, (((rd_T71 t155 x12_2).f1) : Int).toNat, none⟩ (.int .i64 (wrap64 ((rd x8_2 ((rd_T71 t155 x12_2).f1)) + ((rd_T71 t155 x12_2).f2))))) w.heap.size (fun _ => True) (.slice (some ad158) t155.length co17) t155) := ⟨by refine zR ?_; exact Kd.R_mono (Kd.R_far (p := ⟨go26, (((rd_T71 t155 x12_2).f1) : Int).toNat, none⟩) (Kd.R_types HO_11.out GG26.out (by decide)) (fun _ hk => hk.2) (.int .i64 (wrap64 ((rd x8_2 ((rd_T71 t155 x12_2).f1)) + ((rd_T71 t155 x12_2).f2))))) (fun _ hk => trivial)⟩
                  have n4_ : Aside0 (Below w.heap.size w (w29.setCell ⟨go26, (((rd_T71 t155 x12_2).f1) : Int).toNat, none⟩ (.int .i64 (wrap64 ((rd x8_2 ((rd_T71 t155 x12_2).f1)) + ((rd_T71 t155 x12_2).f2)))))) := ⟨by repeat (first | (with_reducible first | exact HB.out | apply below_alloc | apply pw_below_drewN | apply below_drew1 | refine below_set ?_ GB26.out) | exact HB.out)⟩
                  (try clear HO_7)
                  (try clear HO_8)
                  (try clear HO_9)
                  (try clear HO_11)
                  (try clear HB)
                  generalize (w29.setCell ⟨go26, (((rd_T71 t155 x12_2).f1) : Int).toNat, none⟩ (.int .i64 (wrap64 ((rd x8_2 ((rd_T71 t155 x12_2).f1)) + ((rd_T71 t155 x12_2).f2))))) = w32 at n0_ n1_ n2_ n3_ n4_ ⊢
                  have HO_7 := n0_
                  have HO_8 := n1_
                  have HO_9 := n2_
                  have HO_11 := n3_
                  have HB := n4_
                  clear n0_ n1_ n2_ n3_ n4_
                  have n0_ := am (Kd.R_drew HO_7.out)
                  have n1_ := am (Kd.R_drew HO_8.out)
                  have n2_ := am (Kd.R_drew HO_9.out)
                  have n3_ := am (Kd.R_drew HO_11.out)
                  have n4_ := am (below_drew1 HB.out)
                  clear HO_7
                  clear HO_8
                  clear HO_9
                  clear HO_11
                  clear HB
                  have HO_7 := n0_
                  have HO_8 := n1_
                  have HO_9 := n2_
                  have HO_11 := n3_
                  have HB := n4_
                  clear n0_ n1_ n2_ n3_ n4_
                  have p164 : 0 ≤ (x12_2 : Int) := of_decide_eq_true zA
                  have q164 : x12_2 < (t155.length : Int) := of_decide_eq_true zA
                  obtain ⟨ad164, e164, hx164_0, hx164_1, hx164_2⟩ := at_T71 (Kd.R_reads' HO_11.out).2.2 x12_2 p164 q164
                  obtain rfl : ad158 = ad164 := (by injection e164)
                  replace p164 := eq_true p164
                  replace q164 := eq_true q164
                  have p165 : 0 ≤ (x12_2 : Int) := of_decide_eq_true zA
                  have q165 : x12_2 < (t155.length : Int) := of_decide_eq_true zA
                  obtain ⟨ad165, e165, hx165_0, hx165_1, hx165_2⟩ := at_T71 (Kd.R_reads' HO_11.out).2.2 x12_2 p165 q165
                  obtain rfl : ad158 = ad165 := (by injection e165)
                  replace p165 := eq_true p165
                  replace q165 := eq_true q165
                  have p166 : 0 ≤ (((rd_T71 t155 x12_2).f1) : Int) := of_decide_eq_true zA
                  have q166 : ((rd_T71 t155 x12_2).f1) < (y163.length : Int) := (by have h_ : (((rd_T71 t155 x12_2).f1) : Int) < ((x8_2.length : Int) : Int) := of_decide_eq_true zA; first | (have e_ := (Kd.R_reads' HO_8.out).1; omega) | simpa only [Ny163.out, List.length_set] using h_)
                  have ql166 : ((((rd_T71 t155 x12_2).f1) : Int) < ((x8_2.length : Int) : Int)) = True := eq_true (of_decide_eq_true zA)
                  obtain ⟨ad166, e166, hx166_0⟩ := Kd.at_int (Kd.R_reads' HO_8.out).2.2 ((rd_T71 t155 x12_2).f1) p166 q166
                  obtain rfl : (⟨go26, 0, none⟩ : Addr) = ad166 := (by injection e166)
                  (first | simp only [add_plain] at hx166_0 | simp only [add_at] at hx166_0 | simp only [Addr.add, Nat.zero_add] at hx166_0 | skip)
                  replace p166 := eq_true p166
                  replace q166 := eq_true q166
                  have p28 : 0 ≤ (((rd_T71 t155 x12_2).f1) : Int) := of_decide_eq_true zA
                  have q28 : (((rd_T71 t155 x12_2).f1) : Int) < ((x9_2.length : Int) : Int) := of_decide_eq_true zA
                  obtain ⟨go28, co28, eo28, gb28, gl28, cl28, HG28⟩ := Kd.R_form HO_9.out (by omega)
                  (first | cases eo28 | (injection eo28 with ea_ en_ ec_; (first | subst ea_ | (injection ea_ with ea_; subst ea_)); subst ec_; clear en_))
                  have GB28 := am gb28
                  have GG28 := am HG28
                  clear gb28 gl28 HG28
                  obtain ⟨hx28_0, hf28_0⟩ := Kd.R_celln false HO_9.out (((rd_T71 t155 x12_2).f1) : Int) p28 q28
                  replace p28 := eq_true p28
                  replace q28 := eq_true q28
                  have HP34 := Kd.R_putn HO_9.out (((rd_T71 t155 x12_2).f1) : Int) (decide ((rd y163 ((rd_T71 t155 x12_2).f1)) > 0))
                  rw [← Ny167.out] at HP34
                  have HQ34 := am HP34
                  clear HP34
                  refine start_ (n := 17) (S := fun w' => w'.cell? (ad158.add ((x12_2).toNat * 3)) = some (.int .i64 ((rd_T71 t155 x12_2).f0)) ∧ w'.cell? ⟨(ad158.add ((x12_2).toNat * 3)).block, (ad158.add ((x12_2).toNat * 3)).off + 1, none⟩ = some (.int .i64 ((rd_T71 t155 x12_2).f1)) ∧ w'.cell? ⟨(ad158.add ((x12_2).toNat * 3)).block, (ad158.add ((x12_2).toNat * 3)).off + 2, none⟩ = some (.int .i64 ((rd_T71 t155 x12_2).f2)) ∧ w'.cell? (ad158.add ((x12_2).toNat * 3)) = some (.int .i64 ((rd_T71 t155 x12_2).f0)) ∧ w'.cell? ⟨(ad158.add ((x12_2).toNat * 3)).block, (ad158.add ((x12_2).toNat * 3)).off + 1, none⟩ = some (.int .i64 ((rd_T71 t155 x12_2).f1)) ∧ w'.cell? ⟨(ad158.add ((x12_2).toNat * 3)).block, (ad158.add ((x12_2).toNat * 3)).off + 2, none⟩ = some (.int .i64 ((rd_T71 t155 x12_2).f2)) ∧ w'.cell? ⟨go26, (((rd_T71 t155 x12_2).f1)).toNat, none⟩ = some (.int .i64 (rd y163 ((rd_T71 t155 x12_2).f1)))) (ds := [16]) #[F,F,F,F,F,F,F,F,F,F,F,F,F,F,F,F,F] (by kernel_rfl) rfl rfl ⟨hx164_0, hx164_1, hx164_2, hx165_0, hx165_1, hx165_2, hx166_0⟩ (fun hHeld => ?_); refine with_tabW extent_merge.tab11 extent_merge.bits11 (fun HT_ HW_ => ?_)
                  generalize w32.drew = w33 at HO_7 HO_8 HO_9 HO_11 HB GG28 HQ31 HQ34 hf28_0 hx164_0 hx164_1 hx164_2 hx165_0 hx165_1 hx165_2 hx166_0 hx28_0 hHeld ⊢
                  refine pure_ (i := 0) (N := some 62) (v := ?_) (a' := ?_) #[T,F,F,F,F,F,F,F,F,F,F,F,F,F,F,F,F] rfl rfl (zO HT_) (fun _ _ _ h => h) (Or.inl ⟨by rfl, ?_⟩) ?_ ?_
                  rotate_left
                  ·intro w'
                   go_simp
                   with_reducible rfl
                  rotate_left
                  ·exact zP i64_w i32_w
                  refine pure_ (i := 1) (N := some 63) (v := ?_) (a' := ?_) #[T,T,F,F,F,F,F,F,F,F,F,F,F,F,F,F,F] rfl rfl (zO HT_) (fun _ _ _ h => h) (Or.inl ⟨by rfl, ?_⟩) ?_ ?_
                  rotate_left
                  ·intro w'
                   go_simp
                   with_reducible rfl
                  rotate_left
                  ·exact zP i64_w i32_w
                  refine pure_ (i := 2) (N := some 64) (v := ?_) (a' := ?_) #[T,T,T,F,F,F,F,F,F,F,F,F,F,F,F,F,F] rfl rfl (zO HT_) (fun _ _ _ h => h) (Or.inl ⟨by rfl, ?_⟩) ?_ ?_
                  rotate_left
                  ·intro w'
                   go_simp
                   with_reducible rfl
                  rotate_left
                  ·exact zP i64_w i32_w
                  refine pure_ (i := 3) (N := some 65) (v := ?_) (a' := ?_) #[T,T,T,T,F,F,F,F,F,F,F,F,F,F,F,F,F] rfl rfl (zO HT_) (fun _ _ _ h => h) (Or.inl ⟨by rfl, ?_⟩) ?_ ?_
                  rotate_left
                  ·intro w'
                   go_simp
                   with_reducible rfl
                  rotate_left
                  ·exact zP i64_w i32_w
                  refine pure_ (i := 4) (N := some 66) (v := ?_) (a' := ?_) #[T,T,T,T,T,F,F,F,F,F,F,F,F,F,F,F,F] rfl rfl (zO HT_) (fun _ _ _ h => h) (Or.inl ⟨by rfl, ?_⟩) ?_ ?_
                  rotate_left
                  ·intro w'
                   go_simp
                   with_reducible rfl
                  rotate_left
                  ·exact zP i64_w i32_w
                  refine pure_ (i := 6) (N := some 68) (v := ?_) (a' := ?_) #[T,T,T,T,T,F,T,F,F,F,F,F,F,F,F,F,F] rfl rfl (zO HT_) (fun _ _ _ h => h) (Or.inl ⟨by rfl, ?_⟩) ?_ ?_
                  rotate_left
                  ·intro w'
                   go_simp
                   with_reducible rfl
                  rotate_left
                  ·exact zP i64_w i32_w
                  refine pure_ (i := 7) (N := some 69) (v := ?_) (a' := ?_) #[T,T,T,T,T,F,T,T,F,F,F,F,F,F,F,F,F] rfl rfl (zO HT_) (fun _ _ _ h => h) (Or.inl ⟨by rfl, ?_⟩) ?_ ?_
                  rotate_left
                  ·intro w'
                   go_simp
                   with_reducible rfl
                  rotate_left
                  ·exact zP i64_w i32_w
                  refine pure_ (i := 8) (N := some 70) (v := ?_) (a' := ?_) #[T,T,T,T,T,F,T,T,T,F,F,F,F,F,F,F,F] rfl rfl (zO HT_) (fun _ _ _ h => h) (Or.inl ⟨by rfl, ?_⟩) ?_ ?_
                  rotate_left
                  ·intro w'
                   go_simp
                   with_reducible rfl
                  rotate_left
                  ·exact zP i64_w i32_w
                  refine pure_ (i := 9) (N := some 71) (v := ?_) (a' := ?_) #[T,T,T,T,T,F,T,T,T,T,F,F,F,F,F,F,F] rfl rfl (zO HT_) (fun _ _ _ h => h) (Or.inl ⟨by rfl, ?_⟩) ?_ ?_
                  rotate_left
                  ·intro w'
                   go_simp
                   with_reducible rfl
                  rotate_left
                  ·exact zP i64_w i32_w
                  refine pure_ (i := 10) (N := some 72) (v := ?_) (a' := ?_) #[T,T,T,T,T,F,T,T,T,T,T,F,F,F,F,F,F] rfl rfl (zO HT_) (fun _ _ _ h => h) (Or.inl ⟨by rfl, ?_⟩) ?_ ?_
                  rotate_left
                  ·intro w'
                   go_simp
                   with_reducible rfl
                  rotate_left
                  ·exact zP i64_w i32_w
                  refine take_ (i := 5) (N := some 67) (v := ?_) (a' := ?_) #[T,T,T,T,T,T,T,T,T,T,T,F,F,F,F,F,F] rfl rfl (take_ofW HT_.out HW_.out (by kernel_rfl)) (fun _ _ _ h => h) (Or.inl ⟨by rfl, ?_⟩) hHeld ?_ ?_
                  rotate_left
                  ·rintro w' ⟨s0, s1, s2, s3, s4, s5, s6⟩
                   go_simp
                   with_reducible rfl
                  rotate_left
                  ·exact zP i64_w i32_w
                  refine take_ (i := 11) (N := some 73) (v := ?_) (a' := ?_) #[T,T,T,T,T,T,T,T,T,T,T,T,F,F,F,F,F] rfl rfl (take_ofW HT_.out HW_.out (by kernel_rfl)) (fun _ _ _ h => h) (Or.inl ⟨by rfl, ?_⟩) hHeld ?_ ?_
                  rotate_left
                  ·rintro w' ⟨s0, s1, s2, s3, s4, s5, s6⟩
                   go_simp
                   with_reducible rfl
                  rotate_left
                  ·exact zP i64_w i32_w
                  refine pure_ (i := 12) (N := some 74) (v := ?_) (a' := ?_) #[T,T,T,T,T,T,T,T,T,T,T,T,T,F,F,F,F] rfl rfl (zO HT_) (fun _ _ _ h => h) (Or.inl ⟨by rfl, ?_⟩) ?_ ?_
                  rotate_left
                  ·intro w'
                   go_simp
                   with_reducible rfl
                  rotate_left
                  ·exact zP i64_w i32_w
                  refine take_ (i := 13) (N := some 75) (v := ?_) (a' := ?_) #[T,T,T,T,T,T,T,T,T,T,T,T,T,T,F,F,F] rfl rfl (take_ofW HT_.out HW_.out (by kernel_rfl)) (fun _ _ _ h => h) (Or.inl ⟨by rfl, ?_⟩) hHeld ?_ ?_
                  rotate_left
                  ·rintro w' ⟨s0, s1, s2, s3, s4, s5, s6⟩
                   go_simp
                   with_reducible rfl
                  rotate_left
                  ·exact zP i64_w i32_w
                  refine pure_ (i := 14) (N := some 76) (v := ?_) (a' := ?_) #[T,T,T,T,T,T,T,T,T,T,T,T,T,T,T,F,F] rfl rfl (zO HT_) (fun _ _ _ h => h) (Or.inl ⟨by rfl, ?_⟩) ?_ ?_
                  rotate_left
                  ·intro w'
                   go_simp
                   with_reducible rfl
                  rotate_left
                  ·exact zP i64_w i32_w
                  refine pure_ (i := 15) (N := some 77) (v := ?_) (a' := ?_) #[T,T,T,T,T,T,T,T,T,T,T,T,T,T,T,T,F] rfl rfl (zO HT_) (fun _ _ _ h => h) (Or.inl ⟨by rfl, ?_⟩) ?_ ?_
                  rotate_left
                  ·intro w'
                   go_simp
                   with_reducible rfl
                  rotate_left
                  ·exact zP i64_w i32_w
                  refine last_ (i := 16) (N := none) #[T,T,T,T,T,T,T,T,T,T,T,T,T,T,T,T,T] rfl rfl (one_of HT_.out (by kernel_rfl)) (by decide) (fun K hK => ?_)
                  refine skip_ (w1 := ?_) (by rfl) rfl ?_ ?_
                  rotate_left
                  ·go_simp
                   rfl
                  refine hK.out _ _ ?_
                  clear hK K
                  refine done_ (done_of HT_.out (by kernel_rfl)) ?_
                  try go_wp2
                  go_roundg kj17
                  case measure => have := HK1.out; have := HK2.out; have := HJ17.out; omega
                  case rel => exact ⟨(y163), (y167), (wrap64 (x12_2 + 1)), zS, H', ⟨by have := HK1.out; have := HK2.out; have := HJ17.out; omega⟩, ⟨by refine zR ?_; exact Kd.R_mono (Kd.R_far (p := ⟨go28, (((rd_T71 t155 x12_2).f1) : Int).toNat, none⟩) (Kd.R_types HO_7.out GG28.out (by decide)) (fun _ hk => hk.2) (.bool (decide ((rd y163 ((rd_T71 t155 x12_2).f1)) > 0)))) (fun _ hk => trivial)⟩, ⟨by refine zR ?_; exact Kd.R_mono (Kd.R_far (p := ⟨go28, (((rd_T71 t155 x12_2).f1) : Int).toNat, none⟩) (Kd.R_types HO_8.out GG28.out (by decide)) (fun _ hk => hk.2) (.bool (decide ((rd y163 ((rd_T71 t155 x12_2).f1)) > 0)))) (fun _ hk => trivial)⟩, ⟨zR HQ34.out⟩, ⟨by refine zR ?_; exact Kd.R_mono (Kd.R_far (p := ⟨go28, (((rd_T71 t155 x12_2).f1) : Int).toNat, none⟩) (Kd.R_types HO_11.out GG28.out (by decide)) (fun _ hk => hk.2) (.bool (decide ((rd y163 ((rd_T71 t155 x12_2).f1)) > 0)))) (fun _ hk => trivial)⟩, ⟨by repeat (first | (with_reducible first | exact HB.out | apply below_alloc | apply pw_below_drewN | apply below_drew1 | refine below_set ?_ GB28.out) | exact HB.out)⟩⟩
                 ·rw [if_neg c27] at H
                  exact absurd H (by simp)
                ·rw [if_neg c25] at H
                 exact absurd H (by simp)
               ·rw [if_neg c24] at H
                exact absurd H (by simp)
              ·rw [if_neg c23] at H
               exact absurd H (by simp)
             ·rw [if_neg c22] at H
              exact absurd H (by simp)
            ·replace c21 := Bool.eq_false_iff.mpr c21
             subst c21
             have H1 : ((a0 x9_2).bind fun t168 => (if t168 = true then (extent_merge.j3 kj17 a0 a1 x7_1 x8_2 x9_2 x10_1 t155 x12_2 ((rd_T71 t155 x12_1).f0) t168 (decide (x10_1 < 0))) else (extent_merge.j3 kj17 a0 a1 x7_1 x8_2 x9_2 x10_1 t155 x12_2 ((rd_T71 t155 x12_1).f0) t168 false))) = some r := by rw [if_neg (show ¬ (false = true) by decide)] at H; exact H
             clear H
             have H := H1
             clear H1
             replace H := Option.bind_eq_some_iff.mp H
             obtain ⟨t168, A350, H⟩ := H
             replace H : (if t168 = true then (extent_merge.j3 kj17 a0 a1 x7_1 x8_2 x9_2 x10_1 t155 x12_2 ((rd_T71 t155 x12_1).f0) t168 (decide (x10_1 < 0))) else (extent_merge.j3 kj17 a0 a1 x7_1 x8_2 x9_2 x10_1 t155 x12_2 ((rd_T71 t155 x12_1).f0) t168 false)) = some r := H
             have A35 := am A350
             clear A350
             have HC36 := am H
             clear H
             obtain ⟨Ao37, co37, eo37⟩ := Kd.R_slice HO_9.out
             subst eo37
             go_upto_region 13 with (first | (go_at_fn g0; (with_reducible refine (HF0.out _ _ x9_2 t168 _ ?side3 ?side1 ?side2 A35.out).mono ?_); (case side1 => exact zC (Kd.R_reads' HO_9.out).2.2); (case side2 => exact (Kd.R_reads' HO_9.out).2.1); (case side3 => exact zB HB); rintro e w38 ⟨rfl, hb⟩; have n0_ := am (Kd.R_below (zR HO_7.out) hb); have n1_ := am (Kd.R_below (zR HO_8.out) hb); have n2_ := am (Kd.R_below (zR HO_9.out) hb); have n3_ := am (Kd.R_below (zR HO_11.out) hb); have n4_ := am (below_step (zB HB) hb); clear HO_7; clear HO_8; clear HO_9; clear HO_11; clear HB; have HO_7 := n0_; have HO_8 := n1_; have HO_9 := n2_; have HO_11 := n3_; have HB := n4_; clear n0_ n1_ n2_ n3_ n4_; (try clear hb); (try clear hb2); (try clear hk); (try clear hi)))
             (try simp only [Act.put, List.setIfInBounds_toArray, List.set_cons_zero, List.set_cons_succ])
             go_cut [85] (fun v85 wc => ∃ (kq : Nat) (x85_35 : Bool), v85 = .bool x85_35 ∧ Aside0 (extent_merge.j3 kq a0 a1 x7_1 x8_2 x9_2 x10_1 t155 x12_2 ((rd_T71 t155 x12_1).f0) t168 x85_35 = some r) ∧ Aside0 (kq ≤ kj17) ∧ Aside0 (Kd.R k25 25 wc w.heap.size (fun _ => True) u7 x7_1) ∧ Aside0 (Kd.R (Kd.int .i64) 3 wc w.heap.size (fun _ => True) v150 x8_2) ∧ Aside0 (Kd.R Kd.bool 4 wc w.heap.size (fun _ => True) (.slice Ao37 x9_2.length co37) x9_2) ∧ Aside0 (Kd.R k71 71 wc w.heap.size (fun _ => True) (.slice (some ad158) t155.length co17) t155) ∧ Aside0 (Below w.heap.size w wc))
             case first =>
              have H := HC36.out
              clear HC36
              by_cases c39 : t168 = true
              ·subst c39
               have H1 : (extent_merge.j3 kj17 a0 a1 x7_1 x8_2 x9_2 x10_1 t155 x12_2 ((rd_T71 t155 x12_1).f0) true (decide (x10_1 < 0))) = some r := by rw [if_pos rfl] at H; exact H
               clear H
               have H := H1
               clear H1
               have H' := am H
               clear H
               go_wp2
               go_meet
               case rel => exact ⟨_, (decide (x10_1 < 0)), zS, H', ⟨by have := HK1.out; have := HK2.out; have := HJ17.out; first | omega | exact Nat.le_refl _⟩, ⟨zR HO_7.out⟩, ⟨zR HO_8.out⟩, ⟨zR HO_9.out⟩, ⟨zR HO_11.out⟩, ⟨zB HB⟩⟩
              ·replace c39 := Bool.eq_false_iff.mpr c39
               subst c39
               have H1 : (extent_merge.j3 kj17 a0 a1 x7_1 x8_2 x9_2 x10_1 t155 x12_2 ((rd_T71 t155 x12_1).f0) false false) = some r := by rw [if_neg (show ¬ (false = true) by decide)] at H; exact H
               clear H
               have H := H1
               clear H1
               have H' := am H
               clear H
               go_wp2
               go_meet
               case rel => exact ⟨_, (false), zS, H', ⟨by have := HK1.out; have := HK2.out; have := HJ17.out; first | omega | exact Nat.le_refl _⟩, ⟨zR HO_7.out⟩, ⟨zR HO_8.out⟩, ⟨zR HO_9.out⟩, ⟨zR HO_11.out⟩, ⟨zB HB⟩⟩
             case rest =>
              clear HC36
              try clear c1
              try clear p1
              try clear q1
              try clear hx1
              try clear c2
              try clear p2
              try clear q2
              try clear hx2
              try clear c3
              try clear c4
              try clear c4b0
              try clear c4b1
              try clear c5
              try clear c5b0
              try clear c5b1
              try clear c6
              try clear c6b0
              try clear c6b1
              try clear p6
              try clear c15
              try clear c15b0
              try clear p15
              try clear q15
              try clear hx15
              try clear c16
              try clear c16b0
              try clear p16
              try clear q16
              try clear hx16
              try clear c19
              try clear c19b0
              try clear c20
              try clear c20b0
              try clear c21
              try clear c22
              try clear c22b0
              try clear c23
              try clear c23b0
              try clear c24
              try clear c24b0
              try clear c25
              try clear c25b0
              try clear p26
              try clear q26
              try clear hx26
              try clear hf26
              try clear c27
              try clear c27b0
              try clear p28
              try clear q28
              try clear hx28
              try clear hf28
              try clear c39
              try clear hx158_0
              try clear hx158_1
              try clear hx158_2
              try clear hx159_0
              try clear hx159_1
              try clear hx159_2
              try clear hx160_0
              try clear hx160_1
              try clear hx160_2
              try clear hx161_0
              try clear hx162_0
              try clear hx162_1
              try clear hx162_2
              try clear hx164_0
              try clear hx164_1
              try clear hx164_2
              try clear hx165_0
              try clear hx165_1
              try clear hx165_2
              try clear hx166_0
              try clear hx26_0
              try clear hx28_0
              try clear p1
              try clear p15
              try clear p158
              try clear p159
              try clear p160
              try clear p161
              try clear p162
              try clear p164
              try clear p165
              try clear p166
              try clear p2
              try clear p26
              try clear p28
              try clear q1
              try clear q15
              try clear q158
              try clear q159
              try clear q160
              try clear q161
              try clear q162
              try clear q164
              try clear q165
              try clear q166
              try clear q26
              try clear q28
              obtain ⟨kq, x85_35, rfl, HA, HJ35, HO_7, HO_8, HO_9, HO_11, HB⟩ := hcut
              cases kq with
              | zero => exact absurd HA.out (by simp [extent_merge.j3])
              | succ kj35 =>
               have H := HA.out
               clear HA
               simp only [extent_merge.j3] at H
               have HC40 := am H
               clear H
               go_upto_if 85 with (fail)
               go_cut [10] (fun v10 wc => ∃ (kq : Nat) (x10_39 : Int), v10 = .int .i64 x10_39 ∧ Aside0 (extent_merge.j4 kq a0 a1 x7_1 x8_2 x9_2 x10_39 t155 x12_2 ((rd_T71 t155 x12_1).f0) t168 = some r) ∧ Aside0 (kq ≤ kj35) ∧ Aside0 (Kd.R k25 25 wc w.heap.size (fun _ => True) u7 x7_1) ∧ Aside0 (Kd.R (Kd.int .i64) 3 wc w.heap.size (fun _ => True) v150 x8_2) ∧ Aside0 (Kd.R Kd.bool 4 wc w.heap.size (fun _ => True) (.slice Ao37 x9_2.length co37) x9_2) ∧ Aside0 (Kd.R k71 71 wc w.heap.size (fun _ => True) (.slice (some ad158) t155.length co17) t155) ∧ Aside0 (Below w.heap.size w wc))
               case first =>
                have H := HC40.out
                clear HC40
                by_cases c41 : x85_35 = true
                ·subst c41
                 have H1 : (extent_merge.j4 kj35 a0 a1 x7_1 x8_2 x9_2 ((rd_T71 t155 x12_1).f0) t155 x12_2 ((rd_T71 t155 x12_1).f0) t168) = some r := by rw [if_pos rfl] at H; exact H
                 clear H
                 have H := H1
                 clear H1
                 have H' := am H
                 clear H
                 go_wp2
                 go_meet
                 case rel => exact ⟨_, (((rd_T71 t155 x12_1).f0)), zS, H', ⟨by have := HK1.out; have := HK2.out; have := HJ17.out; have := HJ35.out; first | omega | exact Nat.le_refl _⟩, ⟨zR HO_7.out⟩, ⟨zR HO_8.out⟩, ⟨zR HO_9.out⟩, ⟨zR HO_11.out⟩, ⟨zB HB⟩⟩
                ·replace c41 := Bool.eq_false_iff.mpr c41
                 subst c41
                 have H1 : (extent_merge.j4 kj35 a0 a1 x7_1 x8_2 x9_2 x10_1 t155 x12_2 ((rd_T71 t155 x12_1).f0) t168) = some r := by rw [if_neg (show ¬ (false = true) by decide)] at H; exact H
                 clear H
                 have H := H1
                 clear H1
                 have H' := am H
                 clear H
                 go_wp2
                 go_meet
                 case rel => exact ⟨_, (x10_1), zS, H', ⟨by have := HK1.out; have := HK2.out; have := HJ17.out; have := HJ35.out; first | omega | exact Nat.le_refl _⟩, ⟨zR HO_7.out⟩, ⟨zR HO_8.out⟩, ⟨zR HO_9.out⟩, ⟨zR HO_11.out⟩, ⟨zB HB⟩⟩
               case rest =>
                clear HC40
                try clear c1
                try clear p1
                try clear q1
                try clear hx1
                try clear c2
                try clear p2
                try clear q2
                try clear hx2
                try clear c3
                try clear c4
                try clear c4b0
                try clear c4b1
                try clear c5
                try clear c5b0
                try clear c5b1
                try clear c6
                try clear c6b0
                try clear c6b1
                try clear p6
                try clear c15
                try clear c15b0
                try clear p15
                try clear q15
                try clear hx15
                try clear c16
                try clear c16b0
                try clear p16
                try clear q16
                try clear hx16
                try clear c19
                try clear c19b0
                try clear c20
                try clear c20b0
                try clear c21
                try clear c22
                try clear c22b0
                try clear c23
                try clear c23b0
                try clear c24
                try clear c24b0
                try clear c25
                try clear c25b0
                try clear p26
                try clear q26
                try clear hx26
                try clear hf26
                try clear c27
                try clear c27b0
                try clear p28
                try clear q28
                try clear hx28
                try clear hf28
                try clear c39
                try clear c41
                try clear hx158_0
                try clear hx158_1
                try clear hx158_2
                try clear hx159_0
                try clear hx159_1
                try clear hx159_2
                try clear hx160_0
                try clear hx160_1
                try clear hx160_2
                try clear hx161_0
                try clear hx162_0
                try clear hx162_1
                try clear hx162_2
                try clear hx164_0
                try clear hx164_1
                try clear hx164_2
                try clear hx165_0
                try clear hx165_1
                try clear hx165_2
                try clear hx166_0
                try clear hx26_0
                try clear hx28_0
                try clear p1
                try clear p15
                try clear p158
                try clear p159
                try clear p16
                try clear p160
                try clear p161
                try clear p162
                try clear p164
                try clear p165
                try clear p166
                try clear p2
                try clear p26
                try clear p28
                try clear p6
                try clear q1
                try clear q15
                try clear q158
                try clear q159
                try clear q16
                try clear q160
                try clear q161
                try clear q162
                try clear q164
                try clear q165
                try clear q166
                try clear q2
                try clear q26
                try clear q28
                obtain ⟨kq, x10_39, rfl, HA, HJ39, HO_7, HO_8, HO_9, HO_11, HB⟩ := hcut
                cases kq with
                | zero => exact absurd HA.out (by simp [extent_merge.j4])
                | succ kj39 =>
                 have H := HA.out
                 clear HA
                 simp only [extent_merge.j4] at H
                 have HC42 := am H
                 clear H
                 go_upto_region 15 with (fail)
                 go_cut [92] (fun v92 wc => ∃ (kq : Nat) (x92_41 : Bool), v92 = .bool x92_41 ∧ Aside0 (extent_merge.j5 kq a0 a1 x7_1 x8_2 x9_2 x10_39 t155 x12_2 ((rd_T71 t155 x12_1).f0) x92_41 = some r) ∧ Aside0 (kq ≤ kj39) ∧ Aside0 (Kd.R k25 25 wc w.heap.size (fun _ => True) u7 x7_1) ∧ Aside0 (Kd.R (Kd.int .i64) 3 wc w.heap.size (fun _ => True) v150 x8_2) ∧ Aside0 (Kd.R Kd.bool 4 wc w.heap.size (fun _ => True) (.slice Ao37 x9_2.length co37) x9_2) ∧ Aside0 (Kd.R k71 71 wc w.heap.size (fun _ => True) (.slice (some ad158) t155.length co17) t155) ∧ Aside0 (Below w.heap.size w wc))
                 case first =>
                  have H := HC42.out
                  clear HC42
                  by_cases c43 : t168 = true
                  ·subst c43
                   have H1 : (extent_merge.j5 kj39 a0 a1 x7_1 x8_2 x9_2 x10_39 t155 x12_2 ((rd_T71 t155 x12_1).f0) false) = some r := by rw [if_pos rfl] at H; exact H
                   clear H
                   have H := H1
                   clear H1
                   have H' := am H
                   clear H
                   go_wp2
                   go_meet
                   case rel => exact ⟨_, (false), zS, H', ⟨by have := HK1.out; have := HK2.out; have := HJ17.out; have := HJ35.out; have := HJ39.out; first | omega | exact Nat.le_refl _⟩, ⟨zR HO_7.out⟩, ⟨zR HO_8.out⟩, ⟨zR HO_9.out⟩, ⟨zR HO_11.out⟩, ⟨zB HB⟩⟩
                  ·replace c43 := Bool.eq_false_iff.mpr c43
                   subst c43
                   have H1 : (extent_merge.j5 kj39 a0 a1 x7_1 x8_2 x9_2 x10_39 t155 x12_2 ((rd_T71 t155 x12_1).f0) (decide (x10_39 ≥ 0))) = some r := by rw [if_neg (show ¬ (false = true) by decide)] at H; exact H
                   clear H
                   have H := H1
                   clear H1
                   have H' := am H
                   clear H
                   go_wp2
                   go_meet
                   case rel => exact ⟨_, (decide (x10_39 ≥ 0)), zS, H', ⟨by have := HK1.out; have := HK2.out; have := HJ17.out; have := HJ35.out; have := HJ39.out; first | omega | exact Nat.le_refl _⟩, ⟨zR HO_7.out⟩, ⟨zR HO_8.out⟩, ⟨zR HO_9.out⟩, ⟨zR HO_11.out⟩, ⟨zB HB⟩⟩
                 case rest =>
                  clear HC42
                  try clear c1
                  try clear p1
                  try clear q1
                  try clear hx1
                  try clear c2
                  try clear p2
                  try clear q2
                  try clear hx2
                  try clear c3
                  try clear c4
                  try clear c4b0
                  try clear c4b1
                  try clear c5
                  try clear c5b0
                  try clear c5b1
                  try clear c6
                  try clear c6b0
                  try clear c6b1
                  try clear p6
                  try clear c15
                  try clear c15b0
                  try clear p15
                  try clear q15
                  try clear hx15
                  try clear c16
                  try clear c16b0
                  try clear p16
                  try clear q16
                  try clear hx16
                  try clear c19
                  try clear c19b0
                  try clear c20
                  try clear c20b0
                  try clear c21
                  try clear c22
                  try clear c22b0
                  try clear c23
                  try clear c23b0
                  try clear c24
                  try clear c24b0
                  try clear c25
                  try clear c25b0
                  try clear p26
                  try clear q26
                  try clear hx26
                  try clear hf26
                  try clear c27
                  try clear c27b0
                  try clear p28
                  try clear q28
                  try clear hx28
                  try clear hf28
                  try clear c39
                  try clear c41
                  try clear c43
                  try clear hx158_0
                  try clear hx158_1
                  try clear hx158_2
                  try clear hx159_0
                  try clear hx159_1
                  try clear hx159_2
                  try clear hx160_0
                  try clear hx160_1
                  try clear hx160_2
                  try clear hx161_0
                  try clear hx162_0
                  try clear hx162_1
                  try clear hx162_2
                  try clear hx164_0
                  try clear hx164_1
                  try clear hx164_2
                  try clear hx165_0
                  try clear hx165_1
                  try clear hx165_2
                  try clear hx166_0
                  try clear hx26_0
                  try clear hx28_0
                  try clear p1
                  try clear p15
                  try clear p158
                  try clear p159
                  try clear p16
                  try clear p160
                  try clear p161
                  try clear p162
                  try clear p164
                  try clear p165
                  try clear p166
                  try clear p2
                  try clear p26
                  try clear p28
                  try clear p6
                  try clear q1
                  try clear q15
                  try clear q158
                  try clear q159
                  try clear q16
                  try clear q160
                  try clear q161
                  try clear q162
                  try clear q164
                  try clear q165
                  try clear q166
                  try clear q2
                  try clear q26
                  try clear q28
                  obtain ⟨kq, x92_41, rfl, HA, HJ41, HO_7, HO_8, HO_9, HO_11, HB⟩ := hcut
                  cases kq with
                  | zero => exact absurd HA.out (by simp [extent_merge.j5])
                  | succ kj41 =>
                   have H := HA.out
                   clear HA
                   simp only [extent_merge.j5] at H
                   by_cases c44 : x92_41 = true
                   ·subst c44
                    have H1 : ((a1 x10_39 (wrap64 (((rd_T71 t155 x12_1).f0) - x10_39))).bind fun bt169 => (if x7_1.length < 8796093022208 then (extent_merge.l0 kj41 a0 a1 (x7_1 ++ [(⟨bt169.1, bt169.2⟩ : S25)]) x8_2 x9_2 (-1) t155 x12_2) else (none))) = some r := by rw [if_pos rfl] at H; exact H
                    clear H
                    have H := H1
                    clear H1
                    replace H := Option.bind_eq_some_iff.mp H
                    obtain ⟨⟨t169, t170⟩, A450, H⟩ := H
                    replace H : (if x7_1.length < 8796093022208 then (extent_merge.l0 kj41 a0 a1 (x7_1 ++ [(⟨t169, t170⟩ : S25)]) x8_2 x9_2 (-1) t155 x12_2) else (none)) = some r := H
                    have A45 := am A450
                    clear A450
                    by_cases c46 : x7_1.length < 8796093022208
                    ·rw [if_pos c46] at H
                     have LMc46 := am c46
                     clear c46
                     obtain ⟨y171, hy171⟩ : ∃ y_ : List (S25), y_ = (x7_1 ++ [(⟨t169, t170⟩ : S25)]) := ⟨_, rfl⟩
                     replace H : (extent_merge.l0 kj41 a0 a1 y171 x8_2 x9_2 (-1) t155 x12_2) = some r := by first | (rw [hy171]; with_reducible exact H) | (have H2_ := (Option.bind_some _ _).symm.trans H; rw [hy171]; with_reducible exact H2_) | (have H2_ := (Option.bind_some _ _).symm.trans H; with_reducible exact H2_) | with_reducible exact H | (rw [hy171]; exact H) | exact H
                     have Ny171 := am hy171
                     clear hy171
                     have H' := am H
                     clear H
                     go_wp2_with (first | (go_at_fn g1; (with_reducible refine (HF1.out x10_39 (wrap64 (((rd_T71 t155 x12_1).f0) - x10_39)) t169 t170 _ ?side1 A45.out).mono ?_); (case side1 => exact zB HB); rintro e w47 ⟨rfl, hb⟩; have n0_ := am (Kd.R_below (zR HO_7.out) hb); have n1_ := am (Kd.R_below (zR HO_8.out) hb); have n2_ := am (Kd.R_below (zR HO_9.out) hb); have n3_ := am (Kd.R_below (zR HO_11.out) hb); have n4_ := am (below_step (zB HB) hb); clear HO_7; clear HO_8; clear HO_9; clear HO_11; clear HB; have HO_7 := n0_; have HO_8 := n1_; have HO_9 := n2_; have HO_11 := n3_; have HB := n4_; clear n0_ n1_ n2_ n3_ n4_; (try clear hb); (try clear hb2); (try clear hk); (try clear hi)) | ((with_reducible refine gate_builtin (b := .append) (xs := #[.tmp 93, .tmp 101]) rfl ?_); at_builtin; refine Kd.R_append k25 (w0 := w) w.heap.size rfl (.tmp 93) (.tmp 101) 38 25 (.agg #[(.int .i64 0), (.int .i64 0)]) 16 rfl Try.underlying38 info25 rfl (by decide) (by omega) u7 x7_1 (⟨t169, t170⟩ : S25) [.int .i64 t169, .int .i64 t170] (fun _ => True) (fun _ => False) rfl rfl ?aP (fun _ hk => hk.elim) ?aF ?aO ?aB ?aS ?aL ?_; (case aP => exact k25_mkM _ _ _ (⟨t169, t170⟩ : S25)); (case aB => exact (zB HB)); (case aF => exact (fun _ _ => trivial)); (case aO => exact (zR HO_7.out)); (case aS => exact (below_size (zB HB))); (case aL => have := LMc46.out; omega); intro v172 w48 ho hb hg hat; rw [← Ny171.out] at ho; have n0_ := am (Kd.R_over' (zR HO_8.out) (Kd.R_typed (zR HO_7.out)) (by decide) hg); have n1_ := am (Kd.R_over' (zR HO_9.out) (Kd.R_typed (zR HO_7.out)) (by decide) hg); have n2_ := am (Kd.R_over' (zR HO_11.out) (Kd.R_typed (zR HO_7.out)) (by decide) hg); have n3_ := am (hb); have n4_ := am (ho); clear HO_8; clear HO_9; clear HO_11; clear HB; clear HO_7; have HO_8 := n0_; have HO_9 := n1_; have HO_11 := n2_; have HB := n3_; have HO173 := n4_; clear n0_ n1_ n2_ n3_ n4_; clear ho hb hg hat))
                     go_roundg kj41
                     case measure => have := HK1.out; have := HK2.out; have := HJ17.out; have := HJ35.out; have := HJ39.out; have := HJ41.out; omega
                     case rel => exact ⟨(y171), (x8_2), (x9_2), ((-1)), (x12_2), zS, zS, H', ⟨by have := HK1.out; have := HK2.out; have := HJ17.out; have := HJ35.out; have := HJ39.out; have := HJ41.out; omega⟩, ⟨zR HO173.out⟩, ⟨zR HO_8.out⟩, ⟨zR HO_9.out⟩, ⟨zR HO_11.out⟩, ⟨zB HB⟩⟩
                    ·rw [if_neg c46] at H
                     exact absurd H (by simp)
                   ·replace c44 := Bool.eq_false_iff.mpr c44
                    subst c44
                    have H1 : (extent_merge.l0 kj41 a0 a1 x7_1 x8_2 x9_2 x10_39 t155 x12_2) = some r := by rw [if_neg (show ¬ (false = true) by decide)] at H; exact H
                    clear H
                    have H := H1
                    clear H1
                    have H' := am H
                    clear H
                    go_wp2
                    go_roundg kj41
                    case measure => have := HK1.out; have := HK2.out; have := HJ17.out; have := HJ35.out; have := HJ39.out; have := HJ41.out; omega
                    case rel => exact ⟨(x7_1), (x8_2), (x9_2), (x10_39), (x12_2), zS, zS, H', ⟨by have := HK1.out; have := HK2.out; have := HJ17.out; have := HJ35.out; have := HJ39.out; have := HJ41.out; omega⟩, ⟨zR HO_7.out⟩, ⟨zR HO_8.out⟩, ⟨zR HO_9.out⟩, ⟨zR HO_11.out⟩, ⟨zB HB⟩⟩
       ·rw [if_neg c16] at H
        exact absurd H (by simp)
      ·rw [if_neg c15] at H
       have c15b0 : decide (x12_1 < (t155.length : Int)) = false := decide_eq_false c15
       clear c15
       obtain rfl := Option.some.inj H
       obtain ⟨Ao49, co49, eo49⟩ := Kd.R_slice HO_11.out
       subst eo49
       go_wp2
       go_ret
       exact ⟨_, by first | rfl | (simp [errW_none, errW_some] <;> rfl) | (simp [*, errW_none, errW_some] <;> rfl), by refine zR ?_; exact HO_7.out, by repeat (first | (with_reducible first | exact HB.out | apply below_alloc | apply pw_below_drewN | apply below_drew1) | exact HB.out)⟩
   ·rw [if_neg c6] at H
    exact absurd H (by simp)
  ·rw [if_neg c5] at H
   exact absurd H (by simp)
 ·rw [if_neg c4] at H
  exact absurd H (by simp)

end
end Go.Proofs.Ytapbmkcncjkanaa.P
