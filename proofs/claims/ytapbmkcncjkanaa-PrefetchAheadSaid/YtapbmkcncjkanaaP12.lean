-- Written by this session's wip/tools/px.py out of the translation. Lean checks it.
import Derived.Test.YtapbmkcncjkanaaP0
import Derived.Test.YtapbmkcncjkanaaP3
import Derived.Test.YtapbmkcncjkanaaAwake
namespace Go.Proofs.Ytapbmkcncjkanaa.P
noncomputable section
open Go.RowKit Go.Proofs.YtapbmkcncjkanaaW.PrintWords Go.Proofs.YtapbmkcncjkanaaW.PrintLast Go.Proofs.YtapbmkcncjkanaaW.PrintMore
attribute [local go_sem] max2_int min2_int max_two min_two max_three min_three max_four min_four   -- for this text's walks alone
set_option linter.unusedVariables false
set_option linter.unusedSimpArgs false

/-! ### tapearchivelaw36_PrefetchAhead: function 4 -/
mutual
def tapearchivelaw36_PrefetchAhead.j0 : Nat → List Int → Int → Int → Bool → Option (Bool)
 | 0, _, _, _, _ => none
 | k + 1, x0, x1, x2, x32 => if x32 = true then ((tapearchivelaw36_awake_s.f).bind fun t310 => (some t310)) else (tapearchivelaw36_PrefetchAhead.l0 k x0 x1 x2 0 0 0 0 0 0 0 0)
def tapearchivelaw36_PrefetchAhead.l0 : Nat → List Int → Int → Int → Int → Int → Int → Int → Int → Int → Int → Int → Option (Bool)
 | 0, _, _, _, _, _, _, _, _, _, _, _ => none
 | k + 1, x0, x1, x2, x8, x9, x10, x11, x312000, x312001, x312002, x312003 => if x11 < (x0.length : Int) then (if 0 ≤ x11 then (if (rd x0 x11) < 0 then (tapearchivelaw36_PrefetchAhead.j2 k x0 x1 x2 x8 x9 x10 x11 true x312000 x312001 x312002 x312003) else (tapearchivelaw36_PrefetchAhead.j2 k x0 x1 x2 x8 x9 x10 x11 (decide ((rd x0 x11) > (wrap64 (x1 - x8)))) x312000 x312001 x312002 x312003)) else (none)) else ((tapearchivelaw36_awake_s.f).bind fun t312 => (some t312))
def tapearchivelaw36_PrefetchAhead.j2 : Nat → List Int → Int → Int → Int → Int → Int → Int → Bool → Int → Int → Int → Int → Option (Bool)
 | 0, _, _, _, _, _, _, _, _, _, _, _, _ => none
 | k + 1, x0, x1, x2, x8, x9, x10, x11, x54, x312000, x312001, x312002, x312003 => if x54 = true then ((tapearchivelaw36_awake_s.f).bind fun t315 => (some t315)) else (if 0 ≤ x11 then (if x11 < (x0.length : Int) then ((prefetch_Read.f k x312000 x312001 x312002 x312003 x8 (rd x0 x11) x1 x2).bind fun bt317 => (if bt317.1 = (wrap64 (x8 + (rd x0 x11))) then (if bt317.2.1 = (mn x2 (mx 1 (wrap64 (2 * x10)))) then (tapearchivelaw36_PrefetchAhead.j3 k x0 x1 x2 (wrap64 (x8 + (rd x0 x11))) x9 (mn x2 (mx 1 (wrap64 (2 * x10)))) x11 (bt317.2.2.2.1 != (wrap64 (x11 + 1))) bt317.1 bt317.2.1 bt317.2.2.1 bt317.2.2.2.1 bt317.2.2.2.2.1 bt317.2.2.2.2.2) else (tapearchivelaw36_PrefetchAhead.j3 k x0 x1 x2 (wrap64 (x8 + (rd x0 x11))) x9 (mn x2 (mx 1 (wrap64 (2 * x10)))) x11 true bt317.1 bt317.2.1 bt317.2.2.1 bt317.2.2.2.1 bt317.2.2.2.2.1 bt317.2.2.2.2.2)) else (tapearchivelaw36_PrefetchAhead.j3 k x0 x1 x2 (wrap64 (x8 + (rd x0 x11))) x9 (mn x2 (mx 1 (wrap64 (2 * x10)))) x11 true bt317.1 bt317.2.1 bt317.2.2.1 bt317.2.2.2.1 bt317.2.2.2.2.1 bt317.2.2.2.2.2))) else (none)) else (none))
def tapearchivelaw36_PrefetchAhead.j3 : Nat → List Int → Int → Int → Int → Int → Int → Int → Bool → Int → Int → Int → Int → Int → Int → Option (Bool)
 | 0, _, _, _, _, _, _, _, _, _, _, _, _, _, _ => none
 | k + 1, x0, x1, x2, x8, x9, x10, x11, x96, x324000, x324001, x324002, x324003, x325000, x325001 => if x96 = true then (some false) else (if x325001 > 0 then (if x325000 < x8 then (tapearchivelaw36_PrefetchAhead.j4 k x0 x1 x2 x8 x9 x10 x11 true x324000 x324001 x324002 x324003 x325000 x325001) else (if x325000 < x9 then (tapearchivelaw36_PrefetchAhead.j4 k x0 x1 x2 x8 x9 x10 x11 true x324000 x324001 x324002 x324003 x325000 x325001) else (if x325001 > (wrap64 (x1 - x325000)) then (tapearchivelaw36_PrefetchAhead.j4 k x0 x1 x2 x8 x9 x10 x11 true x324000 x324001 x324002 x324003 x325000 x325001) else (tapearchivelaw36_PrefetchAhead.j4 k x0 x1 x2 x8 x9 x10 x11 (decide (x325001 > (wrap64 (64 * x10)))) x324000 x324001 x324002 x324003 x325000 x325001)))) else (tapearchivelaw36_PrefetchAhead.j4 k x0 x1 x2 x8 x9 x10 x11 false x324000 x324001 x324002 x324003 x325000 x325001))
def tapearchivelaw36_PrefetchAhead.j4 : Nat → List Int → Int → Int → Int → Int → Int → Int → Bool → Int → Int → Int → Int → Int → Int → Option (Bool)
 | 0, _, _, _, _, _, _, _, _, _, _, _, _, _, _ => none
 | k + 1, x0, x1, x2, x8, x9, x10, x11, x127, x324000, x324001, x324002, x324003, x325000, x325001 => if x127 = true then (some false) else (if x325001 > 0 then (tapearchivelaw36_PrefetchAhead.j5 k x0 x1 x2 x8 (wrap64 (x325000 + x325001)) x10 x11 x324000 x324001 x324002 x324003 x325000 x325001) else (tapearchivelaw36_PrefetchAhead.j5 k x0 x1 x2 x8 x9 x10 x11 x324000 x324001 x324002 x324003 x325000 x325001))
def tapearchivelaw36_PrefetchAhead.j5 : Nat → List Int → Int → Int → Int → Int → Int → Int → Int → Int → Int → Int → Int → Int → Option (Bool)
 | 0, _, _, _, _, _, _, _, _, _, _, _, _, _ => none
 | k + 1, x0, x1, x2, x8, x9, x10, x11, x324000, x324001, x324002, x324003, x325000, x325001 => if x325001 < 0 then (tapearchivelaw36_PrefetchAhead.j6 k x0 x1 x2 x8 x10 x11 true x324000 x324001 x324002 x324003) else (if x325001 = 0 then (if x325000 = 0 then (tapearchivelaw36_PrefetchAhead.j6 k x0 x1 x2 x8 x10 x11 (x324002 != (mx x9 x8)) x324000 x324001 x324002 x324003) else (tapearchivelaw36_PrefetchAhead.j6 k x0 x1 x2 x8 x10 x11 true x324000 x324001 x324002 x324003)) else (tapearchivelaw36_PrefetchAhead.j6 k x0 x1 x2 x8 x10 x11 (x324002 != (mx x9 x8)) x324000 x324001 x324002 x324003))
def tapearchivelaw36_PrefetchAhead.j6 : Nat → List Int → Int → Int → Int → Int → Int → Bool → Int → Int → Int → Int → Option (Bool)
 | 0, _, _, _, _, _, _, _, _, _, _, _ => none
 | k + 1, x0, x1, x2, x8, x10, x11, x156, x324000, x324001, x324002, x324003 => if x156 = true then (some false) else (tapearchivelaw36_PrefetchAhead.l0 k x0 x1 x2 x8 x324002 x10 (wrap64 (x11 + 1)) x324000 x324001 x324002 x324003)
end
def tapearchivelaw36_PrefetchAhead.f (k : Nat) (l0 : List Int) (a1 : Int) (a2 : Int) : Option (Bool) := if (l0.length : Int) > 60 then (tapearchivelaw36_PrefetchAhead.j0 k l0 a1 a2 true) else (if a1 < 0 then (tapearchivelaw36_PrefetchAhead.j0 k l0 a1 a2 true) else (if a1 > 4096 then (tapearchivelaw36_PrefetchAhead.j0 k l0 a1 a2 true) else (if a2 < 0 then (tapearchivelaw36_PrefetchAhead.j0 k l0 a1 a2 true) else (tapearchivelaw36_PrefetchAhead.j0 k l0 a1 a2 (decide (a2 > 64))))))
theorem tapearchivelaw36_PrefetchAhead.mono_l : ∀ k, (∀ y0 y1 y2 y3, LeO (tapearchivelaw36_PrefetchAhead.j0 k y0 y1 y2 y3) (tapearchivelaw36_PrefetchAhead.j0 (k + 1) y0 y1 y2 y3)) ∧ (∀ y0 y1 y2 y3 y4 y5 y6 y7 y8 y9 y10, LeO (tapearchivelaw36_PrefetchAhead.l0 k y0 y1 y2 y3 y4 y5 y6 y7 y8 y9 y10) (tapearchivelaw36_PrefetchAhead.l0 (k + 1) y0 y1 y2 y3 y4 y5 y6 y7 y8 y9 y10)) ∧ (∀ y0 y1 y2 y3 y4 y5 y6 y7 y8 y9 y10 y11, LeO (tapearchivelaw36_PrefetchAhead.j2 k y0 y1 y2 y3 y4 y5 y6 y7 y8 y9 y10 y11) (tapearchivelaw36_PrefetchAhead.j2 (k + 1) y0 y1 y2 y3 y4 y5 y6 y7 y8 y9 y10 y11)) ∧ (∀ y0 y1 y2 y3 y4 y5 y6 y7 y8 y9 y10 y11 y12 y13, LeO (tapearchivelaw36_PrefetchAhead.j3 k y0 y1 y2 y3 y4 y5 y6 y7 y8 y9 y10 y11 y12 y13) (tapearchivelaw36_PrefetchAhead.j3 (k + 1) y0 y1 y2 y3 y4 y5 y6 y7 y8 y9 y10 y11 y12 y13)) ∧ (∀ y0 y1 y2 y3 y4 y5 y6 y7 y8 y9 y10 y11 y12 y13, LeO (tapearchivelaw36_PrefetchAhead.j4 k y0 y1 y2 y3 y4 y5 y6 y7 y8 y9 y10 y11 y12 y13) (tapearchivelaw36_PrefetchAhead.j4 (k + 1) y0 y1 y2 y3 y4 y5 y6 y7 y8 y9 y10 y11 y12 y13)) ∧ (∀ y0 y1 y2 y3 y4 y5 y6 y7 y8 y9 y10 y11 y12, LeO (tapearchivelaw36_PrefetchAhead.j5 k y0 y1 y2 y3 y4 y5 y6 y7 y8 y9 y10 y11 y12) (tapearchivelaw36_PrefetchAhead.j5 (k + 1) y0 y1 y2 y3 y4 y5 y6 y7 y8 y9 y10 y11 y12)) ∧ (∀ y0 y1 y2 y3 y4 y5 y6 y7 y8 y9 y10, LeO (tapearchivelaw36_PrefetchAhead.j6 k y0 y1 y2 y3 y4 y5 y6 y7 y8 y9 y10) (tapearchivelaw36_PrefetchAhead.j6 (k + 1) y0 y1 y2 y3 y4 y5 y6 y7 y8 y9 y10))
 | 0 => ⟨fun _ _ _ _ r h => by simp [tapearchivelaw36_PrefetchAhead.j0] at h, fun _ _ _ _ _ _ _ _ _ _ _ r h => by simp [tapearchivelaw36_PrefetchAhead.l0] at h, fun _ _ _ _ _ _ _ _ _ _ _ _ r h => by simp [tapearchivelaw36_PrefetchAhead.j2] at h, fun _ _ _ _ _ _ _ _ _ _ _ _ _ _ r h => by simp [tapearchivelaw36_PrefetchAhead.j3] at h, fun _ _ _ _ _ _ _ _ _ _ _ _ _ _ r h => by simp [tapearchivelaw36_PrefetchAhead.j4] at h, fun _ _ _ _ _ _ _ _ _ _ _ _ _ r h => by simp [tapearchivelaw36_PrefetchAhead.j5] at h, fun _ _ _ _ _ _ _ _ _ _ _ r h => by simp [tapearchivelaw36_PrefetchAhead.j6] at h⟩
 | k + 1 => by
  obtain ⟨ih0, ih1, ih2, ih3, ih4, ih5, ih6⟩ := tapearchivelaw36_PrefetchAhead.mono_l k
  refine ⟨?_, ?_, ?_, ?_, ?_, ?_, ?_⟩
  ·intro y0 y1 y2 y3
   unfold tapearchivelaw36_PrefetchAhead.j0
   repeat' first
   | (with_reducible exact ih0 _ _ _ _)
   | (with_reducible exact ih1 _ _ _ _ _ _ _ _ _ _ _)
   | (with_reducible exact ih2 _ _ _ _ _ _ _ _ _ _ _ _)
   | (with_reducible exact ih3 _ _ _ _ _ _ _ _ _ _ _ _ _ _)
   | (with_reducible exact ih4 _ _ _ _ _ _ _ _ _ _ _ _ _ _)
   | (with_reducible exact ih5 _ _ _ _ _ _ _ _ _ _ _ _ _)
   | (with_reducible exact ih6 _ _ _ _ _ _ _ _ _ _ _)
   | (with_reducible exact prefetch_Read.mono _ _ _ _ _ _ _ _ _)
   | (with_reducible exact LeO.refl _)
   | (with_reducible exact LeO.none _)
   | (with_reducible refine LeO.ite ?_ ?_)
   | (with_reducible refine LeO.bind ?_ (fun _ => ?_))
   | exact ih0 _ _ _ _
   | exact ih1 _ _ _ _ _ _ _ _ _ _ _
   | exact ih2 _ _ _ _ _ _ _ _ _ _ _ _
   | exact ih3 _ _ _ _ _ _ _ _ _ _ _ _ _ _
   | exact ih4 _ _ _ _ _ _ _ _ _ _ _ _ _ _
   | exact ih5 _ _ _ _ _ _ _ _ _ _ _ _ _
   | exact ih6 _ _ _ _ _ _ _ _ _ _ _
   | exact prefetch_Read.mono _ _ _ _ _ _ _ _ _
   | exact LeO.none _
   | refine LeO.ite ?_ ?_
   | refine LeO.bind ?_ (fun _ => ?_)
  ·intro y0 y1 y2 y3 y4 y5 y6 y7 y8 y9 y10
   unfold tapearchivelaw36_PrefetchAhead.l0
   repeat' first
   | (with_reducible exact ih0 _ _ _ _)
   | (with_reducible exact ih1 _ _ _ _ _ _ _ _ _ _ _)
   | (with_reducible exact ih2 _ _ _ _ _ _ _ _ _ _ _ _)
   | (with_reducible exact ih3 _ _ _ _ _ _ _ _ _ _ _ _ _ _)
   | (with_reducible exact ih4 _ _ _ _ _ _ _ _ _ _ _ _ _ _)
   | (with_reducible exact ih5 _ _ _ _ _ _ _ _ _ _ _ _ _)
   | (with_reducible exact ih6 _ _ _ _ _ _ _ _ _ _ _)
   | (with_reducible exact prefetch_Read.mono _ _ _ _ _ _ _ _ _)
   | (with_reducible exact LeO.refl _)
   | (with_reducible exact LeO.none _)
   | (with_reducible refine LeO.ite ?_ ?_)
   | (with_reducible refine LeO.bind ?_ (fun _ => ?_))
   | exact ih0 _ _ _ _
   | exact ih1 _ _ _ _ _ _ _ _ _ _ _
   | exact ih2 _ _ _ _ _ _ _ _ _ _ _ _
   | exact ih3 _ _ _ _ _ _ _ _ _ _ _ _ _ _
   | exact ih4 _ _ _ _ _ _ _ _ _ _ _ _ _ _
   | exact ih5 _ _ _ _ _ _ _ _ _ _ _ _ _
   | exact ih6 _ _ _ _ _ _ _ _ _ _ _
   | exact prefetch_Read.mono _ _ _ _ _ _ _ _ _
   | exact LeO.none _
   | refine LeO.ite ?_ ?_
   | refine LeO.bind ?_ (fun _ => ?_)
  ·intro y0 y1 y2 y3 y4 y5 y6 y7 y8 y9 y10 y11
   unfold tapearchivelaw36_PrefetchAhead.j2
   repeat' first
   | (with_reducible exact ih0 _ _ _ _)
   | (with_reducible exact ih1 _ _ _ _ _ _ _ _ _ _ _)
   | (with_reducible exact ih2 _ _ _ _ _ _ _ _ _ _ _ _)
   | (with_reducible exact ih3 _ _ _ _ _ _ _ _ _ _ _ _ _ _)
   | (with_reducible exact ih4 _ _ _ _ _ _ _ _ _ _ _ _ _ _)
   | (with_reducible exact ih5 _ _ _ _ _ _ _ _ _ _ _ _ _)
   | (with_reducible exact ih6 _ _ _ _ _ _ _ _ _ _ _)
   | (with_reducible exact prefetch_Read.mono _ _ _ _ _ _ _ _ _)
   | (with_reducible exact LeO.refl _)
   | (with_reducible exact LeO.none _)
   | (with_reducible refine LeO.ite ?_ ?_)
   | (with_reducible refine LeO.bind ?_ (fun _ => ?_))
   | exact ih0 _ _ _ _
   | exact ih1 _ _ _ _ _ _ _ _ _ _ _
   | exact ih2 _ _ _ _ _ _ _ _ _ _ _ _
   | exact ih3 _ _ _ _ _ _ _ _ _ _ _ _ _ _
   | exact ih4 _ _ _ _ _ _ _ _ _ _ _ _ _ _
   | exact ih5 _ _ _ _ _ _ _ _ _ _ _ _ _
   | exact ih6 _ _ _ _ _ _ _ _ _ _ _
   | exact prefetch_Read.mono _ _ _ _ _ _ _ _ _
   | exact LeO.none _
   | refine LeO.ite ?_ ?_
   | refine LeO.bind ?_ (fun _ => ?_)
  ·intro y0 y1 y2 y3 y4 y5 y6 y7 y8 y9 y10 y11 y12 y13
   unfold tapearchivelaw36_PrefetchAhead.j3
   repeat' first
   | (with_reducible exact ih0 _ _ _ _)
   | (with_reducible exact ih1 _ _ _ _ _ _ _ _ _ _ _)
   | (with_reducible exact ih2 _ _ _ _ _ _ _ _ _ _ _ _)
   | (with_reducible exact ih3 _ _ _ _ _ _ _ _ _ _ _ _ _ _)
   | (with_reducible exact ih4 _ _ _ _ _ _ _ _ _ _ _ _ _ _)
   | (with_reducible exact ih5 _ _ _ _ _ _ _ _ _ _ _ _ _)
   | (with_reducible exact ih6 _ _ _ _ _ _ _ _ _ _ _)
   | (with_reducible exact prefetch_Read.mono _ _ _ _ _ _ _ _ _)
   | (with_reducible exact LeO.refl _)
   | (with_reducible exact LeO.none _)
   | (with_reducible refine LeO.ite ?_ ?_)
   | (with_reducible refine LeO.bind ?_ (fun _ => ?_))
   | exact ih0 _ _ _ _
   | exact ih1 _ _ _ _ _ _ _ _ _ _ _
   | exact ih2 _ _ _ _ _ _ _ _ _ _ _ _
   | exact ih3 _ _ _ _ _ _ _ _ _ _ _ _ _ _
   | exact ih4 _ _ _ _ _ _ _ _ _ _ _ _ _ _
   | exact ih5 _ _ _ _ _ _ _ _ _ _ _ _ _
   | exact ih6 _ _ _ _ _ _ _ _ _ _ _
   | exact prefetch_Read.mono _ _ _ _ _ _ _ _ _
   | exact LeO.none _
   | refine LeO.ite ?_ ?_
   | refine LeO.bind ?_ (fun _ => ?_)
  ·intro y0 y1 y2 y3 y4 y5 y6 y7 y8 y9 y10 y11 y12 y13
   unfold tapearchivelaw36_PrefetchAhead.j4
   repeat' first
   | (with_reducible exact ih0 _ _ _ _)
   | (with_reducible exact ih1 _ _ _ _ _ _ _ _ _ _ _)
   | (with_reducible exact ih2 _ _ _ _ _ _ _ _ _ _ _ _)
   | (with_reducible exact ih3 _ _ _ _ _ _ _ _ _ _ _ _ _ _)
   | (with_reducible exact ih4 _ _ _ _ _ _ _ _ _ _ _ _ _ _)
   | (with_reducible exact ih5 _ _ _ _ _ _ _ _ _ _ _ _ _)
   | (with_reducible exact ih6 _ _ _ _ _ _ _ _ _ _ _)
   | (with_reducible exact prefetch_Read.mono _ _ _ _ _ _ _ _ _)
   | (with_reducible exact LeO.refl _)
   | (with_reducible exact LeO.none _)
   | (with_reducible refine LeO.ite ?_ ?_)
   | (with_reducible refine LeO.bind ?_ (fun _ => ?_))
   | exact ih0 _ _ _ _
   | exact ih1 _ _ _ _ _ _ _ _ _ _ _
   | exact ih2 _ _ _ _ _ _ _ _ _ _ _ _
   | exact ih3 _ _ _ _ _ _ _ _ _ _ _ _ _ _
   | exact ih4 _ _ _ _ _ _ _ _ _ _ _ _ _ _
   | exact ih5 _ _ _ _ _ _ _ _ _ _ _ _ _
   | exact ih6 _ _ _ _ _ _ _ _ _ _ _
   | exact prefetch_Read.mono _ _ _ _ _ _ _ _ _
   | exact LeO.none _
   | refine LeO.ite ?_ ?_
   | refine LeO.bind ?_ (fun _ => ?_)
  ·intro y0 y1 y2 y3 y4 y5 y6 y7 y8 y9 y10 y11 y12
   unfold tapearchivelaw36_PrefetchAhead.j5
   repeat' first
   | (with_reducible exact ih0 _ _ _ _)
   | (with_reducible exact ih1 _ _ _ _ _ _ _ _ _ _ _)
   | (with_reducible exact ih2 _ _ _ _ _ _ _ _ _ _ _ _)
   | (with_reducible exact ih3 _ _ _ _ _ _ _ _ _ _ _ _ _ _)
   | (with_reducible exact ih4 _ _ _ _ _ _ _ _ _ _ _ _ _ _)
   | (with_reducible exact ih5 _ _ _ _ _ _ _ _ _ _ _ _ _)
   | (with_reducible exact ih6 _ _ _ _ _ _ _ _ _ _ _)
   | (with_reducible exact prefetch_Read.mono _ _ _ _ _ _ _ _ _)
   | (with_reducible exact LeO.refl _)
   | (with_reducible exact LeO.none _)
   | (with_reducible refine LeO.ite ?_ ?_)
   | (with_reducible refine LeO.bind ?_ (fun _ => ?_))
   | exact ih0 _ _ _ _
   | exact ih1 _ _ _ _ _ _ _ _ _ _ _
   | exact ih2 _ _ _ _ _ _ _ _ _ _ _ _
   | exact ih3 _ _ _ _ _ _ _ _ _ _ _ _ _ _
   | exact ih4 _ _ _ _ _ _ _ _ _ _ _ _ _ _
   | exact ih5 _ _ _ _ _ _ _ _ _ _ _ _ _
   | exact ih6 _ _ _ _ _ _ _ _ _ _ _
   | exact prefetch_Read.mono _ _ _ _ _ _ _ _ _
   | exact LeO.none _
   | refine LeO.ite ?_ ?_
   | refine LeO.bind ?_ (fun _ => ?_)
  ·intro y0 y1 y2 y3 y4 y5 y6 y7 y8 y9 y10
   unfold tapearchivelaw36_PrefetchAhead.j6
   repeat' first
   | (with_reducible exact ih0 _ _ _ _)
   | (with_reducible exact ih1 _ _ _ _ _ _ _ _ _ _ _)
   | (with_reducible exact ih2 _ _ _ _ _ _ _ _ _ _ _ _)
   | (with_reducible exact ih3 _ _ _ _ _ _ _ _ _ _ _ _ _ _)
   | (with_reducible exact ih4 _ _ _ _ _ _ _ _ _ _ _ _ _ _)
   | (with_reducible exact ih5 _ _ _ _ _ _ _ _ _ _ _ _ _)
   | (with_reducible exact ih6 _ _ _ _ _ _ _ _ _ _ _)
   | (with_reducible exact prefetch_Read.mono _ _ _ _ _ _ _ _ _)
   | (with_reducible exact LeO.refl _)
   | (with_reducible exact LeO.none _)
   | (with_reducible refine LeO.ite ?_ ?_)
   | (with_reducible refine LeO.bind ?_ (fun _ => ?_))
   | exact ih0 _ _ _ _
   | exact ih1 _ _ _ _ _ _ _ _ _ _ _
   | exact ih2 _ _ _ _ _ _ _ _ _ _ _ _
   | exact ih3 _ _ _ _ _ _ _ _ _ _ _ _ _ _
   | exact ih4 _ _ _ _ _ _ _ _ _ _ _ _ _ _
   | exact ih5 _ _ _ _ _ _ _ _ _ _ _ _ _
   | exact ih6 _ _ _ _ _ _ _ _ _ _ _
   | exact prefetch_Read.mono _ _ _ _ _ _ _ _ _
   | exact LeO.none _
   | refine LeO.ite ?_ ?_
   | refine LeO.bind ?_ (fun _ => ?_)
theorem tapearchivelaw36_PrefetchAhead.mono : ∀ a0 a1 a2 k, LeO (tapearchivelaw36_PrefetchAhead.f k a0 a1 a2) (tapearchivelaw36_PrefetchAhead.f (k + 1) a0 a1 a2) := by
 intro a0 a1 a2 k
 obtain ⟨ih0, ih1, ih2, ih3, ih4, ih5, ih6⟩ := tapearchivelaw36_PrefetchAhead.mono_l k
 unfold tapearchivelaw36_PrefetchAhead.f
 repeat' first
   | (with_reducible exact ih0 _ _ _ _)
   | (with_reducible exact ih1 _ _ _ _ _ _ _ _ _ _ _)
   | (with_reducible exact ih2 _ _ _ _ _ _ _ _ _ _ _ _)
   | (with_reducible exact ih3 _ _ _ _ _ _ _ _ _ _ _ _ _ _)
   | (with_reducible exact ih4 _ _ _ _ _ _ _ _ _ _ _ _ _ _)
   | (with_reducible exact ih5 _ _ _ _ _ _ _ _ _ _ _ _ _)
   | (with_reducible exact ih6 _ _ _ _ _ _ _ _ _ _ _)
   | (with_reducible exact prefetch_Read.mono _ _ _ _ _ _ _ _ _)
   | (with_reducible exact LeO.refl _)
   | (with_reducible exact LeO.none _)
   | (with_reducible refine LeO.ite ?_ ?_)
   | (with_reducible refine LeO.bind ?_ (fun _ => ?_))
   | exact ih0 _ _ _ _
   | exact ih1 _ _ _ _ _ _ _ _ _ _ _
   | exact ih2 _ _ _ _ _ _ _ _ _ _ _ _
   | exact ih3 _ _ _ _ _ _ _ _ _ _ _ _ _ _
   | exact ih4 _ _ _ _ _ _ _ _ _ _ _ _ _ _
   | exact ih5 _ _ _ _ _ _ _ _ _ _ _ _ _
   | exact ih6 _ _ _ _ _ _ _ _ _ _ _
   | exact prefetch_Read.mono _ _ _ _ _ _ _ _ _
   | exact LeO.none _
   | refine LeO.ite ?_ ?_
   | refine LeO.bind ?_ (fun _ => ?_)
def tapearchivelaw36_PrefetchAhead.T10 : Bool × List (List Nat × List Nat) := (true, [([], []), ([], []), ([], []), ([], []), ([2, 3], [2, 3]), ([4], [4]), ([1, 5], [1, 5]), ([], []), ([], []), ([0, 6, 7, 8], [0, 6, 7, 8]), ([9], [9]), ([10], [10]), ([10], [10]), ([], []), ([], []), ([13, 11, 9, 0, 1, 2, 3, 4, 5, 6, 7, 8, 9, 10, 11, 13, 14], [11, 13]), ([14, 12, 15, 0, 1, 2, 3, 4, 5, 6, 7, 8, 9, 10, 11, 12, 13, 14, 15], [12, 14])])
def tapearchivelaw36_PrefetchAhead.B10 : List Nat := [0, 0, 0, 0, 12, 28, 62, 0, 0, 511, 1023, 2047, 2047, 0, 0, 28671, 65535]
theorem tapearchivelaw36_PrefetchAhead.tab10 : rtab .any (opsOf Try.f4 10) = tapearchivelaw36_PrefetchAhead.T10 := by kernel_rfl
theorem tapearchivelaw36_PrefetchAhead.bits10 : waitsOk tapearchivelaw36_PrefetchAhead.T10.2 tapearchivelaw36_PrefetchAhead.B10 = true := by kernel_rfl
set_option maxHeartbeats 8000000 in
set_option maxRecDepth 100000 in
theorem tapearchivelaw36_PrefetchAhead.calls (k : Nat) (A0 : Option Addr) (c0 : Nat) (l0 : List Int) (a1 : Int) (a2 : Int) (r : Bool) (w : World) (hr0 : Kd.C (Kd.int .i64) w A0 l0.length l0) (hc0 : l0.length ≤ c0) (ht_ : Aside0 (r = true)) (h : tapearchivelaw36_PrefetchAhead.f k l0 a1 a2 = some r) :
  Calls Try.prog 4 #[.slice A0 l0.length c0, .int .i64 a1, .int .i64 a2] w fun e w' => e = .returned (.bool r) ∧ Below w.heap.size w w' := by
 have hu28 := Try.underlying28
 have hu25 := Try.underlying25
 have HR0 := Aside0.mk hr0
 have HC0 := Aside0.mk hc0
 clear hr0 hc0
 have HB := Aside0.mk (Below.refl w.heap.size w)
 have H : (if (l0.length : Int) > 60 then (tapearchivelaw36_PrefetchAhead.j0 k l0 a1 a2 true) else (if a1 < 0 then (tapearchivelaw36_PrefetchAhead.j0 k l0 a1 a2 true) else (if a1 > 4096 then (tapearchivelaw36_PrefetchAhead.j0 k l0 a1 a2 true) else (if a2 < 0 then (tapearchivelaw36_PrefetchAhead.j0 k l0 a1 a2 true) else (tapearchivelaw36_PrefetchAhead.j0 k l0 a1 a2 (decide (a2 > 64))))))) = some r := h
 clear h
 have HC4 := Aside0.mk H
 clear H
 go_enter Try.func4, Try.ntmps4
 go_upto_region 1 with (fail)
 go_cut [32] (fun v32 wc => ∃ (kq : Nat) (x32_3 : Bool), v32 = .bool x32_3 ∧ Aside0 (tapearchivelaw36_PrefetchAhead.j0 kq l0 a1 a2 x32_3 = some r) ∧ Aside0 (kq ≤ k) ∧ Aside0 (Below w.heap.size w wc))
 case first =>
  have H := HC4.out
  clear HC4
  by_cases c5 : (l0.length : Int) > 60
  ·rw [if_pos c5] at H
   have c5b0 : decide (60 < (l0.length : Int)) = true := decide_eq_true c5
   have c5b1 : decide (60 < l0.length) = true := decide_eq_true (by omega)
   clear c5
   (first | rw [c5b0] | (simp only [i64_w, i32_w]; rw [c5b0]) | skip)
   have H' := Aside0.mk H
   clear H
   go_wp2
   go_meet
   case rel => exact ⟨_, (true), zS, H', ⟨by first | omega | exact Nat.le_refl _⟩, ⟨zB HB⟩⟩
  ·rw [if_neg c5] at H
   have c5b0 : decide (60 < (l0.length : Int)) = false := decide_eq_false c5
   have c5b1 : decide (60 < l0.length) = false := decide_eq_false (by omega)
   clear c5
   (first | rw [c5b0] | (simp only [i64_w, i32_w]; rw [c5b0]) | skip)
   by_cases c6 : a1 < 0
   ·rw [if_pos c6] at H
    have c6b0 : decide (a1 < 0) = true := decide_eq_true c6
    clear c6
    have H' := Aside0.mk H
    clear H
    go_wp2
    go_meet
    case rel => exact ⟨_, (true), zS, H', ⟨by first | omega | exact Nat.le_refl _⟩, ⟨zB HB⟩⟩
   ·rw [if_neg c6] at H
    have c6b0 : decide (a1 < 0) = false := decide_eq_false c6
    clear c6
    by_cases c7 : a1 > 4096
    ·rw [if_pos c7] at H
     have c7b0 : decide (4096 < a1) = true := decide_eq_true c7
     clear c7
     have H' := Aside0.mk H
     clear H
     go_wp2
     go_meet
     case rel => exact ⟨_, (true), zS, H', ⟨by first | omega | exact Nat.le_refl _⟩, ⟨zB HB⟩⟩
    ·rw [if_neg c7] at H
     have c7b0 : decide (4096 < a1) = false := decide_eq_false c7
     clear c7
     by_cases c8 : a2 < 0
     ·rw [if_pos c8] at H
      have c8b0 : decide (a2 < 0) = true := decide_eq_true c8
      clear c8
      have H' := Aside0.mk H
      clear H
      go_wp2
      go_meet
      case rel => exact ⟨_, (true), zS, H', ⟨by first | omega | exact Nat.le_refl _⟩, ⟨zB HB⟩⟩
     ·rw [if_neg c8] at H
      have c8b0 : decide (a2 < 0) = false := decide_eq_false c8
      clear c8
      have H' := Aside0.mk H
      clear H
      go_wp2
      go_meet
      case rel => exact ⟨_, (decide (a2 > 64)), zS, H', ⟨by first | omega | exact Nat.le_refl _⟩, ⟨zB HB⟩⟩
 case rest =>
  clear HC4
  try clear p2
  try clear c4
  try clear c5
  try clear c5b0
  try clear c5b1
  try clear c6
  try clear c6b0
  try clear c7
  try clear c7b0
  try clear c8
  try clear c8b0
  obtain ⟨kq, x32_3, rfl, HA, HJ3, HB⟩ := hcut
  cases kq with
  | zero => exact absurd HA.out (by simp [tapearchivelaw36_PrefetchAhead.j0])
  | succ kj3 =>
   have H := HA.out
   clear HA
   simp only [tapearchivelaw36_PrefetchAhead.j0] at H
   by_cases c9 : x32_3 = true
   ·subst c9
    have H1 : ((tapearchivelaw36_awake_s.f).bind fun t310 => (some t310)) = some r := by rw [if_pos rfl] at H; exact H
    clear H
    have H := H1
    clear H1
    replace H := Option.bind_eq_some_iff.mp H
    obtain ⟨t310, A100, H⟩ := H
    replace H : (some t310) = some r := H
    have A10 := Aside0.mk A100
    clear A100
    obtain rfl := Option.some.inj H
    go_wp2_with (first | ((with_reducible refine gate_callee (f := 12) rfl ?_); refine goesL_ (some 33) rfl rfl Try.func12 (by kernel_rfl) rfl #[] rfl zM ?_; (with_reducible refine (tapearchivelaw36_awake_s.calls  t310 _ A10.out).mono ?_); rintro e w11 ⟨rfl, hb⟩; refine ⟨_, rfl, ?_⟩; have n0_ := Aside0.mk (below_step (zB HB) hb); clear HB; have HB := n0_; clear n0_; (try clear hb); (try clear hb2); (try clear hk); (try clear hi)))
    go_ret
    exact ⟨by first | rfl | (simp [errW_none, errW_some] <;> rfl) | (simp [*, errW_none, errW_some] <;> rfl), by repeat (first | (with_reducible first | exact HB.out | apply below_alloc | apply pw_below_drewN | apply below_drew1) | exact HB.out)⟩
   ·replace c9 := Bool.eq_false_iff.mpr c9
    subst c9
    have H1 : (tapearchivelaw36_PrefetchAhead.l0 kj3 l0 a1 a2 0 0 0 0 0 0 0 0) = some r := by rw [if_neg (show ¬ (false = true) by decide)] at H; exact H
    clear H
    have H := H1
    clear H1
    have H' := Aside0.mk H
    clear H
    go_wp2_with (first | ((with_reducible refine gate_dst (N := 7) rfl ?_); (try (refine gate_guard (by rfl) ?_; dsimp only)); refine box_event ?hg (N := 7) ?hd (cs := #[.int .i64 0, .int .i64 0, .int .i64 0, .int .i64 0]) (t := 28) ?hr ?_; (case hd => rfl); (case hg => rfl); (case hr => first | (go_simp; done) | (go_simp; rfl)); intro gb311 hg w12 hbox hb; have n0_ := Aside0.mk (below_step (zB HB) hb); have n1_ := Aside0.mk (hbox); have n2_ := Aside0.mk ((by rw [hg]; exact (below_size (zB HB)) : w.heap.size ≤ gb311)); have n3_ := Aside0.mk ((by rw [hg]; exact (below_size (zB HB)) : w.heap.size ≤ gb311)); clear HB; have HB := n0_; have BK311 := n1_; have GW311 := n2_; have GE311 := n3_; clear n0_ n1_ n2_ n3_; clear hb hbox hg))
    go_loopg [8, 9, 10, 11] kj3 (fun kq v8 v9 v10 v11 w' => ∃ (x8_2 : Int) (x9_2 : Int) (x10_2 : Int) (x11_2 : Int) (x312000_2 : Int) (x312001_2 : Int) (x312002_2 : Int) (x312003_2 : Int), v8 = .int .i64 x8_2 ∧ v9 = .int .i64 x9_2 ∧ v10 = .int .i64 x10_2 ∧ v11 = .int .i64 x11_2 ∧ Aside0 (tapearchivelaw36_PrefetchAhead.l0 kq l0 a1 a2 x8_2 x9_2 x10_2 x11_2 x312000_2 x312001_2 x312002_2 x312003_2 = some r) ∧ Aside0 (kq ≤ kj3) ∧ Aside0 (w'.heap[gb311]? = some (.cells #[.int .i64 x312000_2, .int .i64 x312001_2, .int .i64 x312002_2, .int .i64 x312003_2] 28 (0, 0))) ∧ Aside0 (Below w.heap.size w w'))
    case atStart => exact ⟨(0), (0), (0), (0), (0), (0), (0), (0), zS, zS, zS, zS, H', ⟨Nat.le_refl _⟩, ⟨by (with_reducible repeat (first | refine blk_drewN ?_ _ | refine blk_drew ?_ | refine blk_alloc ?_ _)); exact BK311.out⟩, ⟨zG HB GE311⟩⟩
    case round =>
     clear H'
     try clear c1
     try clear p2
     try clear c4
     try clear c5
     try clear c5b0
     try clear c5b1
     try clear c6
     try clear c6b0
     try clear c7
     try clear c7b0
     try clear c8
     try clear c8b0
     try clear c9
     try clear c12
     try clear p2
     obtain ⟨x8_2, x9_2, x10_2, x11_2, x312000_2, x312001_2, x312002_2, x312003_2, rfl, rfl, rfl, rfl, HA, HK2, BK311, HB⟩ := hrel
     cases gk with
     | zero => exact absurd HA.out (by simp [tapearchivelaw36_PrefetchAhead.l0])
     | succ k2 =>
      have H := HA.out
      clear HA
      simp only [tapearchivelaw36_PrefetchAhead.l0] at H
      by_cases c13 : x11_2 < (l0.length : Int)
      ·rw [if_pos c13] at H
       have c13b0 : decide (x11_2 < (l0.length : Int)) = true := decide_eq_true c13
       clear c13
       have HC14 := Aside0.mk H
       clear H
       go_upto_region 8 with (fail)
       go_cut [54] (fun v54 wc => ∃ (kq : Nat) (x54_13 : Bool), v54 = .bool x54_13 ∧ Aside0 (tapearchivelaw36_PrefetchAhead.j2 kq l0 a1 a2 x8_2 x9_2 x10_2 x11_2 x54_13 x312000_2 x312001_2 x312002_2 x312003_2 = some r) ∧ Aside0 (kq ≤ k2) ∧ Aside0 (wc.heap[gb311]? = some (.cells #[.int .i64 x312000_2, .int .i64 x312001_2, .int .i64 x312002_2, .int .i64 x312003_2] 28 (0, 0))) ∧ Aside0 (Below w.heap.size w wc))
       case first =>
        have H := HC14.out
        clear HC14
        by_cases c15 : 0 ≤ x11_2
        ·rw [if_pos c15] at H
         have c15b0 : decide (0 ≤ x11_2) = true := decide_eq_true c15
         clear c15
         (first | rw [c15b0] | (simp only [i64_w, i32_w]; rw [c15b0]) | skip)
         by_cases c16 : (rd l0 x11_2) < 0
         ·rw [if_pos c16] at H
          have c16b0 : decide ((rd l0 x11_2) < 0) = true := decide_eq_true c16
          clear c16
          have H' := Aside0.mk H
          clear H
          have p313 : 0 ≤ (x11_2 : Int) := of_decide_eq_true zA
          have q313 : x11_2 < (l0.length : Int) := of_decide_eq_true zA
          obtain ⟨ad313, e313, hx313_0⟩ := Kd.at_int HR0.out x11_2 p313 q313
          cases e313
          replace hx313_0 := (HB.out.cell (World.block_lt_of_cell? w _ hx313_0)).trans hx313_0
          replace p313 := eq_true p313
          replace q313 := eq_true q313
          go_wp2
          go_meet
          case rel => exact ⟨_, (true), zS, H', ⟨by have := HJ3.out; have := HK2.out; first | omega | exact Nat.le_refl _⟩, ⟨by (with_reducible repeat (first | refine blk_drewN ?_ _ | refine blk_drew ?_ | refine blk_alloc ?_ _)); exact BK311.out⟩, ⟨zG HB GE311⟩⟩
         ·rw [if_neg c16] at H
          have c16b0 : decide ((rd l0 x11_2) < 0) = false := decide_eq_false c16
          clear c16
          have H' := Aside0.mk H
          clear H
          have p313 : 0 ≤ (x11_2 : Int) := of_decide_eq_true zA
          have q313 : x11_2 < (l0.length : Int) := of_decide_eq_true zA
          obtain ⟨ad313, e313, hx313_0⟩ := Kd.at_int HR0.out x11_2 p313 q313
          cases e313
          replace hx313_0 := (HB.out.cell (World.block_lt_of_cell? w _ hx313_0)).trans hx313_0
          replace p313 := eq_true p313
          replace q313 := eq_true q313
          have p314 : 0 ≤ (x11_2 : Int) := of_decide_eq_true zA
          have q314 : x11_2 < (l0.length : Int) := of_decide_eq_true zA
          obtain ⟨ad314, e314, hx314_0⟩ := Kd.at_int HR0.out x11_2 p314 q314
          obtain rfl : ad313 = ad314 := (by injection e314)
          replace hx314_0 := (HB.out.cell (World.block_lt_of_cell? w _ hx314_0)).trans hx314_0
          replace p314 := eq_true p314
          replace q314 := eq_true q314
          go_wp2
          go_meet
          case rel => exact ⟨_, (decide ((rd l0 x11_2) > (wrap64 (a1 - x8_2)))), zS, H', ⟨by have := HJ3.out; have := HK2.out; first | omega | exact Nat.le_refl _⟩, ⟨by (with_reducible repeat (first | refine blk_drewN ?_ _ | refine blk_drew ?_ | refine blk_alloc ?_ _)); exact BK311.out⟩, ⟨zG HB GE311⟩⟩
        ·rw [if_neg c15] at H
         exact absurd H (by simp)
       case rest =>
        clear HC14
        try clear c1
        try clear p2
        try clear p3
        try clear q3
        try clear hx3
        try clear c4
        try clear c5
        try clear c5b0
        try clear c5b1
        try clear c6
        try clear c6b0
        try clear p6
        try clear c7
        try clear c7b0
        try clear c8
        try clear c8b0
        try clear c9
        try clear c12
        try clear c13
        try clear c13b0
        try clear c15
        try clear c15b0
        try clear c16
        try clear c16b0
        try clear hx313_0
        try clear hx314_0
        try clear p2
        try clear p313
        try clear p314
        try clear q313
        try clear q314
        obtain ⟨kq, x54_13, rfl, HA, HJ13, BK311, HB⟩ := hcut
        cases kq with
        | zero => exact absurd HA.out (by simp [tapearchivelaw36_PrefetchAhead.j2])
        | succ kj13 =>
         have H := HA.out
         clear HA
         simp only [tapearchivelaw36_PrefetchAhead.j2] at H
         by_cases c17 : x54_13 = true
         ·subst c17
          have H1 : ((tapearchivelaw36_awake_s.f).bind fun t315 => (some t315)) = some r := by rw [if_pos rfl] at H; exact H
          clear H
          have H := H1
          clear H1
          replace H := Option.bind_eq_some_iff.mp H
          obtain ⟨t315, A180, H⟩ := H
          replace H : (some t315) = some r := H
          have A18 := Aside0.mk A180
          clear A180
          obtain rfl := Option.some.inj H
          go_wp2_with (first | ((with_reducible refine gate_callee (f := 12) rfl ?_); refine goesL_ (some 55) rfl rfl Try.func12 (by kernel_rfl) rfl #[] rfl zM ?_; (with_reducible refine (tapearchivelaw36_awake_s.calls  t315 _ A18.out).mono ?_); rintro e w19 ⟨rfl, hb⟩; refine ⟨_, rfl, ?_⟩; have n0_ := Aside0.mk (blk_below (g := gb311) (o := .cells #[.int .i64 x312000_2, .int .i64 x312001_2, .int .i64 x312002_2, .int .i64 x312003_2] 28 (0, 0)) (zL BK311.out) hb); have n1_ := Aside0.mk (below_step (zG HB GE311) hb); clear BK311; clear HB; have BK311 := n0_; have HB := n1_; clear n0_ n1_; (try clear hb); (try clear hb2); (try clear hk); (try clear hi)))
          go_ret
          exact ⟨by first | rfl | (simp [errW_none, errW_some] <;> rfl) | (simp [*, errW_none, errW_some] <;> rfl), by repeat (first | (with_reducible first | exact HB.out | apply below_alloc | apply pw_below_drewN | apply below_drew1 | refine below_set ?_ GE311.out) | exact HB.out)⟩
         ·replace c17 := Bool.eq_false_iff.mpr c17
          subst c17
          have H1 : (if 0 ≤ x11_2 then (if x11_2 < (l0.length : Int) then ((prefetch_Read.f kj13 x312000_2 x312001_2 x312002_2 x312003_2 x8_2 (rd l0 x11_2) a1 a2).bind fun bt317 => (if bt317.1 = (wrap64 (x8_2 + (rd l0 x11_2))) then (if bt317.2.1 = (mn a2 (mx 1 (wrap64 (2 * x10_2)))) then (tapearchivelaw36_PrefetchAhead.j3 kj13 l0 a1 a2 (wrap64 (x8_2 + (rd l0 x11_2))) x9_2 (mn a2 (mx 1 (wrap64 (2 * x10_2)))) x11_2 (bt317.2.2.2.1 != (wrap64 (x11_2 + 1))) bt317.1 bt317.2.1 bt317.2.2.1 bt317.2.2.2.1 bt317.2.2.2.2.1 bt317.2.2.2.2.2) else (tapearchivelaw36_PrefetchAhead.j3 kj13 l0 a1 a2 (wrap64 (x8_2 + (rd l0 x11_2))) x9_2 (mn a2 (mx 1 (wrap64 (2 * x10_2)))) x11_2 true bt317.1 bt317.2.1 bt317.2.2.1 bt317.2.2.2.1 bt317.2.2.2.2.1 bt317.2.2.2.2.2)) else (tapearchivelaw36_PrefetchAhead.j3 kj13 l0 a1 a2 (wrap64 (x8_2 + (rd l0 x11_2))) x9_2 (mn a2 (mx 1 (wrap64 (2 * x10_2)))) x11_2 true bt317.1 bt317.2.1 bt317.2.2.1 bt317.2.2.2.1 bt317.2.2.2.2.1 bt317.2.2.2.2.2))) else (none)) else (none)) = some r := by rw [if_neg (show ¬ (false = true) by decide)] at H; exact H
          clear H
          have H := H1
          clear H1
          by_cases c20 : 0 ≤ x11_2
          ·rw [if_pos c20] at H
           have c20b0 : decide (0 ≤ x11_2) = true := decide_eq_true c20
           clear c20
           by_cases c21 : x11_2 < (l0.length : Int)
           ·rw [if_pos c21] at H
            have c21b0 : decide (x11_2 < (l0.length : Int)) = true := decide_eq_true c21
            clear c21
            replace H := Option.bind_eq_some_iff.mp H
            obtain ⟨⟨t317, t318, t319, t320, t321, t322⟩, A220, H⟩ := H
            replace H : (if t317 = (wrap64 (x8_2 + (rd l0 x11_2))) then (if t318 = (mn a2 (mx 1 (wrap64 (2 * x10_2)))) then (tapearchivelaw36_PrefetchAhead.j3 kj13 l0 a1 a2 (wrap64 (x8_2 + (rd l0 x11_2))) x9_2 (mn a2 (mx 1 (wrap64 (2 * x10_2)))) x11_2 (t320 != (wrap64 (x11_2 + 1))) t317 t318 t319 t320 t321 t322) else (tapearchivelaw36_PrefetchAhead.j3 kj13 l0 a1 a2 (wrap64 (x8_2 + (rd l0 x11_2))) x9_2 (mn a2 (mx 1 (wrap64 (2 * x10_2)))) x11_2 true t317 t318 t319 t320 t321 t322)) else (tapearchivelaw36_PrefetchAhead.j3 kj13 l0 a1 a2 (wrap64 (x8_2 + (rd l0 x11_2))) x9_2 (mn a2 (mx 1 (wrap64 (2 * x10_2)))) x11_2 true t317 t318 t319 t320 t321 t322)) = some r := H
            have A22 := Aside0.mk A220
            clear A220
            obtain ⟨ji23, hji23⟩ : ∃ j_ : Int, (mx 1 (wrap64 (2 * x10_2))) = j_ := ⟨_, rfl⟩
            replace H : (if t317 = (wrap64 (x8_2 + (rd l0 x11_2))) then (if t318 = (mn a2 (ji23)) then (tapearchivelaw36_PrefetchAhead.j3 kj13 l0 a1 a2 (wrap64 (x8_2 + (rd l0 x11_2))) x9_2 (mn a2 (ji23)) x11_2 (t320 != (wrap64 (x11_2 + 1))) t317 t318 t319 t320 t321 t322) else (tapearchivelaw36_PrefetchAhead.j3 kj13 l0 a1 a2 (wrap64 (x8_2 + (rd l0 x11_2))) x9_2 (mn a2 (ji23)) x11_2 true t317 t318 t319 t320 t321 t322)) else (tapearchivelaw36_PrefetchAhead.j3 kj13 l0 a1 a2 (wrap64 (x8_2 + (rd l0 x11_2))) x9_2 (mn a2 (ji23)) x11_2 true t317 t318 t319 t320 t321 t322)) = some r := by first | (rw [hji23] at H; exact H) | (simp only [hji23] at H ⊢; exact H)
            (try rw [hji23] at A22)
            have hji23_ : (if 1 < (wrap64 (2 * x10_2)) then (wrap64 (2 * x10_2)) else 1) = ji23 := hji23
            obtain ⟨ji24, hji24⟩ : ∃ j_ : Int, (mn a2 (ji23)) = j_ := ⟨_, rfl⟩
            replace H : (if t317 = (wrap64 (x8_2 + (rd l0 x11_2))) then (if t318 = (ji24) then (tapearchivelaw36_PrefetchAhead.j3 kj13 l0 a1 a2 (wrap64 (x8_2 + (rd l0 x11_2))) x9_2 ji24 x11_2 (t320 != (wrap64 (x11_2 + 1))) t317 t318 t319 t320 t321 t322) else (tapearchivelaw36_PrefetchAhead.j3 kj13 l0 a1 a2 (wrap64 (x8_2 + (rd l0 x11_2))) x9_2 ji24 x11_2 true t317 t318 t319 t320 t321 t322)) else (tapearchivelaw36_PrefetchAhead.j3 kj13 l0 a1 a2 (wrap64 (x8_2 + (rd l0 x11_2))) x9_2 ji24 x11_2 true t317 t318 t319 t320 t321 t322)) = some r := by first | (rw [hji24] at H; exact H) | (simp only [hji24] at H ⊢; exact H)
            (try rw [hji24] at A22)
            have hji24_ : (if (ji23) < a2 then (ji23) else a2) = ji24 := hji24
            have HC25 := Aside0.mk H
            clear H
            try go_wp2
            have n0_ := Aside0.mk (blk_drew BK311.out)
            have n1_ := Aside0.mk (below_drew1 HB.out)
            clear BK311
            clear HB
            have BK311 := n0_
            have HB := n1_
            clear n0_ n1_
            have p316 : 0 ≤ (x11_2 : Int) := of_decide_eq_true zA
            have q316 : x11_2 < (l0.length : Int) := of_decide_eq_true zA
            obtain ⟨ad316, e316, hx316_0⟩ := Kd.at_int HR0.out x11_2 p316 q316
            have hw316_0 := hx316_0
            cases e316
            replace hx316_0 := (HB.out.cell (World.block_lt_of_cell? w _ hx316_0)).trans hx316_0
            replace p316 := eq_true p316
            replace q316 := eq_true q316
            refine start_ (n := 17) (S := fun w' => w'.cell? ⟨gb311, 0, none⟩ = some (.int .i64 x312000_2) ∧ w'.cell? ⟨gb311, 1, none⟩ = some (.int .i64 x312001_2) ∧ w'.cell? ⟨gb311, 2, none⟩ = some (.int .i64 x312002_2) ∧ w'.cell? ⟨gb311, 3, none⟩ = some (.int .i64 x312003_2) ∧ w'.cell? (ad316.add (x11_2).toNat) = some (.int .i64 (rd l0 x11_2))) (ds := []) #[false, false, false, false, false, false, false, false, false, false, false, false, false, false, false, false, false] (by kernel_rfl) rfl rfl ⟨(blk_cell BK311.out 0).trans rfl, (blk_cell BK311.out 1).trans rfl, (blk_cell BK311.out 2).trans rfl, (blk_cell BK311.out 3).trans rfl, ((HB.out.cell (World.block_lt_of_cell? w _ hw316_0)).trans hw316_0)⟩ (fun hHeld => ?_); refine with_tabW tapearchivelaw36_PrefetchAhead.tab10 tapearchivelaw36_PrefetchAhead.bits10 (fun HT_ HW_ => ?_)
            generalize wc.drew = w26 at BK311 HB hx316_0 hHeld ⊢
            refine pure_ (i := 1) (N := some 58) (v := ?_) (a' := ?_) #[false, true, false, false, false, false, false, false, false, false, false, false, false, false, false, false, false] rfl rfl (any_of HT_.out (by kernel_rfl)) (fun _ _ _ h => h) (Or.inl ⟨by rfl, ?_⟩) ?_ ?_
            rotate_left
            ·intro w'
             go_simp
             with_reducible rfl
            rotate_left
            ·simp only [Act.put, List.setIfInBounds_toArray, List.set_cons_zero, List.set_cons_succ, i64_w, i32_w]
             rfl
            refine pure_ (i := 2) (N := some 59) (v := ?_) (a' := ?_) #[false, true, true, false, false, false, false, false, false, false, false, false, false, false, false, false, false] rfl rfl (any_of HT_.out (by kernel_rfl)) (fun _ _ _ h => h) (Or.inl ⟨by rfl, ?_⟩) ?_ ?_
            rotate_left
            ·intro w'
             go_simp
             with_reducible rfl
            rotate_left
            ·simp only [Act.put, List.setIfInBounds_toArray, List.set_cons_zero, List.set_cons_succ, i64_w, i32_w]
             rfl
            refine pure_ (i := 3) (N := some 60) (v := ?_) (a' := ?_) #[false, true, true, true, false, false, false, false, false, false, false, false, false, false, false, false, false] rfl rfl (any_of HT_.out (by kernel_rfl)) (fun _ _ _ h => h) (Or.inl ⟨by rfl, ?_⟩) ?_ ?_
            rotate_left
            ·intro w'
             go_simp
             with_reducible rfl
            rotate_left
            ·simp only [Act.put, List.setIfInBounds_toArray, List.set_cons_zero, List.set_cons_succ, i64_w, i32_w]
             rfl
            refine pure_ (i := 4) (N := some 61) (v := ?_) (a' := ?_) #[false, true, true, true, true, false, false, false, false, false, false, false, false, false, false, false, false] rfl rfl (any_of HT_.out (by kernel_rfl)) (fun _ _ _ h => h) (Or.inl ⟨by rfl, ?_⟩) ?_ ?_
            rotate_left
            ·intro w'
             go_simp
             with_reducible rfl
            rotate_left
            ·simp only [Act.put, List.setIfInBounds_toArray, List.set_cons_zero, List.set_cons_succ, i64_w, i32_w]
             rfl
            refine pure_ (i := 7) (N := some 64) (v := ?_) (a' := ?_) #[false, true, true, true, true, false, false, true, false, false, false, false, false, false, false, false, false] rfl rfl (any_of HT_.out (by kernel_rfl)) (fun _ _ _ h => h) (Or.inl ⟨by rfl, ?_⟩) ?_ ?_
            rotate_left
            ·intro w'
             go_simp
             with_reducible rfl
            rotate_left
            ·simp only [Act.put, List.setIfInBounds_toArray, List.set_cons_zero, List.set_cons_succ, i64_w, i32_w]
             rfl
            refine pure_ (i := 8) (N := some 65) (v := ?_) (a' := ?_) #[false, true, true, true, true, false, false, true, true, false, false, false, false, false, false, false, false] rfl rfl (any_of HT_.out (by kernel_rfl)) (fun _ _ _ h => h) (Or.inl ⟨by rfl, ?_⟩) ?_ ?_
            rotate_left
            ·intro w'
             go_simp
             with_reducible rfl
            rotate_left
            ·simp only [Act.put, List.setIfInBounds_toArray, List.set_cons_zero, List.set_cons_succ, i64_w, i32_w]
             rfl
            refine take_ (i := 0) (N := some 57) (v := ?_) (a' := ?_) #[true, true, true, true, true, false, false, true, true, false, false, false, false, false, false, false, false] rfl rfl (take_ofW HT_.out HW_.out (by kernel_rfl)) (fun _ _ _ h => h) (Or.inl ⟨by rfl, ?_⟩) hHeld ?_ ?_
            rotate_left
            ·rintro w' ⟨s0, s1, s2, s3, s4⟩
             go_simp
             with_reducible rfl
            rotate_left
            ·simp only [Act.put, List.setIfInBounds_toArray, List.set_cons_zero, List.set_cons_succ, i64_w, i32_w]
             rfl
            refine take_ (i := 5) (N := some 62) (v := ?_) (a' := ?_) #[true, true, true, true, true, true, false, true, true, false, false, false, false, false, false, false, false] rfl rfl (take_ofW HT_.out HW_.out (by kernel_rfl)) (fun _ _ _ h => h) (Or.inl ⟨by rfl, ?_⟩) hHeld ?_ ?_
            rotate_left
            ·rintro w' ⟨s0, s1, s2, s3, s4⟩
             go_simp
             with_reducible rfl
            rotate_left
            ·simp only [Act.put, List.setIfInBounds_toArray, List.set_cons_zero, List.set_cons_succ, i64_w, i32_w]
             rfl
            refine pure_ (i := 6) (N := some 63) (v := ?_) (a' := ?_) #[true, true, true, true, true, true, true, true, true, false, false, false, false, false, false, false, false] rfl rfl (any_of HT_.out (by kernel_rfl)) (fun _ _ _ h => h) (Or.inl ⟨by rfl, ?_⟩) ?_ ?_
            rotate_left
            ·intro w'
             go_simp
             with_reducible rfl
            rotate_left
            ·simp only [Act.put, List.setIfInBounds_toArray, List.set_cons_zero, List.set_cons_succ, i64_w, i32_w]
             rfl
            refine join_ (σ := Nat × Nat) 2 #[true, true, true, true, true, true, true, true, true, true, true, true, true, true, true, false, false] (fun s_ => [(66, .tuple #[.agg #[.int .i64 t317, .int .i64 t318, .int .i64 t319, .int .i64 t320], .agg #[.int .i64 t321, .int .i64 t322]]), (12, .pointer (some ⟨s_.1, 0, none⟩)), (13, .pointer (some ⟨s_.2, 0, none⟩)), (56, .tuple #[.agg #[.int .i64 t317, .int .i64 t318, .int .i64 t319, .int .i64 t320], .agg #[.int .i64 t321, .int .i64 t322]]), (67, .agg #[.int .i64 t317, .int .i64 t318, .int .i64 t319, .int .i64 t320]), (68, .agg #[.int .i64 t321, .int .i64 t322])]) (fun s_ w' => (w'.cell? ⟨gb311, 0, none⟩ = some (.int .i64 x312000_2) ∧ w'.cell? ⟨gb311, 1, none⟩ = some (.int .i64 x312001_2) ∧ w'.cell? ⟨gb311, 2, none⟩ = some (.int .i64 x312002_2) ∧ w'.cell? ⟨gb311, 3, none⟩ = some (.int .i64 x312003_2) ∧ w'.cell? (ad316.add (x11_2).toNat) = some (.int .i64 (rd l0 x11_2))) ∧ (w'.heap[gb311]? = some (.cells #[.int .i64 x312000_2, .int .i64 x312001_2, .int .i64 x312002_2, .int .i64 x312003_2] 28 (0, 0))) ∧ (w'.heap[s_.1]? = some (.cells #[.int .i64 0, .int .i64 0, .int .i64 0, .int .i64 0] 28 (0, 0))) ∧ (w'.heap[s_.2]? = some (.cells #[.int .i64 0, .int .i64 0] 25 (0, 0))) ∧ (w.heap.size ≤ s_.1) ∧ (w.heap.size ≤ s_.1) ∧ (gb311 ≠ s_.1) ∧ (s_.1 ≠ gb311) ∧ (s_.2 ≠ s_.1) ∧ (s_.1 ≠ s_.2) ∧ (w.heap.size ≤ s_.2) ∧ (w.heap.size ≤ s_.2) ∧ (gb311 ≠ s_.2) ∧ (s_.2 ≠ gb311) ∧ (Below w.heap.size w w')) ?_ ?_
            rotate_left
            ·intro hJ9_13_14
             refine join_ (σ := Nat) 3 #[true, true, true, true, true, true, true, true, true, true, true, true, true, true, false, false, false] (fun s_ => [(66, .tuple #[.agg #[.int .i64 t317, .int .i64 t318, .int .i64 t319, .int .i64 t320], .agg #[.int .i64 t321, .int .i64 t322]]), (12, .pointer (some ⟨s_, 0, none⟩)), (56, .tuple #[.agg #[.int .i64 t317, .int .i64 t318, .int .i64 t319, .int .i64 t320], .agg #[.int .i64 t321, .int .i64 t322]]), (67, .agg #[.int .i64 t317, .int .i64 t318, .int .i64 t319, .int .i64 t320]), (68, .agg #[.int .i64 t321, .int .i64 t322])]) (fun s_ w' => (w'.cell? ⟨gb311, 0, none⟩ = some (.int .i64 x312000_2) ∧ w'.cell? ⟨gb311, 1, none⟩ = some (.int .i64 x312001_2) ∧ w'.cell? ⟨gb311, 2, none⟩ = some (.int .i64 x312002_2) ∧ w'.cell? ⟨gb311, 3, none⟩ = some (.int .i64 x312003_2) ∧ w'.cell? (ad316.add (x11_2).toNat) = some (.int .i64 (rd l0 x11_2))) ∧ (w'.heap[gb311]? = some (.cells #[.int .i64 x312000_2, .int .i64 x312001_2, .int .i64 x312002_2, .int .i64 x312003_2] 28 (0, 0))) ∧ (w'.heap[s_]? = some (.cells #[.int .i64 0, .int .i64 0, .int .i64 0, .int .i64 0] 28 (0, 0))) ∧ (w.heap.size ≤ s_) ∧ (w.heap.size ≤ s_) ∧ (gb311 ≠ s_) ∧ (s_ ≠ gb311) ∧ (Below w.heap.size w w')) ?_ ?_
             rotate_left
             ·intro hJ9_13
              refine join_ (σ := Nat) 3 #[true, true, true, true, true, true, true, true, true, true, true, true, true, false, true, false, false] (fun s_ => [(66, .tuple #[.agg #[.int .i64 t317, .int .i64 t318, .int .i64 t319, .int .i64 t320], .agg #[.int .i64 t321, .int .i64 t322]]), (13, .pointer (some ⟨s_, 0, none⟩)), (56, .tuple #[.agg #[.int .i64 t317, .int .i64 t318, .int .i64 t319, .int .i64 t320], .agg #[.int .i64 t321, .int .i64 t322]]), (67, .agg #[.int .i64 t317, .int .i64 t318, .int .i64 t319, .int .i64 t320]), (68, .agg #[.int .i64 t321, .int .i64 t322])]) (fun s_ w' => (w'.cell? ⟨gb311, 0, none⟩ = some (.int .i64 x312000_2) ∧ w'.cell? ⟨gb311, 1, none⟩ = some (.int .i64 x312001_2) ∧ w'.cell? ⟨gb311, 2, none⟩ = some (.int .i64 x312002_2) ∧ w'.cell? ⟨gb311, 3, none⟩ = some (.int .i64 x312003_2) ∧ w'.cell? (ad316.add (x11_2).toNat) = some (.int .i64 (rd l0 x11_2))) ∧ (w'.heap[gb311]? = some (.cells #[.int .i64 x312000_2, .int .i64 x312001_2, .int .i64 x312002_2, .int .i64 x312003_2] 28 (0, 0))) ∧ (w'.heap[s_]? = some (.cells #[.int .i64 0, .int .i64 0] 25 (0, 0))) ∧ (w.heap.size ≤ s_) ∧ (w.heap.size ≤ s_) ∧ (gb311 ≠ s_) ∧ (s_ ≠ gb311) ∧ (Below w.heap.size w w')) ?_ ?_
              rotate_left
              ·intro hJ9_14
               refine join_ (σ := Nat × Nat) 6 #[true, true, true, true, true, true, true, true, true, false, false, false, false, true, true, false, false] (fun s_ => [(12, .pointer (some ⟨s_.1, 0, none⟩)), (13, .pointer (some ⟨s_.2, 0, none⟩))]) (fun s_ w' => (w'.cell? ⟨gb311, 0, none⟩ = some (.int .i64 x312000_2) ∧ w'.cell? ⟨gb311, 1, none⟩ = some (.int .i64 x312001_2) ∧ w'.cell? ⟨gb311, 2, none⟩ = some (.int .i64 x312002_2) ∧ w'.cell? ⟨gb311, 3, none⟩ = some (.int .i64 x312003_2) ∧ w'.cell? (ad316.add (x11_2).toNat) = some (.int .i64 (rd l0 x11_2))) ∧ (w'.heap[gb311]? = some (.cells #[.int .i64 x312000_2, .int .i64 x312001_2, .int .i64 x312002_2, .int .i64 x312003_2] 28 (0, 0))) ∧ (w'.heap[s_.1]? = some (.cells #[.int .i64 0, .int .i64 0, .int .i64 0, .int .i64 0] 28 (0, 0))) ∧ (w'.heap[s_.2]? = some (.cells #[.int .i64 0, .int .i64 0] 25 (0, 0))) ∧ (w.heap.size ≤ s_.1) ∧ (w.heap.size ≤ s_.1) ∧ (gb311 ≠ s_.1) ∧ (s_.1 ≠ gb311) ∧ (s_.2 ≠ s_.1) ∧ (s_.1 ≠ s_.2) ∧ (w.heap.size ≤ s_.2) ∧ (w.heap.size ≤ s_.2) ∧ (gb311 ≠ s_.2) ∧ (s_.2 ≠ gb311) ∧ (Below w.heap.size w w')) ?_ ?_
               rotate_left
               ·intro hJ13_14
                refine join_ (σ := Unit) 4 #[true, true, true, true, true, true, true, true, true, true, true, true, true, false, false, false, false] (fun s_ => [(66, .tuple #[.agg #[.int .i64 t317, .int .i64 t318, .int .i64 t319, .int .i64 t320], .agg #[.int .i64 t321, .int .i64 t322]]), (56, .tuple #[.agg #[.int .i64 t317, .int .i64 t318, .int .i64 t319, .int .i64 t320], .agg #[.int .i64 t321, .int .i64 t322]]), (67, .agg #[.int .i64 t317, .int .i64 t318, .int .i64 t319, .int .i64 t320]), (68, .agg #[.int .i64 t321, .int .i64 t322])]) (fun s_ w' => (w'.cell? ⟨gb311, 0, none⟩ = some (.int .i64 x312000_2) ∧ w'.cell? ⟨gb311, 1, none⟩ = some (.int .i64 x312001_2) ∧ w'.cell? ⟨gb311, 2, none⟩ = some (.int .i64 x312002_2) ∧ w'.cell? ⟨gb311, 3, none⟩ = some (.int .i64 x312003_2) ∧ w'.cell? (ad316.add (x11_2).toNat) = some (.int .i64 (rd l0 x11_2))) ∧ (w'.heap[gb311]? = some (.cells #[.int .i64 x312000_2, .int .i64 x312001_2, .int .i64 x312002_2, .int .i64 x312003_2] 28 (0, 0))) ∧ (Below w.heap.size w w')) ?_ ?_
                rotate_left
                ·intro hJ9
                 refine join_ (σ := Nat) 7 #[true, true, true, true, true, true, true, true, true, false, false, false, false, true, false, false, false] (fun s_ => [(12, .pointer (some ⟨s_, 0, none⟩))]) (fun s_ w' => (w'.cell? ⟨gb311, 0, none⟩ = some (.int .i64 x312000_2) ∧ w'.cell? ⟨gb311, 1, none⟩ = some (.int .i64 x312001_2) ∧ w'.cell? ⟨gb311, 2, none⟩ = some (.int .i64 x312002_2) ∧ w'.cell? ⟨gb311, 3, none⟩ = some (.int .i64 x312003_2) ∧ w'.cell? (ad316.add (x11_2).toNat) = some (.int .i64 (rd l0 x11_2))) ∧ (w'.heap[gb311]? = some (.cells #[.int .i64 x312000_2, .int .i64 x312001_2, .int .i64 x312002_2, .int .i64 x312003_2] 28 (0, 0))) ∧ (w'.heap[s_]? = some (.cells #[.int .i64 0, .int .i64 0, .int .i64 0, .int .i64 0] 28 (0, 0))) ∧ (w.heap.size ≤ s_) ∧ (w.heap.size ≤ s_) ∧ (gb311 ≠ s_) ∧ (s_ ≠ gb311) ∧ (Below w.heap.size w w')) ?_ ?_
                 rotate_left
                 ·intro hJ13
                  refine join_ (σ := Nat) 7 #[true, true, true, true, true, true, true, true, true, false, false, false, false, false, true, false, false] (fun s_ => [(13, .pointer (some ⟨s_, 0, none⟩))]) (fun s_ w' => (w'.cell? ⟨gb311, 0, none⟩ = some (.int .i64 x312000_2) ∧ w'.cell? ⟨gb311, 1, none⟩ = some (.int .i64 x312001_2) ∧ w'.cell? ⟨gb311, 2, none⟩ = some (.int .i64 x312002_2) ∧ w'.cell? ⟨gb311, 3, none⟩ = some (.int .i64 x312003_2) ∧ w'.cell? (ad316.add (x11_2).toNat) = some (.int .i64 (rd l0 x11_2))) ∧ (w'.heap[gb311]? = some (.cells #[.int .i64 x312000_2, .int .i64 x312001_2, .int .i64 x312002_2, .int .i64 x312003_2] 28 (0, 0))) ∧ (w'.heap[s_]? = some (.cells #[.int .i64 0, .int .i64 0] 25 (0, 0))) ∧ (w.heap.size ≤ s_) ∧ (w.heap.size ≤ s_) ∧ (gb311 ≠ s_) ∧ (s_ ≠ gb311) ∧ (Below w.heap.size w w')) ?_ ?_
                  rotate_left
                  ·intro hJ14
                   refine three_ (i := 9) (j := 13) (k := 14) (Ni := some 66) (Nj := some 12) (Nk := some 13) #[true, true, true, true, true, true, true, true, true, true, false, false, false, false, false, false, false] #[true, true, true, true, true, true, true, true, true, false, false, false, false, true, false, false, false] #[true, true, true, true, true, true, true, true, true, false, false, false, false, false, true, false, false] rfl rfl rfl rfl rfl rfl (three_of HT_.out (by kernel_rfl)) (by decide) (by decide) (by decide) (fun K hK => ?_) (fun K hK => ?_) (fun K hK => ?_)
                   ·skip
                    refine goes_ Try.func9 (by kernel_rfl) rfl #[.agg #[.int .i64 x312000_2, .int .i64 x312001_2, .int .i64 x312002_2, .int .i64 x312003_2], .agg #[.int .i64 x8_2, .int .i64 (rd l0 x11_2)], .int .i64 a1, .int .i64 a2] (by rfl) rfl rfl zM ?_
                    with_reducible refine (prefetch_Read.calls kj13 x312000_2 x312001_2 x312002_2 x312003_2 x8_2 (rd l0 x11_2) a1 a2 t317 t318 t319 t320 t321 t322 _ A22.out).mono ?_
                    rintro e w27 ⟨rfl, hb⟩
                    refine ⟨_, rfl, ?_⟩
                    have n0_ := Aside0.mk (blk_below (g := gb311) (o := .cells #[.int .i64 x312000_2, .int .i64 x312001_2, .int .i64 x312002_2, .int .i64 x312003_2] 28 (0, 0)) (zL BK311.out) hb)
                    have n1_ := Aside0.mk (below_step (zG HB GE311) hb)
                    clear BK311
                    clear HB
                    have BK311 := n0_
                    have HB := n1_
                    clear n0_ n1_
                    (try clear hb)
                    (try clear hb2)
                    (try clear hk)
                    (try clear hi)
                    refine hK.out _ _ ⟨(blk_cell BK311.out 0).trans rfl, (blk_cell BK311.out 1).trans rfl, (blk_cell BK311.out 2).trans rfl, (blk_cell BK311.out 3).trans rfl, ((HB.out.cell (World.block_lt_of_cell? w _ hw316_0)).trans hw316_0)⟩ (fun hHeld => ?_)
                    clear hK K
                    refine norm_ (a' := ?_) ?_ ?_
                    rotate_left
                    ·show Act.put _ (some 66) _ = _
                     simp only [Act.put, List.setIfInBounds_toArray, List.set_cons_zero, List.set_cons_succ, i64_w, i32_w]
                     rfl
                    refine pure_ (i := 10) (N := some 56) (v := ?_) (a' := ?_) #[true, true, true, true, true, true, true, true, true, true, true, false, false, false, false, false, false] rfl rfl (any_of HT_.out (by kernel_rfl)) (fun _ _ _ h => h) (Or.inl ⟨by rfl, ?_⟩) ?_ ?_
                    rotate_left
                    ·intro w'
                     go_simp
                     with_reducible rfl
                    rotate_left
                    ·simp only [Act.put, List.setIfInBounds_toArray, List.set_cons_zero, List.set_cons_succ, i64_w, i32_w]
                     rfl
                    refine pure_ (i := 11) (N := some 67) (v := ?_) (a' := ?_) #[true, true, true, true, true, true, true, true, true, true, true, true, false, false, false, false, false] rfl rfl (any_of HT_.out (by kernel_rfl)) (fun _ _ _ h => h) (Or.inl ⟨by rfl, ?_⟩) ?_ ?_
                    rotate_left
                    ·intro w'
                     go_simp
                     with_reducible rfl
                    rotate_left
                    ·simp only [Act.put, List.setIfInBounds_toArray, List.set_cons_zero, List.set_cons_succ, i64_w, i32_w]
                     rfl
                    refine pure_ (i := 12) (N := some 68) (v := ?_) (a' := ?_) #[true, true, true, true, true, true, true, true, true, true, true, true, true, false, false, false, false] rfl rfl (any_of HT_.out (by kernel_rfl)) (fun _ _ _ h => h) (Or.inl ⟨by rfl, ?_⟩) ?_ ?_
                    rotate_left
                    ·intro w'
                     go_simp
                     with_reducible rfl
                    rotate_left
                    ·simp only [Act.put, List.setIfInBounds_toArray, List.set_cons_zero, List.set_cons_succ, i64_w, i32_w]
                     rfl
                    exact norm_ (by first | (simp only [putAll, Act.put, List.setIfInBounds_toArray, List.set_cons_zero, List.set_cons_succ]; done) | (simp only [putAll, Act.put, List.setIfInBounds_toArray, List.set_cons_zero, List.set_cons_succ]; rfl)) (hJ9 () _ ⟨hHeld, (zL BK311.out), (zG HB GE311)⟩)
                   ·skip
                    refine box_step ?hg (N := 12) ?hd (cs := #[.int .i64 0, .int .i64 0, .int .i64 0, .int .i64 0]) (t := 28) ?hr ?_; (case hd => rfl); (case hg => rfl); (case hr => first | (go_simp; done) | (go_simp; rfl))
                    intro gb323 hg w27 hbox hb
                    have n0_ := Aside0.mk (blk_below (g := gb311) (o := .cells #[.int .i64 x312000_2, .int .i64 x312001_2, .int .i64 x312002_2, .int .i64 x312003_2] 28 (0, 0)) (zL BK311.out) hb)
                    have n1_ := Aside0.mk (below_step (zG HB GE311) hb)
                    have n2_ := Aside0.mk (hbox)
                    have n3_ := Aside0.mk ((by rw [hg]; exact (below_size (zG HB GE311)) : w.heap.size ≤ gb323))
                    have n4_ := Aside0.mk ((by rw [hg]; exact (below_size (zG HB GE311)) : w.heap.size ≤ gb323))
                    have n5_ := Aside0.mk ((by rw [hg]; exact Nat.ne_of_lt (blk_lt (g := gb311) (o := .cells #[.int .i64 x312000_2, .int .i64 x312001_2, .int .i64 x312002_2, .int .i64 x312003_2] 28 (0, 0)) (zL BK311.out)) : gb311 ≠ gb323))
                    have n6_ := Aside0.mk ((by rw [hg]; exact Nat.ne_of_gt (blk_lt (g := gb311) (o := .cells #[.int .i64 x312000_2, .int .i64 x312001_2, .int .i64 x312002_2, .int .i64 x312003_2] 28 (0, 0)) (zL BK311.out)) : gb323 ≠ gb311))
                    clear BK311
                    clear HB
                    have BK311 := n0_
                    have HB := n1_
                    have BK323 := n2_
                    have GW323 := n3_
                    have GE323 := n4_
                    have NB311_323 := n5_
                    have NB323_311 := n6_
                    clear n0_ n1_ n2_ n3_ n4_ n5_ n6_
                    clear hb hbox hg
                    refine hK.out _ _ ⟨(blk_cell BK311.out 0).trans rfl, (blk_cell BK311.out 1).trans rfl, (blk_cell BK311.out 2).trans rfl, (blk_cell BK311.out 3).trans rfl, ((HB.out.cell (World.block_lt_of_cell? w _ hw316_0)).trans hw316_0)⟩ (fun hHeld => ?_)
                    clear hK K
                    refine norm_ (a' := ?_) ?_ ?_
                    rotate_left
                    ·show Act.put _ (some 12) _ = _
                     simp only [Act.put, List.setIfInBounds_toArray, List.set_cons_zero, List.set_cons_succ, i64_w, i32_w]
                     rfl
                    exact norm_ (by first | (simp only [putAll, Act.put, List.setIfInBounds_toArray, List.set_cons_zero, List.set_cons_succ]; done) | (simp only [putAll, Act.put, List.setIfInBounds_toArray, List.set_cons_zero, List.set_cons_succ]; rfl)) (hJ13 (gb323) _ ⟨hHeld, (zL BK311.out), (zL BK323.out), GW323.out, GE323.out, NB311_323.out, NB323_311.out, (by repeat (first | (with_reducible first | exact HB.out | apply below_alloc | apply pw_below_drewN | apply below_drew1 | refine below_set ?_ GE311.out | refine below_set ?_ GE323.out) | exact HB.out))⟩)
                   ·skip
                    refine box_step ?hg (N := 13) ?hd (cs := #[.int .i64 0, .int .i64 0]) (t := 25) ?hr ?_; (case hd => rfl); (case hg => rfl); (case hr => first | (go_simp; done) | (go_simp; rfl))
                    intro gb324 hg w27 hbox hb
                    have n0_ := Aside0.mk (blk_below (g := gb311) (o := .cells #[.int .i64 x312000_2, .int .i64 x312001_2, .int .i64 x312002_2, .int .i64 x312003_2] 28 (0, 0)) (zL BK311.out) hb)
                    have n1_ := Aside0.mk (below_step (zG HB GE311) hb)
                    have n2_ := Aside0.mk (hbox)
                    have n3_ := Aside0.mk ((by rw [hg]; exact (below_size (zG HB GE311)) : w.heap.size ≤ gb324))
                    have n4_ := Aside0.mk ((by rw [hg]; exact (below_size (zG HB GE311)) : w.heap.size ≤ gb324))
                    have n5_ := Aside0.mk ((by rw [hg]; exact Nat.ne_of_lt (blk_lt (g := gb311) (o := .cells #[.int .i64 x312000_2, .int .i64 x312001_2, .int .i64 x312002_2, .int .i64 x312003_2] 28 (0, 0)) (zL BK311.out)) : gb311 ≠ gb324))
                    have n6_ := Aside0.mk ((by rw [hg]; exact Nat.ne_of_gt (blk_lt (g := gb311) (o := .cells #[.int .i64 x312000_2, .int .i64 x312001_2, .int .i64 x312002_2, .int .i64 x312003_2] 28 (0, 0)) (zL BK311.out)) : gb324 ≠ gb311))
                    clear BK311
                    clear HB
                    have BK311 := n0_
                    have HB := n1_
                    have BK324 := n2_
                    have GW324 := n3_
                    have GE324 := n4_
                    have NB311_324 := n5_
                    have NB324_311 := n6_
                    clear n0_ n1_ n2_ n3_ n4_ n5_ n6_
                    clear hb hbox hg
                    refine hK.out _ _ ⟨(blk_cell BK311.out 0).trans rfl, (blk_cell BK311.out 1).trans rfl, (blk_cell BK311.out 2).trans rfl, (blk_cell BK311.out 3).trans rfl, ((HB.out.cell (World.block_lt_of_cell? w _ hw316_0)).trans hw316_0)⟩ (fun hHeld => ?_)
                    clear hK K
                    refine norm_ (a' := ?_) ?_ ?_
                    rotate_left
                    ·show Act.put _ (some 13) _ = _
                     simp only [Act.put, List.setIfInBounds_toArray, List.set_cons_zero, List.set_cons_succ, i64_w, i32_w]
                     rfl
                    exact norm_ (by first | (simp only [putAll, Act.put, List.setIfInBounds_toArray, List.set_cons_zero, List.set_cons_succ]; done) | (simp only [putAll, Act.put, List.setIfInBounds_toArray, List.set_cons_zero, List.set_cons_succ]; rfl)) (hJ14 (gb324) _ ⟨hHeld, (zL BK311.out), (zL BK324.out), GW324.out, GE324.out, NB311_324.out, NB324_311.out, (by repeat (first | (with_reducible first | exact HB.out | apply below_alloc | apply pw_below_drewN | apply below_drew1 | refine below_set ?_ GE311.out | refine below_set ?_ GE324.out) | exact HB.out))⟩)
                  ·skip
                   rintro gb324 w28 ⟨hS_, h0_, h1_, h2_, h3_, h4_, h5_, h6_⟩
                   have n0_ : Aside0 (w28.heap[gb311]? = some (.cells #[.int .i64 x312000_2, .int .i64 x312001_2, .int .i64 x312002_2, .int .i64 x312003_2] 28 (0, 0))) := ⟨h0_⟩
                   have n1_ : Aside0 (w28.heap[gb324]? = some (.cells #[.int .i64 0, .int .i64 0] 25 (0, 0))) := ⟨h1_⟩
                   have n2_ : Aside0 (w.heap.size ≤ gb324) := ⟨h2_⟩
                   have n3_ : Aside0 (w.heap.size ≤ gb324) := ⟨h3_⟩
                   have n4_ : Aside0 (gb311 ≠ gb324) := ⟨h4_⟩
                   have n5_ : Aside0 (gb324 ≠ gb311) := ⟨h5_⟩
                   have n6_ : Aside0 (Below w.heap.size w w28) := ⟨h6_⟩
                   clear BK311
                   clear HB
                   clear h0_ h1_ h2_ h3_ h4_ h5_ h6_
                   have BK311 := n0_
                   have BK324 := n1_
                   have GW324 := n2_
                   have GE324 := n3_
                   have NB311_324 := n4_
                   have NB324_311 := n5_
                   have HB := n6_
                   clear n0_ n1_ n2_ n3_ n4_ n5_ n6_
                   have hHeld : w28.cell? ⟨gb311, 0, none⟩ = some (.int .i64 x312000_2) ∧ w28.cell? ⟨gb311, 1, none⟩ = some (.int .i64 x312001_2) ∧ w28.cell? ⟨gb311, 2, none⟩ = some (.int .i64 x312002_2) ∧ w28.cell? ⟨gb311, 3, none⟩ = some (.int .i64 x312003_2) ∧ w28.cell? (ad316.add (x11_2).toNat) = some (.int .i64 (rd l0 x11_2)) := hS_
                   refine norm_ (a' := ?_) ?_ ?_
                   rotate_left
                   ·simp only [putAll, Act.put, List.setIfInBounds_toArray, List.set_cons_zero, List.set_cons_succ]
                    rfl
                   refine two_ (i := 9) (j := 13) (Ni := some 66) (Nj := some 12) #[true, true, true, true, true, true, true, true, true, true, false, false, false, false, true, false, false] #[true, true, true, true, true, true, true, true, true, false, false, false, false, true, true, false, false] rfl rfl rfl rfl (two_of HT_.out (by kernel_rfl)) (by decide) (by decide) (fun K hK => ?_) (fun K hK => ?_)
                   ·skip
                    refine goes_ Try.func9 (by kernel_rfl) rfl #[.agg #[.int .i64 x312000_2, .int .i64 x312001_2, .int .i64 x312002_2, .int .i64 x312003_2], .agg #[.int .i64 x8_2, .int .i64 (rd l0 x11_2)], .int .i64 a1, .int .i64 a2] (by rfl) rfl rfl zM ?_
                    with_reducible refine (prefetch_Read.calls kj13 x312000_2 x312001_2 x312002_2 x312003_2 x8_2 (rd l0 x11_2) a1 a2 t317 t318 t319 t320 t321 t322 _ A22.out).mono ?_
                    rintro e w29 ⟨rfl, hb⟩
                    refine ⟨_, rfl, ?_⟩
                    have n0_ := Aside0.mk (blk_below (g := gb311) (o := .cells #[.int .i64 x312000_2, .int .i64 x312001_2, .int .i64 x312002_2, .int .i64 x312003_2] 28 (0, 0)) (zL BK311.out) hb)
                    have n1_ := Aside0.mk (blk_below (g := gb324) (o := .cells #[.int .i64 0, .int .i64 0] 25 (0, 0)) (zL BK324.out) hb)
                    have n2_ := Aside0.mk (below_step (by repeat (first | (with_reducible first | exact HB.out | apply below_alloc | apply pw_below_drewN | apply below_drew1 | refine below_set ?_ GE311.out | refine below_set ?_ GE324.out) | exact HB.out)) hb)
                    clear BK311
                    clear BK324
                    clear HB
                    have BK311 := n0_
                    have BK324 := n1_
                    have HB := n2_
                    clear n0_ n1_ n2_
                    (try clear hb)
                    (try clear hb2)
                    (try clear hk)
                    (try clear hi)
                    refine hK.out _ _ ⟨(blk_cell BK311.out 0).trans rfl, (blk_cell BK311.out 1).trans rfl, (blk_cell BK311.out 2).trans rfl, (blk_cell BK311.out 3).trans rfl, ((HB.out.cell (World.block_lt_of_cell? w _ hw316_0)).trans hw316_0)⟩ (fun hHeld => ?_)
                    clear hK K
                    refine norm_ (a' := ?_) ?_ ?_
                    rotate_left
                    ·show Act.put _ (some 66) _ = _
                     simp only [Act.put, List.setIfInBounds_toArray, List.set_cons_zero, List.set_cons_succ, i64_w, i32_w]
                     rfl
                    refine pure_ (i := 10) (N := some 56) (v := ?_) (a' := ?_) #[true, true, true, true, true, true, true, true, true, true, true, false, false, false, true, false, false] rfl rfl (any_of HT_.out (by kernel_rfl)) (fun _ _ _ h => h) (Or.inl ⟨by rfl, ?_⟩) ?_ ?_
                    rotate_left
                    ·intro w'
                     go_simp
                     with_reducible rfl
                    rotate_left
                    ·simp only [Act.put, List.setIfInBounds_toArray, List.set_cons_zero, List.set_cons_succ, i64_w, i32_w]
                     rfl
                    refine pure_ (i := 11) (N := some 67) (v := ?_) (a' := ?_) #[true, true, true, true, true, true, true, true, true, true, true, true, false, false, true, false, false] rfl rfl (any_of HT_.out (by kernel_rfl)) (fun _ _ _ h => h) (Or.inl ⟨by rfl, ?_⟩) ?_ ?_
                    rotate_left
                    ·intro w'
                     go_simp
                     with_reducible rfl
                    rotate_left
                    ·simp only [Act.put, List.setIfInBounds_toArray, List.set_cons_zero, List.set_cons_succ, i64_w, i32_w]
                     rfl
                    refine pure_ (i := 12) (N := some 68) (v := ?_) (a' := ?_) #[true, true, true, true, true, true, true, true, true, true, true, true, true, false, true, false, false] rfl rfl (any_of HT_.out (by kernel_rfl)) (fun _ _ _ h => h) (Or.inl ⟨by rfl, ?_⟩) ?_ ?_
                    rotate_left
                    ·intro w'
                     go_simp
                     with_reducible rfl
                    rotate_left
                    ·simp only [Act.put, List.setIfInBounds_toArray, List.set_cons_zero, List.set_cons_succ, i64_w, i32_w]
                     rfl
                    exact norm_ (by first | (simp only [putAll, Act.put, List.setIfInBounds_toArray, List.set_cons_zero, List.set_cons_succ]; done) | (simp only [putAll, Act.put, List.setIfInBounds_toArray, List.set_cons_zero, List.set_cons_succ]; rfl)) (hJ9_14 (gb324) _ ⟨hHeld, (zL BK311.out), (zL BK324.out), GW324.out, GE324.out, NB311_324.out, NB324_311.out, (by repeat (first | (with_reducible first | exact HB.out | apply below_alloc | apply pw_below_drewN | apply below_drew1 | refine below_set ?_ GE311.out | refine below_set ?_ GE324.out) | exact HB.out))⟩)
                   ·skip
                    refine box_step ?hg (N := 12) ?hd (cs := #[.int .i64 0, .int .i64 0, .int .i64 0, .int .i64 0]) (t := 28) ?hr ?_; (case hd => rfl); (case hg => rfl); (case hr => first | (go_simp; done) | (go_simp; rfl))
                    intro gb323 hg w29 hbox hb
                    have n0_ := Aside0.mk (blk_below (g := gb311) (o := .cells #[.int .i64 x312000_2, .int .i64 x312001_2, .int .i64 x312002_2, .int .i64 x312003_2] 28 (0, 0)) (zL BK311.out) hb)
                    have n1_ := Aside0.mk (blk_below (g := gb324) (o := .cells #[.int .i64 0, .int .i64 0] 25 (0, 0)) (zL BK324.out) hb)
                    have n2_ := Aside0.mk (below_step (by repeat (first | (with_reducible first | exact HB.out | apply below_alloc | apply pw_below_drewN | apply below_drew1 | refine below_set ?_ GE311.out | refine below_set ?_ GE324.out) | exact HB.out)) hb)
                    have n3_ := Aside0.mk (hbox)
                    have n4_ := Aside0.mk ((by rw [hg]; exact (below_size (by repeat (first | (with_reducible first | exact HB.out | apply below_alloc | apply pw_below_drewN | apply below_drew1 | refine below_set ?_ GE311.out | refine below_set ?_ GE324.out) | exact HB.out))) : w.heap.size ≤ gb323))
                    have n5_ := Aside0.mk ((by rw [hg]; exact (below_size (by repeat (first | (with_reducible first | exact HB.out | apply below_alloc | apply pw_below_drewN | apply below_drew1 | refine below_set ?_ GE311.out | refine below_set ?_ GE324.out) | exact HB.out))) : w.heap.size ≤ gb323))
                    have n6_ := Aside0.mk ((by rw [hg]; exact Nat.ne_of_lt (blk_lt (g := gb311) (o := .cells #[.int .i64 x312000_2, .int .i64 x312001_2, .int .i64 x312002_2, .int .i64 x312003_2] 28 (0, 0)) (zL BK311.out)) : gb311 ≠ gb323))
                    have n7_ := Aside0.mk ((by rw [hg]; exact Nat.ne_of_gt (blk_lt (g := gb311) (o := .cells #[.int .i64 x312000_2, .int .i64 x312001_2, .int .i64 x312002_2, .int .i64 x312003_2] 28 (0, 0)) (zL BK311.out)) : gb323 ≠ gb311))
                    have n8_ := Aside0.mk ((by rw [hg]; exact Nat.ne_of_lt (blk_lt (g := gb324) (o := .cells #[.int .i64 0, .int .i64 0] 25 (0, 0)) (zL BK324.out)) : gb324 ≠ gb323))
                    have n9_ := Aside0.mk ((by rw [hg]; exact Nat.ne_of_gt (blk_lt (g := gb324) (o := .cells #[.int .i64 0, .int .i64 0] 25 (0, 0)) (zL BK324.out)) : gb323 ≠ gb324))
                    clear BK311
                    clear BK324
                    clear HB
                    have BK311 := n0_
                    have BK324 := n1_
                    have HB := n2_
                    have BK323 := n3_
                    have GW323 := n4_
                    have GE323 := n5_
                    have NB311_323 := n6_
                    have NB323_311 := n7_
                    have NB324_323 := n8_
                    have NB323_324 := n9_
                    clear n0_ n1_ n2_ n3_ n4_ n5_ n6_ n7_ n8_ n9_
                    clear hb hbox hg
                    refine hK.out _ _ ⟨(blk_cell BK311.out 0).trans rfl, (blk_cell BK311.out 1).trans rfl, (blk_cell BK311.out 2).trans rfl, (blk_cell BK311.out 3).trans rfl, ((HB.out.cell (World.block_lt_of_cell? w _ hw316_0)).trans hw316_0)⟩ (fun hHeld => ?_)
                    clear hK K
                    refine norm_ (a' := ?_) ?_ ?_
                    rotate_left
                    ·show Act.put _ (some 12) _ = _
                     simp only [Act.put, List.setIfInBounds_toArray, List.set_cons_zero, List.set_cons_succ, i64_w, i32_w]
                     rfl
                    exact norm_ (by first | (simp only [putAll, Act.put, List.setIfInBounds_toArray, List.set_cons_zero, List.set_cons_succ]; done) | (simp only [putAll, Act.put, List.setIfInBounds_toArray, List.set_cons_zero, List.set_cons_succ]; rfl)) (hJ13_14 (gb323, gb324) _ ⟨hHeld, (zL BK311.out), (zL BK323.out), (zL BK324.out), GW323.out, GE323.out, NB311_323.out, NB323_311.out, NB324_323.out, NB323_324.out, GW324.out, GE324.out, NB311_324.out, NB324_311.out, (by repeat (first | (with_reducible first | exact HB.out | apply below_alloc | apply pw_below_drewN | apply below_drew1 | refine below_set ?_ GE311.out | refine below_set ?_ GE324.out | refine below_set ?_ GE323.out) | exact HB.out))⟩)
                 ·skip
                  rintro gb323 w28 ⟨hS_, h0_, h1_, h2_, h3_, h4_, h5_, h6_⟩
                  have n0_ : Aside0 (w28.heap[gb311]? = some (.cells #[.int .i64 x312000_2, .int .i64 x312001_2, .int .i64 x312002_2, .int .i64 x312003_2] 28 (0, 0))) := ⟨h0_⟩
                  have n1_ : Aside0 (w28.heap[gb323]? = some (.cells #[.int .i64 0, .int .i64 0, .int .i64 0, .int .i64 0] 28 (0, 0))) := ⟨h1_⟩
                  have n2_ : Aside0 (w.heap.size ≤ gb323) := ⟨h2_⟩
                  have n3_ : Aside0 (w.heap.size ≤ gb323) := ⟨h3_⟩
                  have n4_ : Aside0 (gb311 ≠ gb323) := ⟨h4_⟩
                  have n5_ : Aside0 (gb323 ≠ gb311) := ⟨h5_⟩
                  have n6_ : Aside0 (Below w.heap.size w w28) := ⟨h6_⟩
                  clear BK311
                  clear HB
                  clear h0_ h1_ h2_ h3_ h4_ h5_ h6_
                  have BK311 := n0_
                  have BK323 := n1_
                  have GW323 := n2_
                  have GE323 := n3_
                  have NB311_323 := n4_
                  have NB323_311 := n5_
                  have HB := n6_
                  clear n0_ n1_ n2_ n3_ n4_ n5_ n6_
                  have hHeld : w28.cell? ⟨gb311, 0, none⟩ = some (.int .i64 x312000_2) ∧ w28.cell? ⟨gb311, 1, none⟩ = some (.int .i64 x312001_2) ∧ w28.cell? ⟨gb311, 2, none⟩ = some (.int .i64 x312002_2) ∧ w28.cell? ⟨gb311, 3, none⟩ = some (.int .i64 x312003_2) ∧ w28.cell? (ad316.add (x11_2).toNat) = some (.int .i64 (rd l0 x11_2)) := hS_
                  refine norm_ (a' := ?_) ?_ ?_
                  rotate_left
                  ·simp only [putAll, Act.put, List.setIfInBounds_toArray, List.set_cons_zero, List.set_cons_succ]
                   rfl
                  refine two_ (i := 9) (j := 14) (Ni := some 66) (Nj := some 13) #[true, true, true, true, true, true, true, true, true, true, false, false, false, true, false, false, false] #[true, true, true, true, true, true, true, true, true, false, false, false, false, true, true, false, false] rfl rfl rfl rfl (two_of HT_.out (by kernel_rfl)) (by decide) (by decide) (fun K hK => ?_) (fun K hK => ?_)
                  ·skip
                   refine goes_ Try.func9 (by kernel_rfl) rfl #[.agg #[.int .i64 x312000_2, .int .i64 x312001_2, .int .i64 x312002_2, .int .i64 x312003_2], .agg #[.int .i64 x8_2, .int .i64 (rd l0 x11_2)], .int .i64 a1, .int .i64 a2] (by rfl) rfl rfl zM ?_
                   with_reducible refine (prefetch_Read.calls kj13 x312000_2 x312001_2 x312002_2 x312003_2 x8_2 (rd l0 x11_2) a1 a2 t317 t318 t319 t320 t321 t322 _ A22.out).mono ?_
                   rintro e w29 ⟨rfl, hb⟩
                   refine ⟨_, rfl, ?_⟩
                   have n0_ := Aside0.mk (blk_below (g := gb311) (o := .cells #[.int .i64 x312000_2, .int .i64 x312001_2, .int .i64 x312002_2, .int .i64 x312003_2] 28 (0, 0)) (zL BK311.out) hb)
                   have n1_ := Aside0.mk (blk_below (g := gb323) (o := .cells #[.int .i64 0, .int .i64 0, .int .i64 0, .int .i64 0] 28 (0, 0)) (zL BK323.out) hb)
                   have n2_ := Aside0.mk (below_step (by repeat (first | (with_reducible first | exact HB.out | apply below_alloc | apply pw_below_drewN | apply below_drew1 | refine below_set ?_ GE311.out | refine below_set ?_ GE323.out) | exact HB.out)) hb)
                   clear BK311
                   clear BK323
                   clear HB
                   have BK311 := n0_
                   have BK323 := n1_
                   have HB := n2_
                   clear n0_ n1_ n2_
                   (try clear hb)
                   (try clear hb2)
                   (try clear hk)
                   (try clear hi)
                   refine hK.out _ _ ⟨(blk_cell BK311.out 0).trans rfl, (blk_cell BK311.out 1).trans rfl, (blk_cell BK311.out 2).trans rfl, (blk_cell BK311.out 3).trans rfl, ((HB.out.cell (World.block_lt_of_cell? w _ hw316_0)).trans hw316_0)⟩ (fun hHeld => ?_)
                   clear hK K
                   refine norm_ (a' := ?_) ?_ ?_
                   rotate_left
                   ·show Act.put _ (some 66) _ = _
                    simp only [Act.put, List.setIfInBounds_toArray, List.set_cons_zero, List.set_cons_succ, i64_w, i32_w]
                    rfl
                   refine pure_ (i := 10) (N := some 56) (v := ?_) (a' := ?_) #[true, true, true, true, true, true, true, true, true, true, true, false, false, true, false, false, false] rfl rfl (any_of HT_.out (by kernel_rfl)) (fun _ _ _ h => h) (Or.inl ⟨by rfl, ?_⟩) ?_ ?_
                   rotate_left
                   ·intro w'
                    go_simp
                    with_reducible rfl
                   rotate_left
                   ·simp only [Act.put, List.setIfInBounds_toArray, List.set_cons_zero, List.set_cons_succ, i64_w, i32_w]
                    rfl
                   refine pure_ (i := 11) (N := some 67) (v := ?_) (a' := ?_) #[true, true, true, true, true, true, true, true, true, true, true, true, false, true, false, false, false] rfl rfl (any_of HT_.out (by kernel_rfl)) (fun _ _ _ h => h) (Or.inl ⟨by rfl, ?_⟩) ?_ ?_
                   rotate_left
                   ·intro w'
                    go_simp
                    with_reducible rfl
                   rotate_left
                   ·simp only [Act.put, List.setIfInBounds_toArray, List.set_cons_zero, List.set_cons_succ, i64_w, i32_w]
                    rfl
                   refine pure_ (i := 12) (N := some 68) (v := ?_) (a' := ?_) #[true, true, true, true, true, true, true, true, true, true, true, true, true, true, false, false, false] rfl rfl (any_of HT_.out (by kernel_rfl)) (fun _ _ _ h => h) (Or.inl ⟨by rfl, ?_⟩) ?_ ?_
                   rotate_left
                   ·intro w'
                    go_simp
                    with_reducible rfl
                   rotate_left
                   ·simp only [Act.put, List.setIfInBounds_toArray, List.set_cons_zero, List.set_cons_succ, i64_w, i32_w]
                    rfl
                   exact norm_ (by first | (simp only [putAll, Act.put, List.setIfInBounds_toArray, List.set_cons_zero, List.set_cons_succ]; done) | (simp only [putAll, Act.put, List.setIfInBounds_toArray, List.set_cons_zero, List.set_cons_succ]; rfl)) (hJ9_13 (gb323) _ ⟨hHeld, (zL BK311.out), (zL BK323.out), GW323.out, GE323.out, NB311_323.out, NB323_311.out, (by repeat (first | (with_reducible first | exact HB.out | apply below_alloc | apply pw_below_drewN | apply below_drew1 | refine below_set ?_ GE311.out | refine below_set ?_ GE323.out) | exact HB.out))⟩)
                  ·skip
                   refine box_step ?hg (N := 13) ?hd (cs := #[.int .i64 0, .int .i64 0]) (t := 25) ?hr ?_; (case hd => rfl); (case hg => rfl); (case hr => first | (go_simp; done) | (go_simp; rfl))
                   intro gb324 hg w29 hbox hb
                   have n0_ := Aside0.mk (blk_below (g := gb311) (o := .cells #[.int .i64 x312000_2, .int .i64 x312001_2, .int .i64 x312002_2, .int .i64 x312003_2] 28 (0, 0)) (zL BK311.out) hb)
                   have n1_ := Aside0.mk (blk_below (g := gb323) (o := .cells #[.int .i64 0, .int .i64 0, .int .i64 0, .int .i64 0] 28 (0, 0)) (zL BK323.out) hb)
                   have n2_ := Aside0.mk (below_step (by repeat (first | (with_reducible first | exact HB.out | apply below_alloc | apply pw_below_drewN | apply below_drew1 | refine below_set ?_ GE311.out | refine below_set ?_ GE323.out) | exact HB.out)) hb)
                   have n3_ := Aside0.mk (hbox)
                   have n4_ := Aside0.mk ((by rw [hg]; exact (below_size (by repeat (first | (with_reducible first | exact HB.out | apply below_alloc | apply pw_below_drewN | apply below_drew1 | refine below_set ?_ GE311.out | refine below_set ?_ GE323.out) | exact HB.out))) : w.heap.size ≤ gb324))
                   have n5_ := Aside0.mk ((by rw [hg]; exact (below_size (by repeat (first | (with_reducible first | exact HB.out | apply below_alloc | apply pw_below_drewN | apply below_drew1 | refine below_set ?_ GE311.out | refine below_set ?_ GE323.out) | exact HB.out))) : w.heap.size ≤ gb324))
                   have n6_ := Aside0.mk ((by rw [hg]; exact Nat.ne_of_lt (blk_lt (g := gb311) (o := .cells #[.int .i64 x312000_2, .int .i64 x312001_2, .int .i64 x312002_2, .int .i64 x312003_2] 28 (0, 0)) (zL BK311.out)) : gb311 ≠ gb324))
                   have n7_ := Aside0.mk ((by rw [hg]; exact Nat.ne_of_gt (blk_lt (g := gb311) (o := .cells #[.int .i64 x312000_2, .int .i64 x312001_2, .int .i64 x312002_2, .int .i64 x312003_2] 28 (0, 0)) (zL BK311.out)) : gb324 ≠ gb311))
                   have n8_ := Aside0.mk ((by rw [hg]; exact Nat.ne_of_lt (blk_lt (g := gb323) (o := .cells #[.int .i64 0, .int .i64 0, .int .i64 0, .int .i64 0] 28 (0, 0)) (zL BK323.out)) : gb323 ≠ gb324))
                   have n9_ := Aside0.mk ((by rw [hg]; exact Nat.ne_of_gt (blk_lt (g := gb323) (o := .cells #[.int .i64 0, .int .i64 0, .int .i64 0, .int .i64 0] 28 (0, 0)) (zL BK323.out)) : gb324 ≠ gb323))
                   clear BK311
                   clear BK323
                   clear HB
                   have BK311 := n0_
                   have BK323 := n1_
                   have HB := n2_
                   have BK324 := n3_
                   have GW324 := n4_
                   have GE324 := n5_
                   have NB311_324 := n6_
                   have NB324_311 := n7_
                   have NB323_324 := n8_
                   have NB324_323 := n9_
                   clear n0_ n1_ n2_ n3_ n4_ n5_ n6_ n7_ n8_ n9_
                   clear hb hbox hg
                   refine hK.out _ _ ⟨(blk_cell BK311.out 0).trans rfl, (blk_cell BK311.out 1).trans rfl, (blk_cell BK311.out 2).trans rfl, (blk_cell BK311.out 3).trans rfl, ((HB.out.cell (World.block_lt_of_cell? w _ hw316_0)).trans hw316_0)⟩ (fun hHeld => ?_)
                   clear hK K
                   refine norm_ (a' := ?_) ?_ ?_
                   rotate_left
                   ·show Act.put _ (some 13) _ = _
                    simp only [Act.put, List.setIfInBounds_toArray, List.set_cons_zero, List.set_cons_succ, i64_w, i32_w]
                    rfl
                   exact norm_ (by first | (simp only [putAll, Act.put, List.setIfInBounds_toArray, List.set_cons_zero, List.set_cons_succ]; done) | (simp only [putAll, Act.put, List.setIfInBounds_toArray, List.set_cons_zero, List.set_cons_succ]; rfl)) (hJ13_14 (gb323, gb324) _ ⟨hHeld, (zL BK311.out), (zL BK323.out), (zL BK324.out), GW323.out, GE323.out, NB311_323.out, NB323_311.out, NB324_323.out, NB323_324.out, GW324.out, GE324.out, NB311_324.out, NB324_311.out, (by repeat (first | (with_reducible first | exact HB.out | apply below_alloc | apply pw_below_drewN | apply below_drew1 | refine below_set ?_ GE311.out | refine below_set ?_ GE323.out | refine below_set ?_ GE324.out) | exact HB.out))⟩)
                ·skip
                 rintro _ w28 ⟨hS_, h0_, h1_⟩
                 have n0_ : Aside0 (w28.heap[gb311]? = some (.cells #[.int .i64 x312000_2, .int .i64 x312001_2, .int .i64 x312002_2, .int .i64 x312003_2] 28 (0, 0))) := ⟨h0_⟩
                 have n1_ : Aside0 (Below w.heap.size w w28) := ⟨h1_⟩
                 clear BK311
                 clear HB
                 clear h0_ h1_
                 have BK311 := n0_
                 have HB := n1_
                 clear n0_ n1_
                 have hHeld : w28.cell? ⟨gb311, 0, none⟩ = some (.int .i64 x312000_2) ∧ w28.cell? ⟨gb311, 1, none⟩ = some (.int .i64 x312001_2) ∧ w28.cell? ⟨gb311, 2, none⟩ = some (.int .i64 x312002_2) ∧ w28.cell? ⟨gb311, 3, none⟩ = some (.int .i64 x312003_2) ∧ w28.cell? (ad316.add (x11_2).toNat) = some (.int .i64 (rd l0 x11_2)) := hS_
                 refine norm_ (a' := ?_) ?_ ?_
                 rotate_left
                 ·simp only [putAll, Act.put, List.setIfInBounds_toArray, List.set_cons_zero, List.set_cons_succ]
                  rfl
                 refine two_ (i := 13) (j := 14) (Ni := some 12) (Nj := some 13) #[true, true, true, true, true, true, true, true, true, true, true, true, true, true, false, false, false] #[true, true, true, true, true, true, true, true, true, true, true, true, true, false, true, false, false] rfl rfl rfl rfl (two_of HT_.out (by kernel_rfl)) (by decide) (by decide) (fun K hK => ?_) (fun K hK => ?_)
                 ·skip
                  refine box_step ?hg (N := 12) ?hd (cs := #[.int .i64 0, .int .i64 0, .int .i64 0, .int .i64 0]) (t := 28) ?hr ?_; (case hd => rfl); (case hg => rfl); (case hr => first | (go_simp; done) | (go_simp; rfl))
                  intro gb323 hg w29 hbox hb
                  have n0_ := Aside0.mk (blk_below (g := gb311) (o := .cells #[.int .i64 x312000_2, .int .i64 x312001_2, .int .i64 x312002_2, .int .i64 x312003_2] 28 (0, 0)) (zL BK311.out) hb)
                  have n1_ := Aside0.mk (below_step (zG HB GE311) hb)
                  have n2_ := Aside0.mk (hbox)
                  have n3_ := Aside0.mk ((by rw [hg]; exact (below_size (zG HB GE311)) : w.heap.size ≤ gb323))
                  have n4_ := Aside0.mk ((by rw [hg]; exact (below_size (zG HB GE311)) : w.heap.size ≤ gb323))
                  have n5_ := Aside0.mk ((by rw [hg]; exact Nat.ne_of_lt (blk_lt (g := gb311) (o := .cells #[.int .i64 x312000_2, .int .i64 x312001_2, .int .i64 x312002_2, .int .i64 x312003_2] 28 (0, 0)) (zL BK311.out)) : gb311 ≠ gb323))
                  have n6_ := Aside0.mk ((by rw [hg]; exact Nat.ne_of_gt (blk_lt (g := gb311) (o := .cells #[.int .i64 x312000_2, .int .i64 x312001_2, .int .i64 x312002_2, .int .i64 x312003_2] 28 (0, 0)) (zL BK311.out)) : gb323 ≠ gb311))
                  clear BK311
                  clear HB
                  have BK311 := n0_
                  have HB := n1_
                  have BK323 := n2_
                  have GW323 := n3_
                  have GE323 := n4_
                  have NB311_323 := n5_
                  have NB323_311 := n6_
                  clear n0_ n1_ n2_ n3_ n4_ n5_ n6_
                  clear hb hbox hg
                  refine hK.out _ _ ⟨(blk_cell BK311.out 0).trans rfl, (blk_cell BK311.out 1).trans rfl, (blk_cell BK311.out 2).trans rfl, (blk_cell BK311.out 3).trans rfl, ((HB.out.cell (World.block_lt_of_cell? w _ hw316_0)).trans hw316_0)⟩ (fun hHeld => ?_)
                  clear hK K
                  refine norm_ (a' := ?_) ?_ ?_
                  rotate_left
                  ·show Act.put _ (some 12) _ = _
                   simp only [Act.put, List.setIfInBounds_toArray, List.set_cons_zero, List.set_cons_succ, i64_w, i32_w]
                   rfl
                  exact norm_ (by first | (simp only [putAll, Act.put, List.setIfInBounds_toArray, List.set_cons_zero, List.set_cons_succ]; done) | (simp only [putAll, Act.put, List.setIfInBounds_toArray, List.set_cons_zero, List.set_cons_succ]; rfl)) (hJ9_13 (gb323) _ ⟨hHeld, (zL BK311.out), (zL BK323.out), GW323.out, GE323.out, NB311_323.out, NB323_311.out, (by repeat (first | (with_reducible first | exact HB.out | apply below_alloc | apply pw_below_drewN | apply below_drew1 | refine below_set ?_ GE311.out | refine below_set ?_ GE323.out) | exact HB.out))⟩)
                 ·skip
                  refine box_step ?hg (N := 13) ?hd (cs := #[.int .i64 0, .int .i64 0]) (t := 25) ?hr ?_; (case hd => rfl); (case hg => rfl); (case hr => first | (go_simp; done) | (go_simp; rfl))
                  intro gb324 hg w29 hbox hb
                  have n0_ := Aside0.mk (blk_below (g := gb311) (o := .cells #[.int .i64 x312000_2, .int .i64 x312001_2, .int .i64 x312002_2, .int .i64 x312003_2] 28 (0, 0)) (zL BK311.out) hb)
                  have n1_ := Aside0.mk (below_step (zG HB GE311) hb)
                  have n2_ := Aside0.mk (hbox)
                  have n3_ := Aside0.mk ((by rw [hg]; exact (below_size (zG HB GE311)) : w.heap.size ≤ gb324))
                  have n4_ := Aside0.mk ((by rw [hg]; exact (below_size (zG HB GE311)) : w.heap.size ≤ gb324))
                  have n5_ := Aside0.mk ((by rw [hg]; exact Nat.ne_of_lt (blk_lt (g := gb311) (o := .cells #[.int .i64 x312000_2, .int .i64 x312001_2, .int .i64 x312002_2, .int .i64 x312003_2] 28 (0, 0)) (zL BK311.out)) : gb311 ≠ gb324))
                  have n6_ := Aside0.mk ((by rw [hg]; exact Nat.ne_of_gt (blk_lt (g := gb311) (o := .cells #[.int .i64 x312000_2, .int .i64 x312001_2, .int .i64 x312002_2, .int .i64 x312003_2] 28 (0, 0)) (zL BK311.out)) : gb324 ≠ gb311))
                  clear BK311
                  clear HB
                  have BK311 := n0_
                  have HB := n1_
                  have BK324 := n2_
                  have GW324 := n3_
                  have GE324 := n4_
                  have NB311_324 := n5_
                  have NB324_311 := n6_
                  clear n0_ n1_ n2_ n3_ n4_ n5_ n6_
                  clear hb hbox hg
                  refine hK.out _ _ ⟨(blk_cell BK311.out 0).trans rfl, (blk_cell BK311.out 1).trans rfl, (blk_cell BK311.out 2).trans rfl, (blk_cell BK311.out 3).trans rfl, ((HB.out.cell (World.block_lt_of_cell? w _ hw316_0)).trans hw316_0)⟩ (fun hHeld => ?_)
                  clear hK K
                  refine norm_ (a' := ?_) ?_ ?_
                  rotate_left
                  ·show Act.put _ (some 13) _ = _
                   simp only [Act.put, List.setIfInBounds_toArray, List.set_cons_zero, List.set_cons_succ, i64_w, i32_w]
                   rfl
                  exact norm_ (by first | (simp only [putAll, Act.put, List.setIfInBounds_toArray, List.set_cons_zero, List.set_cons_succ]; done) | (simp only [putAll, Act.put, List.setIfInBounds_toArray, List.set_cons_zero, List.set_cons_succ]; rfl)) (hJ9_14 (gb324) _ ⟨hHeld, (zL BK311.out), (zL BK324.out), GW324.out, GE324.out, NB311_324.out, NB324_311.out, (by repeat (first | (with_reducible first | exact HB.out | apply below_alloc | apply pw_below_drewN | apply below_drew1 | refine below_set ?_ GE311.out | refine below_set ?_ GE324.out) | exact HB.out))⟩)
               ·skip
                rintro ⟨gb323, gb324⟩ w29 ⟨hS_, h0_, h1_, h2_, h3_, h4_, h5_, h6_, h7_, h8_, h9_, h10_, h11_, h12_, h13_⟩
                have n0_ : Aside0 (w29.heap[gb311]? = some (.cells #[.int .i64 x312000_2, .int .i64 x312001_2, .int .i64 x312002_2, .int .i64 x312003_2] 28 (0, 0))) := ⟨h0_⟩
                have n1_ : Aside0 (w29.heap[gb323]? = some (.cells #[.int .i64 0, .int .i64 0, .int .i64 0, .int .i64 0] 28 (0, 0))) := ⟨h1_⟩
                have n2_ : Aside0 (w29.heap[gb324]? = some (.cells #[.int .i64 0, .int .i64 0] 25 (0, 0))) := ⟨h2_⟩
                have n3_ : Aside0 (w.heap.size ≤ gb323) := ⟨h3_⟩
                have n4_ : Aside0 (w.heap.size ≤ gb323) := ⟨h4_⟩
                have n5_ : Aside0 (gb311 ≠ gb323) := ⟨h5_⟩
                have n6_ : Aside0 (gb323 ≠ gb311) := ⟨h6_⟩
                have n7_ : Aside0 (gb324 ≠ gb323) := ⟨h7_⟩
                have n8_ : Aside0 (gb323 ≠ gb324) := ⟨h8_⟩
                have n9_ : Aside0 (w.heap.size ≤ gb324) := ⟨h9_⟩
                have n10_ : Aside0 (w.heap.size ≤ gb324) := ⟨h10_⟩
                have n11_ : Aside0 (gb311 ≠ gb324) := ⟨h11_⟩
                have n12_ : Aside0 (gb324 ≠ gb311) := ⟨h12_⟩
                have n13_ : Aside0 (Below w.heap.size w w29) := ⟨h13_⟩
                clear BK311
                clear HB
                clear h0_ h1_ h2_ h3_ h4_ h5_ h6_ h7_ h8_ h9_ h10_ h11_ h12_ h13_
                have BK311 := n0_
                have BK323 := n1_
                have BK324 := n2_
                have GW323 := n3_
                have GE323 := n4_
                have NB311_323 := n5_
                have NB323_311 := n6_
                have NB324_323 := n7_
                have NB323_324 := n8_
                have GW324 := n9_
                have GE324 := n10_
                have NB311_324 := n11_
                have NB324_311 := n12_
                have HB := n13_
                clear n0_ n1_ n2_ n3_ n4_ n5_ n6_ n7_ n8_ n9_ n10_ n11_ n12_ n13_
                have hHeld : w29.cell? ⟨gb311, 0, none⟩ = some (.int .i64 x312000_2) ∧ w29.cell? ⟨gb311, 1, none⟩ = some (.int .i64 x312001_2) ∧ w29.cell? ⟨gb311, 2, none⟩ = some (.int .i64 x312002_2) ∧ w29.cell? ⟨gb311, 3, none⟩ = some (.int .i64 x312003_2) ∧ w29.cell? (ad316.add (x11_2).toNat) = some (.int .i64 (rd l0 x11_2)) := hS_
                refine norm_ (a' := ?_) ?_ ?_
                rotate_left
                ·simp only [putAll, Act.put, List.setIfInBounds_toArray, List.set_cons_zero, List.set_cons_succ]
                 rfl
                refine one_ (i := 9) (N := some 66) #[true, true, true, true, true, true, true, true, true, true, false, false, false, true, true, false, false] rfl rfl (one_of HT_.out (by kernel_rfl)) (by decide) (fun K hK => ?_)
                refine goes_ Try.func9 (by kernel_rfl) rfl #[.agg #[.int .i64 x312000_2, .int .i64 x312001_2, .int .i64 x312002_2, .int .i64 x312003_2], .agg #[.int .i64 x8_2, .int .i64 (rd l0 x11_2)], .int .i64 a1, .int .i64 a2] (by rfl) rfl rfl zM ?_
                with_reducible refine (prefetch_Read.calls kj13 x312000_2 x312001_2 x312002_2 x312003_2 x8_2 (rd l0 x11_2) a1 a2 t317 t318 t319 t320 t321 t322 _ A22.out).mono ?_
                rintro e w30 ⟨rfl, hb⟩
                refine ⟨_, rfl, ?_⟩
                have n0_ := Aside0.mk (blk_below (g := gb311) (o := .cells #[.int .i64 x312000_2, .int .i64 x312001_2, .int .i64 x312002_2, .int .i64 x312003_2] 28 (0, 0)) (zL BK311.out) hb)
                have n1_ := Aside0.mk (blk_below (g := gb323) (o := .cells #[.int .i64 0, .int .i64 0, .int .i64 0, .int .i64 0] 28 (0, 0)) (zL BK323.out) hb)
                have n2_ := Aside0.mk (blk_below (g := gb324) (o := .cells #[.int .i64 0, .int .i64 0] 25 (0, 0)) (zL BK324.out) hb)
                have n3_ := Aside0.mk (below_step (by repeat (first | (with_reducible first | exact HB.out | apply below_alloc | apply pw_below_drewN | apply below_drew1 | refine below_set ?_ GE311.out | refine below_set ?_ GE323.out | refine below_set ?_ GE324.out) | exact HB.out)) hb)
                clear BK311
                clear BK323
                clear BK324
                clear HB
                have BK311 := n0_
                have BK323 := n1_
                have BK324 := n2_
                have HB := n3_
                clear n0_ n1_ n2_ n3_
                (try clear hb)
                (try clear hb2)
                (try clear hk)
                (try clear hi)
                refine hK.out _ _ ⟨(blk_cell BK311.out 0).trans rfl, (blk_cell BK311.out 1).trans rfl, (blk_cell BK311.out 2).trans rfl, (blk_cell BK311.out 3).trans rfl, ((HB.out.cell (World.block_lt_of_cell? w _ hw316_0)).trans hw316_0)⟩ (fun hHeld => ?_)
                clear hK K
                refine norm_ (a' := ?_) ?_ ?_
                rotate_left
                ·show Act.put _ (some 66) _ = _
                 simp only [Act.put, List.setIfInBounds_toArray, List.set_cons_zero, List.set_cons_succ, i64_w, i32_w]
                 rfl
                refine pure_ (i := 10) (N := some 56) (v := ?_) (a' := ?_) #[true, true, true, true, true, true, true, true, true, true, true, false, false, true, true, false, false] rfl rfl (any_of HT_.out (by kernel_rfl)) (fun _ _ _ h => h) (Or.inl ⟨by rfl, ?_⟩) ?_ ?_
                rotate_left
                ·intro w'
                 go_simp
                 with_reducible rfl
                rotate_left
                ·simp only [Act.put, List.setIfInBounds_toArray, List.set_cons_zero, List.set_cons_succ, i64_w, i32_w]
                 rfl
                refine pure_ (i := 11) (N := some 67) (v := ?_) (a' := ?_) #[true, true, true, true, true, true, true, true, true, true, true, true, false, true, true, false, false] rfl rfl (any_of HT_.out (by kernel_rfl)) (fun _ _ _ h => h) (Or.inl ⟨by rfl, ?_⟩) ?_ ?_
                rotate_left
                ·intro w'
                 go_simp
                 with_reducible rfl
                rotate_left
                ·simp only [Act.put, List.setIfInBounds_toArray, List.set_cons_zero, List.set_cons_succ, i64_w, i32_w]
                 rfl
                refine pure_ (i := 12) (N := some 68) (v := ?_) (a' := ?_) #[true, true, true, true, true, true, true, true, true, true, true, true, true, true, true, false, false] rfl rfl (any_of HT_.out (by kernel_rfl)) (fun _ _ _ h => h) (Or.inl ⟨by rfl, ?_⟩) ?_ ?_
                rotate_left
                ·intro w'
                 go_simp
                 with_reducible rfl
                rotate_left
                ·simp only [Act.put, List.setIfInBounds_toArray, List.set_cons_zero, List.set_cons_succ, i64_w, i32_w]
                 rfl
                exact norm_ (by first | (simp only [putAll, Act.put, List.setIfInBounds_toArray, List.set_cons_zero, List.set_cons_succ]; done) | (simp only [putAll, Act.put, List.setIfInBounds_toArray, List.set_cons_zero, List.set_cons_succ]; rfl)) (hJ9_13_14 (gb323, gb324) _ ⟨hHeld, (zL BK311.out), (zL BK323.out), (zL BK324.out), GW323.out, GE323.out, NB311_323.out, NB323_311.out, NB324_323.out, NB323_324.out, GW324.out, GE324.out, NB311_324.out, NB324_311.out, (by repeat (first | (with_reducible first | exact HB.out | apply below_alloc | apply pw_below_drewN | apply below_drew1 | refine below_set ?_ GE311.out | refine below_set ?_ GE323.out | refine below_set ?_ GE324.out) | exact HB.out))⟩)
              ·skip
               rintro gb324 w29 ⟨hS_, h0_, h1_, h2_, h3_, h4_, h5_, h6_⟩
               have n0_ : Aside0 (w29.heap[gb311]? = some (.cells #[.int .i64 x312000_2, .int .i64 x312001_2, .int .i64 x312002_2, .int .i64 x312003_2] 28 (0, 0))) := ⟨h0_⟩
               have n1_ : Aside0 (w29.heap[gb324]? = some (.cells #[.int .i64 0, .int .i64 0] 25 (0, 0))) := ⟨h1_⟩
               have n2_ : Aside0 (w.heap.size ≤ gb324) := ⟨h2_⟩
               have n3_ : Aside0 (w.heap.size ≤ gb324) := ⟨h3_⟩
               have n4_ : Aside0 (gb311 ≠ gb324) := ⟨h4_⟩
               have n5_ : Aside0 (gb324 ≠ gb311) := ⟨h5_⟩
               have n6_ : Aside0 (Below w.heap.size w w29) := ⟨h6_⟩
               clear BK311
               clear HB
               clear h0_ h1_ h2_ h3_ h4_ h5_ h6_
               have BK311 := n0_
               have BK324 := n1_
               have GW324 := n2_
               have GE324 := n3_
               have NB311_324 := n4_
               have NB324_311 := n5_
               have HB := n6_
               clear n0_ n1_ n2_ n3_ n4_ n5_ n6_
               have hHeld : w29.cell? ⟨gb311, 0, none⟩ = some (.int .i64 x312000_2) ∧ w29.cell? ⟨gb311, 1, none⟩ = some (.int .i64 x312001_2) ∧ w29.cell? ⟨gb311, 2, none⟩ = some (.int .i64 x312002_2) ∧ w29.cell? ⟨gb311, 3, none⟩ = some (.int .i64 x312003_2) ∧ w29.cell? (ad316.add (x11_2).toNat) = some (.int .i64 (rd l0 x11_2)) := hS_
               refine norm_ (a' := ?_) ?_ ?_
               rotate_left
               ·simp only [putAll, Act.put, List.setIfInBounds_toArray, List.set_cons_zero, List.set_cons_succ]
                rfl
               refine one_ (i := 13) (N := some 12) #[true, true, true, true, true, true, true, true, true, true, true, true, true, true, true, false, false] rfl rfl (one_of HT_.out (by kernel_rfl)) (by decide) (fun K hK => ?_)
               refine box_step ?hg (N := 12) ?hd (cs := #[.int .i64 0, .int .i64 0, .int .i64 0, .int .i64 0]) (t := 28) ?hr ?_; (case hd => rfl); (case hg => rfl); (case hr => first | (go_simp; done) | (go_simp; rfl))
               intro gb323 hg w30 hbox hb
               have n0_ := Aside0.mk (blk_below (g := gb311) (o := .cells #[.int .i64 x312000_2, .int .i64 x312001_2, .int .i64 x312002_2, .int .i64 x312003_2] 28 (0, 0)) (zL BK311.out) hb)
               have n1_ := Aside0.mk (blk_below (g := gb324) (o := .cells #[.int .i64 0, .int .i64 0] 25 (0, 0)) (zL BK324.out) hb)
               have n2_ := Aside0.mk (below_step (by repeat (first | (with_reducible first | exact HB.out | apply below_alloc | apply pw_below_drewN | apply below_drew1 | refine below_set ?_ GE311.out | refine below_set ?_ GE324.out) | exact HB.out)) hb)
               have n3_ := Aside0.mk (hbox)
               have n4_ := Aside0.mk ((by rw [hg]; exact (below_size (by repeat (first | (with_reducible first | exact HB.out | apply below_alloc | apply pw_below_drewN | apply below_drew1 | refine below_set ?_ GE311.out | refine below_set ?_ GE324.out) | exact HB.out))) : w.heap.size ≤ gb323))
               have n5_ := Aside0.mk ((by rw [hg]; exact (below_size (by repeat (first | (with_reducible first | exact HB.out | apply below_alloc | apply pw_below_drewN | apply below_drew1 | refine below_set ?_ GE311.out | refine below_set ?_ GE324.out) | exact HB.out))) : w.heap.size ≤ gb323))
               have n6_ := Aside0.mk ((by rw [hg]; exact Nat.ne_of_lt (blk_lt (g := gb311) (o := .cells #[.int .i64 x312000_2, .int .i64 x312001_2, .int .i64 x312002_2, .int .i64 x312003_2] 28 (0, 0)) (zL BK311.out)) : gb311 ≠ gb323))
               have n7_ := Aside0.mk ((by rw [hg]; exact Nat.ne_of_gt (blk_lt (g := gb311) (o := .cells #[.int .i64 x312000_2, .int .i64 x312001_2, .int .i64 x312002_2, .int .i64 x312003_2] 28 (0, 0)) (zL BK311.out)) : gb323 ≠ gb311))
               have n8_ := Aside0.mk ((by rw [hg]; exact Nat.ne_of_lt (blk_lt (g := gb324) (o := .cells #[.int .i64 0, .int .i64 0] 25 (0, 0)) (zL BK324.out)) : gb324 ≠ gb323))
               have n9_ := Aside0.mk ((by rw [hg]; exact Nat.ne_of_gt (blk_lt (g := gb324) (o := .cells #[.int .i64 0, .int .i64 0] 25 (0, 0)) (zL BK324.out)) : gb323 ≠ gb324))
               clear BK311
               clear BK324
               clear HB
               have BK311 := n0_
               have BK324 := n1_
               have HB := n2_
               have BK323 := n3_
               have GW323 := n4_
               have GE323 := n5_
               have NB311_323 := n6_
               have NB323_311 := n7_
               have NB324_323 := n8_
               have NB323_324 := n9_
               clear n0_ n1_ n2_ n3_ n4_ n5_ n6_ n7_ n8_ n9_
               clear hb hbox hg
               refine hK.out _ _ ⟨(blk_cell BK311.out 0).trans rfl, (blk_cell BK311.out 1).trans rfl, (blk_cell BK311.out 2).trans rfl, (blk_cell BK311.out 3).trans rfl, ((HB.out.cell (World.block_lt_of_cell? w _ hw316_0)).trans hw316_0)⟩ (fun hHeld => ?_)
               clear hK K
               refine norm_ (a' := ?_) ?_ ?_
               rotate_left
               ·show Act.put _ (some 12) _ = _
                simp only [Act.put, List.setIfInBounds_toArray, List.set_cons_zero, List.set_cons_succ, i64_w, i32_w]
                rfl
               exact norm_ (by first | (simp only [putAll, Act.put, List.setIfInBounds_toArray, List.set_cons_zero, List.set_cons_succ]; done) | (simp only [putAll, Act.put, List.setIfInBounds_toArray, List.set_cons_zero, List.set_cons_succ]; rfl)) (hJ9_13_14 (gb323, gb324) _ ⟨hHeld, (zL BK311.out), (zL BK323.out), (zL BK324.out), GW323.out, GE323.out, NB311_323.out, NB323_311.out, NB324_323.out, NB323_324.out, GW324.out, GE324.out, NB311_324.out, NB324_311.out, (by repeat (first | (with_reducible first | exact HB.out | apply below_alloc | apply pw_below_drewN | apply below_drew1 | refine below_set ?_ GE311.out | refine below_set ?_ GE324.out | refine below_set ?_ GE323.out) | exact HB.out))⟩)
             ·skip
              rintro gb323 w29 ⟨hS_, h0_, h1_, h2_, h3_, h4_, h5_, h6_⟩
              have n0_ : Aside0 (w29.heap[gb311]? = some (.cells #[.int .i64 x312000_2, .int .i64 x312001_2, .int .i64 x312002_2, .int .i64 x312003_2] 28 (0, 0))) := ⟨h0_⟩
              have n1_ : Aside0 (w29.heap[gb323]? = some (.cells #[.int .i64 0, .int .i64 0, .int .i64 0, .int .i64 0] 28 (0, 0))) := ⟨h1_⟩
              have n2_ : Aside0 (w.heap.size ≤ gb323) := ⟨h2_⟩
              have n3_ : Aside0 (w.heap.size ≤ gb323) := ⟨h3_⟩
              have n4_ : Aside0 (gb311 ≠ gb323) := ⟨h4_⟩
              have n5_ : Aside0 (gb323 ≠ gb311) := ⟨h5_⟩
              have n6_ : Aside0 (Below w.heap.size w w29) := ⟨h6_⟩
              clear BK311
              clear HB
              clear h0_ h1_ h2_ h3_ h4_ h5_ h6_
              have BK311 := n0_
              have BK323 := n1_
              have GW323 := n2_
              have GE323 := n3_
              have NB311_323 := n4_
              have NB323_311 := n5_
              have HB := n6_
              clear n0_ n1_ n2_ n3_ n4_ n5_ n6_
              have hHeld : w29.cell? ⟨gb311, 0, none⟩ = some (.int .i64 x312000_2) ∧ w29.cell? ⟨gb311, 1, none⟩ = some (.int .i64 x312001_2) ∧ w29.cell? ⟨gb311, 2, none⟩ = some (.int .i64 x312002_2) ∧ w29.cell? ⟨gb311, 3, none⟩ = some (.int .i64 x312003_2) ∧ w29.cell? (ad316.add (x11_2).toNat) = some (.int .i64 (rd l0 x11_2)) := hS_
              refine norm_ (a' := ?_) ?_ ?_
              rotate_left
              ·simp only [putAll, Act.put, List.setIfInBounds_toArray, List.set_cons_zero, List.set_cons_succ]
               rfl
              refine one_ (i := 14) (N := some 13) #[true, true, true, true, true, true, true, true, true, true, true, true, true, true, true, false, false] rfl rfl (one_of HT_.out (by kernel_rfl)) (by decide) (fun K hK => ?_)
              refine box_step ?hg (N := 13) ?hd (cs := #[.int .i64 0, .int .i64 0]) (t := 25) ?hr ?_; (case hd => rfl); (case hg => rfl); (case hr => first | (go_simp; done) | (go_simp; rfl))
              intro gb324 hg w30 hbox hb
              have n0_ := Aside0.mk (blk_below (g := gb311) (o := .cells #[.int .i64 x312000_2, .int .i64 x312001_2, .int .i64 x312002_2, .int .i64 x312003_2] 28 (0, 0)) (zL BK311.out) hb)
              have n1_ := Aside0.mk (blk_below (g := gb323) (o := .cells #[.int .i64 0, .int .i64 0, .int .i64 0, .int .i64 0] 28 (0, 0)) (zL BK323.out) hb)
              have n2_ := Aside0.mk (below_step (by repeat (first | (with_reducible first | exact HB.out | apply below_alloc | apply pw_below_drewN | apply below_drew1 | refine below_set ?_ GE311.out | refine below_set ?_ GE323.out) | exact HB.out)) hb)
              have n3_ := Aside0.mk (hbox)
              have n4_ := Aside0.mk ((by rw [hg]; exact (below_size (by repeat (first | (with_reducible first | exact HB.out | apply below_alloc | apply pw_below_drewN | apply below_drew1 | refine below_set ?_ GE311.out | refine below_set ?_ GE323.out) | exact HB.out))) : w.heap.size ≤ gb324))
              have n5_ := Aside0.mk ((by rw [hg]; exact (below_size (by repeat (first | (with_reducible first | exact HB.out | apply below_alloc | apply pw_below_drewN | apply below_drew1 | refine below_set ?_ GE311.out | refine below_set ?_ GE323.out) | exact HB.out))) : w.heap.size ≤ gb324))
              have n6_ := Aside0.mk ((by rw [hg]; exact Nat.ne_of_lt (blk_lt (g := gb311) (o := .cells #[.int .i64 x312000_2, .int .i64 x312001_2, .int .i64 x312002_2, .int .i64 x312003_2] 28 (0, 0)) (zL BK311.out)) : gb311 ≠ gb324))
              have n7_ := Aside0.mk ((by rw [hg]; exact Nat.ne_of_gt (blk_lt (g := gb311) (o := .cells #[.int .i64 x312000_2, .int .i64 x312001_2, .int .i64 x312002_2, .int .i64 x312003_2] 28 (0, 0)) (zL BK311.out)) : gb324 ≠ gb311))
              have n8_ := Aside0.mk ((by rw [hg]; exact Nat.ne_of_lt (blk_lt (g := gb323) (o := .cells #[.int .i64 0, .int .i64 0, .int .i64 0, .int .i64 0] 28 (0, 0)) (zL BK323.out)) : gb323 ≠ gb324))
              have n9_ := Aside0.mk ((by rw [hg]; exact Nat.ne_of_gt (blk_lt (g := gb323) (o := .cells #[.int .i64 0, .int .i64 0, .int .i64 0, .int .i64 0] 28 (0, 0)) (zL BK323.out)) : gb324 ≠ gb323))
              clear BK311
              clear BK323
              clear HB
              have BK311 := n0_
              have BK323 := n1_
              have HB := n2_
              have BK324 := n3_
              have GW324 := n4_
              have GE324 := n5_
              have NB311_324 := n6_
              have NB324_311 := n7_
              have NB323_324 := n8_
              have NB324_323 := n9_
              clear n0_ n1_ n2_ n3_ n4_ n5_ n6_ n7_ n8_ n9_
              clear hb hbox hg
              refine hK.out _ _ ⟨(blk_cell BK311.out 0).trans rfl, (blk_cell BK311.out 1).trans rfl, (blk_cell BK311.out 2).trans rfl, (blk_cell BK311.out 3).trans rfl, ((HB.out.cell (World.block_lt_of_cell? w _ hw316_0)).trans hw316_0)⟩ (fun hHeld => ?_)
              clear hK K
              refine norm_ (a' := ?_) ?_ ?_
              rotate_left
              ·show Act.put _ (some 13) _ = _
               simp only [Act.put, List.setIfInBounds_toArray, List.set_cons_zero, List.set_cons_succ, i64_w, i32_w]
               rfl
              exact norm_ (by first | (simp only [putAll, Act.put, List.setIfInBounds_toArray, List.set_cons_zero, List.set_cons_succ]; done) | (simp only [putAll, Act.put, List.setIfInBounds_toArray, List.set_cons_zero, List.set_cons_succ]; rfl)) (hJ9_13_14 (gb323, gb324) _ ⟨hHeld, (zL BK311.out), (zL BK323.out), (zL BK324.out), GW323.out, GE323.out, NB311_323.out, NB323_311.out, NB324_323.out, NB323_324.out, GW324.out, GE324.out, NB311_324.out, NB324_311.out, (by repeat (first | (with_reducible first | exact HB.out | apply below_alloc | apply pw_below_drewN | apply below_drew1 | refine below_set ?_ GE311.out | refine below_set ?_ GE323.out | refine below_set ?_ GE324.out) | exact HB.out))⟩)
            rintro ⟨gb323, gb324⟩ w30 ⟨hS_, h0_, h1_, h2_, h3_, h4_, h5_, h6_, h7_, h8_, h9_, h10_, h11_, h12_, h13_⟩
            have n0_ : Aside0 (w30.heap[gb311]? = some (.cells #[.int .i64 x312000_2, .int .i64 x312001_2, .int .i64 x312002_2, .int .i64 x312003_2] 28 (0, 0))) := ⟨h0_⟩
            have n1_ : Aside0 (w30.heap[gb323]? = some (.cells #[.int .i64 0, .int .i64 0, .int .i64 0, .int .i64 0] 28 (0, 0))) := ⟨h1_⟩
            have n2_ : Aside0 (w30.heap[gb324]? = some (.cells #[.int .i64 0, .int .i64 0] 25 (0, 0))) := ⟨h2_⟩
            have n3_ : Aside0 (w.heap.size ≤ gb323) := ⟨h3_⟩
            have n4_ : Aside0 (w.heap.size ≤ gb323) := ⟨h4_⟩
            have n5_ : Aside0 (gb311 ≠ gb323) := ⟨h5_⟩
            have n6_ : Aside0 (gb323 ≠ gb311) := ⟨h6_⟩
            have n7_ : Aside0 (gb324 ≠ gb323) := ⟨h7_⟩
            have n8_ : Aside0 (gb323 ≠ gb324) := ⟨h8_⟩
            have n9_ : Aside0 (w.heap.size ≤ gb324) := ⟨h9_⟩
            have n10_ : Aside0 (w.heap.size ≤ gb324) := ⟨h10_⟩
            have n11_ : Aside0 (gb311 ≠ gb324) := ⟨h11_⟩
            have n12_ : Aside0 (gb324 ≠ gb311) := ⟨h12_⟩
            have n13_ : Aside0 (Below w.heap.size w w30) := ⟨h13_⟩
            clear BK311
            clear HB
            clear h0_ h1_ h2_ h3_ h4_ h5_ h6_ h7_ h8_ h9_ h10_ h11_ h12_ h13_
            have BK311 := n0_
            have BK323 := n1_
            have BK324 := n2_
            have GW323 := n3_
            have GE323 := n4_
            have NB311_323 := n5_
            have NB323_311 := n6_
            have NB324_323 := n7_
            have NB323_324 := n8_
            have GW324 := n9_
            have GE324 := n10_
            have NB311_324 := n11_
            have NB324_311 := n12_
            have HB := n13_
            clear n0_ n1_ n2_ n3_ n4_ n5_ n6_ n7_ n8_ n9_ n10_ n11_ n12_ n13_
            have hHeld : w30.cell? ⟨gb311, 0, none⟩ = some (.int .i64 x312000_2) ∧ w30.cell? ⟨gb311, 1, none⟩ = some (.int .i64 x312001_2) ∧ w30.cell? ⟨gb311, 2, none⟩ = some (.int .i64 x312002_2) ∧ w30.cell? ⟨gb311, 3, none⟩ = some (.int .i64 x312003_2) ∧ w30.cell? (ad316.add (x11_2).toNat) = some (.int .i64 (rd l0 x11_2)) := hS_
            refine norm_ (a' := ?_) ?_ ?_
            rotate_left
            ·simp only [putAll, Act.put, List.setIfInBounds_toArray, List.set_cons_zero, List.set_cons_succ]
             rfl
            refine one_ (i := 15) (N := none) #[true, true, true, true, true, true, true, true, true, true, true, true, true, true, true, true, false] rfl rfl (one_of HT_.out (by kernel_rfl)) (by decide) (fun K hK => ?_)
            have hs31 : w30.cell? ⟨gb323, 0, none⟩ = some (.int .i64 0) := (blk_cell BK323.out 0).trans rfl
            have hfs31 := blk_frozen BK323.out 0
            have hns31_0 := NB311_323.out
            have hns31_2 := NB324_323.out
            have hms31_0 := NB323_311.out
            have hms31_2 := NB323_324.out
            have hs32 : w30.cell? ⟨gb323, 1, none⟩ = some (.int .i64 0) := (blk_cell BK323.out 1).trans rfl
            have hfs32 := blk_frozen BK323.out 1
            have hns32_0 := NB311_323.out
            have hns32_2 := NB324_323.out
            have hms32_0 := NB323_311.out
            have hms32_2 := NB323_324.out
            have hs33 : w30.cell? ⟨gb323, 2, none⟩ = some (.int .i64 0) := (blk_cell BK323.out 2).trans rfl
            have hfs33 := blk_frozen BK323.out 2
            have hns33_0 := NB311_323.out
            have hns33_2 := NB324_323.out
            have hms33_0 := NB323_311.out
            have hms33_2 := NB323_324.out
            have hs34 : w30.cell? ⟨gb323, 3, none⟩ = some (.int .i64 0) := (blk_cell BK323.out 3).trans rfl
            have hfs34 := blk_frozen BK323.out 3
            have hns34_0 := NB311_323.out
            have hns34_2 := NB324_323.out
            have hms34_0 := NB323_311.out
            have hms34_2 := NB323_324.out
            refine skip_ (w1 := ?_) (by rfl) rfl ?_ ?_
            rotate_left
            ·go_simp
             rfl
            refine hK.out _ _ ⟨((cell_far (p := ⟨gb323, _, none⟩) NB311_323.out _).trans (((cell_far (p := ⟨gb323, _, none⟩) NB311_323.out _).trans (((cell_far (p := ⟨gb323, _, none⟩) NB311_323.out _).trans (((cell_far (p := ⟨gb323, _, none⟩) NB311_323.out _).trans (hHeld.1)))))))), ((cell_far (p := ⟨gb323, _, none⟩) NB311_323.out _).trans (((cell_far (p := ⟨gb323, _, none⟩) NB311_323.out _).trans (((cell_far (p := ⟨gb323, _, none⟩) NB311_323.out _).trans (((cell_far (p := ⟨gb323, _, none⟩) NB311_323.out _).trans (hHeld.2.1)))))))), ((cell_far (p := ⟨gb323, _, none⟩) NB311_323.out _).trans (((cell_far (p := ⟨gb323, _, none⟩) NB311_323.out _).trans (((cell_far (p := ⟨gb323, _, none⟩) NB311_323.out _).trans (((cell_far (p := ⟨gb323, _, none⟩) NB311_323.out _).trans (hHeld.2.2.1)))))))), ((cell_far (p := ⟨gb323, _, none⟩) NB311_323.out _).trans (((cell_far (p := ⟨gb323, _, none⟩) NB311_323.out _).trans (((cell_far (p := ⟨gb323, _, none⟩) NB311_323.out _).trans (((cell_far (p := ⟨gb323, _, none⟩) NB311_323.out _).trans (hHeld.2.2.2.1)))))))), ((cell_far (p := ⟨gb323, _, none⟩) (by first | exact Nat.ne_of_lt (Nat.lt_of_lt_of_le (by have := World.block_lt_of_cell? _ _ hw316_0; first | rwa [add_block] at this | exact this) GW323.out) | (rw [add_block]; exact Nat.ne_of_lt (Nat.lt_of_lt_of_le (by have := World.block_lt_of_cell? _ _ hw316_0; first | rwa [add_block] at this | exact this) GW323.out)) | (show (Addr.add _ _).block ≠ _; rw [add_block]; exact Nat.ne_of_lt (Nat.lt_of_lt_of_le (by have := World.block_lt_of_cell? _ _ hw316_0; first | rwa [add_block] at this | exact this) GW323.out)) | (dsimp only; exact Nat.ne_of_lt (Nat.lt_of_lt_of_le (by have := World.block_lt_of_cell? _ _ hw316_0; first | rwa [add_block] at this | exact this) GW323.out))) _).trans (((cell_far (p := ⟨gb323, _, none⟩) (by first | exact Nat.ne_of_lt (Nat.lt_of_lt_of_le (by have := World.block_lt_of_cell? _ _ hw316_0; first | rwa [add_block] at this | exact this) GW323.out) | (rw [add_block]; exact Nat.ne_of_lt (Nat.lt_of_lt_of_le (by have := World.block_lt_of_cell? _ _ hw316_0; first | rwa [add_block] at this | exact this) GW323.out)) | (show (Addr.add _ _).block ≠ _; rw [add_block]; exact Nat.ne_of_lt (Nat.lt_of_lt_of_le (by have := World.block_lt_of_cell? _ _ hw316_0; first | rwa [add_block] at this | exact this) GW323.out)) | (dsimp only; exact Nat.ne_of_lt (Nat.lt_of_lt_of_le (by have := World.block_lt_of_cell? _ _ hw316_0; first | rwa [add_block] at this | exact this) GW323.out))) _).trans (((cell_far (p := ⟨gb323, _, none⟩) (by first | exact Nat.ne_of_lt (Nat.lt_of_lt_of_le (by have := World.block_lt_of_cell? _ _ hw316_0; first | rwa [add_block] at this | exact this) GW323.out) | (rw [add_block]; exact Nat.ne_of_lt (Nat.lt_of_lt_of_le (by have := World.block_lt_of_cell? _ _ hw316_0; first | rwa [add_block] at this | exact this) GW323.out)) | (show (Addr.add _ _).block ≠ _; rw [add_block]; exact Nat.ne_of_lt (Nat.lt_of_lt_of_le (by have := World.block_lt_of_cell? _ _ hw316_0; first | rwa [add_block] at this | exact this) GW323.out)) | (dsimp only; exact Nat.ne_of_lt (Nat.lt_of_lt_of_le (by have := World.block_lt_of_cell? _ _ hw316_0; first | rwa [add_block] at this | exact this) GW323.out))) _).trans (((cell_far (p := ⟨gb323, _, none⟩) (by first | exact Nat.ne_of_lt (Nat.lt_of_lt_of_le (by have := World.block_lt_of_cell? _ _ hw316_0; first | rwa [add_block] at this | exact this) GW323.out) | (rw [add_block]; exact Nat.ne_of_lt (Nat.lt_of_lt_of_le (by have := World.block_lt_of_cell? _ _ hw316_0; first | rwa [add_block] at this | exact this) GW323.out)) | (show (Addr.add _ _).block ≠ _; rw [add_block]; exact Nat.ne_of_lt (Nat.lt_of_lt_of_le (by have := World.block_lt_of_cell? _ _ hw316_0; first | rwa [add_block] at this | exact this) GW323.out)) | (dsimp only; exact Nat.ne_of_lt (Nat.lt_of_lt_of_le (by have := World.block_lt_of_cell? _ _ hw316_0; first | rwa [add_block] at this | exact this) GW323.out))) _).trans (hHeld.2.2.2.2))))))))⟩ (fun hHeld => ?_)
            clear hK K
            refine one_ (i := 16) (N := none) #[true, true, true, true, true, true, true, true, true, true, true, true, true, true, true, true, true] rfl rfl (one_of HT_.out (by kernel_rfl)) (by decide) (fun K hK => ?_)
            have hs35 : w30.cell? ⟨gb324, 0, none⟩ = some (.int .i64 0) := (blk_cell BK324.out 0).trans rfl
            have hfs35 := blk_frozen BK324.out 0
            have hns35_0 := NB311_324.out
            have hns35_1 := NB323_324.out
            have hms35_0 := NB324_311.out
            have hms35_1 := NB324_323.out
            have hs36 : w30.cell? ⟨gb324, 1, none⟩ = some (.int .i64 0) := (blk_cell BK324.out 1).trans rfl
            have hfs36 := blk_frozen BK324.out 1
            have hns36_0 := NB311_324.out
            have hns36_1 := NB323_324.out
            have hms36_0 := NB324_311.out
            have hms36_1 := NB324_323.out
            refine skip_ (w1 := ?_) (by rfl) rfl ?_ ?_
            rotate_left
            ·go_simp
             rfl
            refine hK.out _ _ ⟨((cell_far (p := ⟨gb324, _, none⟩) NB311_324.out _).trans (((cell_far (p := ⟨gb324, _, none⟩) NB311_324.out _).trans (hHeld.1)))), ((cell_far (p := ⟨gb324, _, none⟩) NB311_324.out _).trans (((cell_far (p := ⟨gb324, _, none⟩) NB311_324.out _).trans (hHeld.2.1)))), ((cell_far (p := ⟨gb324, _, none⟩) NB311_324.out _).trans (((cell_far (p := ⟨gb324, _, none⟩) NB311_324.out _).trans (hHeld.2.2.1)))), ((cell_far (p := ⟨gb324, _, none⟩) NB311_324.out _).trans (((cell_far (p := ⟨gb324, _, none⟩) NB311_324.out _).trans (hHeld.2.2.2.1)))), ((cell_far (p := ⟨gb324, _, none⟩) (by first | exact Nat.ne_of_lt (Nat.lt_of_lt_of_le (by have := World.block_lt_of_cell? _ _ hw316_0; first | rwa [add_block] at this | exact this) GW324.out) | (rw [add_block]; exact Nat.ne_of_lt (Nat.lt_of_lt_of_le (by have := World.block_lt_of_cell? _ _ hw316_0; first | rwa [add_block] at this | exact this) GW324.out)) | (show (Addr.add _ _).block ≠ _; rw [add_block]; exact Nat.ne_of_lt (Nat.lt_of_lt_of_le (by have := World.block_lt_of_cell? _ _ hw316_0; first | rwa [add_block] at this | exact this) GW324.out)) | (dsimp only; exact Nat.ne_of_lt (Nat.lt_of_lt_of_le (by have := World.block_lt_of_cell? _ _ hw316_0; first | rwa [add_block] at this | exact this) GW324.out))) _).trans (((cell_far (p := ⟨gb324, _, none⟩) (by first | exact Nat.ne_of_lt (Nat.lt_of_lt_of_le (by have := World.block_lt_of_cell? _ _ hw316_0; first | rwa [add_block] at this | exact this) GW324.out) | (rw [add_block]; exact Nat.ne_of_lt (Nat.lt_of_lt_of_le (by have := World.block_lt_of_cell? _ _ hw316_0; first | rwa [add_block] at this | exact this) GW324.out)) | (show (Addr.add _ _).block ≠ _; rw [add_block]; exact Nat.ne_of_lt (Nat.lt_of_lt_of_le (by have := World.block_lt_of_cell? _ _ hw316_0; first | rwa [add_block] at this | exact this) GW324.out)) | (dsimp only; exact Nat.ne_of_lt (Nat.lt_of_lt_of_le (by have := World.block_lt_of_cell? _ _ hw316_0; first | rwa [add_block] at this | exact this) GW324.out))) _).trans (hHeld.2.2.2.2))))⟩ (fun hHeld => ?_)
            clear hK K
            refine done_ (done_of HT_.out (by kernel_rfl)) ?_
            have p325 : 0 ≤ (x11_2 : Int) := of_decide_eq_true zA
            have q325 : x11_2 < (l0.length : Int) := of_decide_eq_true zA
            obtain ⟨ad325, e325, hx325_0⟩ := Kd.at_int HR0.out x11_2 p325 q325
            obtain rfl : ad316 = ad325 := (by injection e325)
            have hn325_0 : ad316.block ≠ gb323 := Nat.ne_of_lt (Nat.lt_of_lt_of_le (by have := World.block_lt_of_cell? _ _ hx325_0; first | rwa [add_block] at this | exact this) GW323.out)
            have hn325_1 : ad316.block ≠ gb323 := Nat.ne_of_lt (Nat.lt_of_lt_of_le (by have := World.block_lt_of_cell? _ _ hx325_0; first | rwa [add_block] at this | exact this) GW323.out)
            have hn325_2 : ad316.block ≠ gb323 := Nat.ne_of_lt (Nat.lt_of_lt_of_le (by have := World.block_lt_of_cell? _ _ hx325_0; first | rwa [add_block] at this | exact this) GW323.out)
            have hn325_3 : ad316.block ≠ gb323 := Nat.ne_of_lt (Nat.lt_of_lt_of_le (by have := World.block_lt_of_cell? _ _ hx325_0; first | rwa [add_block] at this | exact this) GW323.out)
            have hn325_4 : ad316.block ≠ gb324 := Nat.ne_of_lt (Nat.lt_of_lt_of_le (by have := World.block_lt_of_cell? _ _ hx325_0; first | rwa [add_block] at this | exact this) GW324.out)
            have hn325_5 : ad316.block ≠ gb324 := Nat.ne_of_lt (Nat.lt_of_lt_of_le (by have := World.block_lt_of_cell? _ _ hx325_0; first | rwa [add_block] at this | exact this) GW324.out)
            replace hx325_0 := (HB.out.cell (World.block_lt_of_cell? w _ hx325_0)).trans hx325_0
            replace hx325_0 := (cell_far (p := ⟨gb323, 0, none⟩) (by first | (rw [add_block]; exact hn325_0) | (show (Addr.add _ _).block ≠ _; rw [add_block]; exact hn325_0) | exact hn325_0) (.int .i64 t317)).trans hx325_0
            replace hx325_0 := (cell_far (p := ⟨gb323, 1, none⟩) (by first | (rw [add_block]; exact hn325_1) | (show (Addr.add _ _).block ≠ _; rw [add_block]; exact hn325_1) | exact hn325_1) (.int .i64 t318)).trans hx325_0
            replace hx325_0 := (cell_far (p := ⟨gb323, 2, none⟩) (by first | (rw [add_block]; exact hn325_2) | (show (Addr.add _ _).block ≠ _; rw [add_block]; exact hn325_2) | exact hn325_2) (.int .i64 t319)).trans hx325_0
            replace hx325_0 := (cell_far (p := ⟨gb323, 3, none⟩) (by first | (rw [add_block]; exact hn325_3) | (show (Addr.add _ _).block ≠ _; rw [add_block]; exact hn325_3) | exact hn325_3) (.int .i64 t320)).trans hx325_0
            replace hx325_0 := (cell_far (p := ⟨gb324, 0, none⟩) (by first | (rw [add_block]; exact hn325_4) | (show (Addr.add _ _).block ≠ _; rw [add_block]; exact hn325_4) | exact hn325_4) (.int .i64 t321)).trans hx325_0
            replace hx325_0 := (cell_far (p := ⟨gb324, 1, none⟩) (by first | (rw [add_block]; exact hn325_5) | (show (Addr.add _ _).block ≠ _; rw [add_block]; exact hn325_5) | exact hn325_5) (.int .i64 t322)).trans hx325_0
            clear hn325_0
            clear hn325_1
            clear hn325_2
            clear hn325_3
            clear hn325_4
            clear hn325_5
            replace p325 := eq_true p325
            replace q325 := eq_true q325
            go_upto_region 13 with (fail)
            go_cut [96] (fun v96 wc => ∃ (kq : Nat) (x96_24 : Bool), v96 = .bool x96_24 ∧ Aside0 (tapearchivelaw36_PrefetchAhead.j3 kq l0 a1 a2 (wrap64 (x8_2 + (rd l0 x11_2))) x9_2 ji24 x11_2 x96_24 t317 t318 t319 t320 t321 t322 = some r) ∧ Aside0 (kq ≤ kj13) ∧ Aside0 (wc.heap[gb311]? = some (.cells #[.int .i64 x312000_2, .int .i64 x312001_2, .int .i64 x312002_2, .int .i64 x312003_2] 28 (0, 0))) ∧ Aside0 (wc.heap[gb323]? = some (.cells #[.int .i64 t317, .int .i64 t318, .int .i64 t319, .int .i64 t320] 28 (0, 0))) ∧ Aside0 (wc.heap[gb324]? = some (.cells #[.int .i64 t321, .int .i64 t322] 25 (0, 0))) ∧ Aside0 (Below w.heap.size w wc))
            case first =>
             have H := HC25.out
             clear HC25
             by_cases c37 : t317 = (wrap64 (x8_2 + (rd l0 x11_2)))
             ·rw [if_pos c37] at H
              have c37b0 : (t317 == (wrap64 (x8_2 + (rd l0 x11_2)))) = true := beq_iff_eq.mpr c37
              have c37b1 : (t317 != (wrap64 (x8_2 + (rd l0 x11_2)))) = false := bne_eq_false_iff_eq.mpr c37
              clear c37
              (first | rw [c37b0] | (simp only [i64_w, i32_w]; rw [c37b0]) | skip)
              by_cases c38 : t318 = (ji24)
              ·rw [if_pos c38] at H
               have c38b0 : (t318 == (ji24)) = true := beq_iff_eq.mpr c38
               have c38b1 : (t318 != (ji24)) = false := bne_eq_false_iff_eq.mpr c38
               clear c38
               have H' := Aside0.mk H
               clear H
               have hnb39 := NB323_311.out
               have hnc39 := NB311_323.out
               have hnb40 := NB323_324.out
               have hnc40 := NB324_323.out
               have hcz41_0 : w30.cell? ⟨gb323, 0, none⟩ = some (.int .i64 0) := (blk_cell BK323.out 0).trans rfl
               have hcz41_1 : w30.cell? ⟨gb323, 1, none⟩ = some (.int .i64 0) := (blk_cell BK323.out 1).trans rfl
               have hcz41_2 : w30.cell? ⟨gb323, 2, none⟩ = some (.int .i64 0) := (blk_cell BK323.out 2).trans rfl
               have hcz41_3 : w30.cell? ⟨gb323, 3, none⟩ = some (.int .i64 0) := (blk_cell BK323.out 3).trans rfl
               have hfz41_0 := blk_frozen BK323.out 0
               have hfz41_1 := blk_frozen BK323.out 1
               have hfz41_2 := blk_frozen BK323.out 2
               have hfz41_3 := blk_frozen BK323.out 3
               go_wp2
               go_meet
               case rel => exact ⟨_, ((t320 != (wrap64 (x11_2 + 1)))), zS, H', ⟨by have := HJ3.out; have := HK2.out; have := HJ13.out; first | omega | exact Nat.le_refl _⟩, ⟨by (with_reducible repeat (first | refine blk_drewN ?_ _ | refine blk_drew ?_ | refine blk_alloc ?_ _)); refine blk_far ?_ NB311_324.out _; (with_reducible repeat (first | refine blk_drewN ?_ _ | refine blk_drew ?_ | refine blk_alloc ?_ _)); refine blk_far ?_ NB311_324.out _; (with_reducible repeat (first | refine blk_drewN ?_ _ | refine blk_drew ?_ | refine blk_alloc ?_ _)); refine blk_far ?_ NB311_323.out _; (with_reducible repeat (first | refine blk_drewN ?_ _ | refine blk_drew ?_ | refine blk_alloc ?_ _)); refine blk_far ?_ NB311_323.out _; (with_reducible repeat (first | refine blk_drewN ?_ _ | refine blk_drew ?_ | refine blk_alloc ?_ _)); refine blk_far ?_ NB311_323.out _; (with_reducible repeat (first | refine blk_drewN ?_ _ | refine blk_drew ?_ | refine blk_alloc ?_ _)); refine blk_far ?_ NB311_323.out _; (with_reducible repeat (first | refine blk_drewN ?_ _ | refine blk_drew ?_ | refine blk_alloc ?_ _)); exact BK311.out⟩, ⟨by (with_reducible repeat (first | refine blk_drewN ?_ _ | refine blk_drew ?_ | refine blk_alloc ?_ _)); refine blk_far ?_ NB323_324.out _; (with_reducible repeat (first | refine blk_drewN ?_ _ | refine blk_drew ?_ | refine blk_alloc ?_ _)); refine blk_far ?_ NB323_324.out _; (with_reducible repeat (first | refine blk_drewN ?_ _ | refine blk_drew ?_ | refine blk_alloc ?_ _)); refine blk_put (cs := #[.int .i64 t317, .int .i64 t318, .int .i64 t319, .int .i64 0]) ?_ 3 _ rfl; (with_reducible repeat (first | refine blk_drewN ?_ _ | refine blk_drew ?_ | refine blk_alloc ?_ _)); refine blk_put (cs := #[.int .i64 t317, .int .i64 t318, .int .i64 0, .int .i64 0]) ?_ 2 _ rfl; (with_reducible repeat (first | refine blk_drewN ?_ _ | refine blk_drew ?_ | refine blk_alloc ?_ _)); refine blk_put (cs := #[.int .i64 t317, .int .i64 0, .int .i64 0, .int .i64 0]) ?_ 1 _ rfl; (with_reducible repeat (first | refine blk_drewN ?_ _ | refine blk_drew ?_ | refine blk_alloc ?_ _)); refine blk_put (cs := #[.int .i64 0, .int .i64 0, .int .i64 0, .int .i64 0]) ?_ 0 _ rfl; (with_reducible repeat (first | refine blk_drewN ?_ _ | refine blk_drew ?_ | refine blk_alloc ?_ _)); exact BK323.out⟩, ⟨by (with_reducible repeat (first | refine blk_drewN ?_ _ | refine blk_drew ?_ | refine blk_alloc ?_ _)); refine blk_put (cs := #[.int .i64 t321, .int .i64 0]) ?_ 1 _ rfl; (with_reducible repeat (first | refine blk_drewN ?_ _ | refine blk_drew ?_ | refine blk_alloc ?_ _)); refine blk_put (cs := #[.int .i64 0, .int .i64 0]) ?_ 0 _ rfl; (with_reducible repeat (first | refine blk_drewN ?_ _ | refine blk_drew ?_ | refine blk_alloc ?_ _)); refine blk_far ?_ NB324_323.out _; (with_reducible repeat (first | refine blk_drewN ?_ _ | refine blk_drew ?_ | refine blk_alloc ?_ _)); refine blk_far ?_ NB324_323.out _; (with_reducible repeat (first | refine blk_drewN ?_ _ | refine blk_drew ?_ | refine blk_alloc ?_ _)); refine blk_far ?_ NB324_323.out _; (with_reducible repeat (first | refine blk_drewN ?_ _ | refine blk_drew ?_ | refine blk_alloc ?_ _)); refine blk_far ?_ NB324_323.out _; (with_reducible repeat (first | refine blk_drewN ?_ _ | refine blk_drew ?_ | refine blk_alloc ?_ _)); exact BK324.out⟩, ⟨by repeat (first | (with_reducible first | exact HB.out | apply below_alloc | apply pw_below_drewN | apply below_drew1 | refine below_set ?_ GE311.out | refine below_set ?_ GE323.out | refine below_set ?_ GE324.out) | exact HB.out)⟩⟩
              ·rw [if_neg c38] at H
               have c38b0 : (t318 == (ji24)) = false := beq_eq_false_iff_ne.mpr c38
               have c38b1 : (t318 != (ji24)) = true := bne_iff_ne.mpr c38
               have H' := Aside0.mk H
               clear H
               have hnb42 := NB323_311.out
               have hnc42 := NB311_323.out
               have hnb43 := NB323_324.out
               have hnc43 := NB324_323.out
               have hcz44_0 : w30.cell? ⟨gb323, 0, none⟩ = some (.int .i64 0) := (blk_cell BK323.out 0).trans rfl
               have hcz44_1 : w30.cell? ⟨gb323, 1, none⟩ = some (.int .i64 0) := (blk_cell BK323.out 1).trans rfl
               have hcz44_2 : w30.cell? ⟨gb323, 2, none⟩ = some (.int .i64 0) := (blk_cell BK323.out 2).trans rfl
               have hcz44_3 : w30.cell? ⟨gb323, 3, none⟩ = some (.int .i64 0) := (blk_cell BK323.out 3).trans rfl
               have hfz44_0 := blk_frozen BK323.out 0
               have hfz44_1 := blk_frozen BK323.out 1
               have hfz44_2 := blk_frozen BK323.out 2
               have hfz44_3 := blk_frozen BK323.out 3
               go_wp2
               go_meet
               case rel => exact ⟨_, (true), zS, H', ⟨by have := HJ3.out; have := HK2.out; have := HJ13.out; first | omega | exact Nat.le_refl _⟩, ⟨by (with_reducible repeat (first | refine blk_drewN ?_ _ | refine blk_drew ?_ | refine blk_alloc ?_ _)); refine blk_far ?_ NB311_324.out _; (with_reducible repeat (first | refine blk_drewN ?_ _ | refine blk_drew ?_ | refine blk_alloc ?_ _)); refine blk_far ?_ NB311_324.out _; (with_reducible repeat (first | refine blk_drewN ?_ _ | refine blk_drew ?_ | refine blk_alloc ?_ _)); refine blk_far ?_ NB311_323.out _; (with_reducible repeat (first | refine blk_drewN ?_ _ | refine blk_drew ?_ | refine blk_alloc ?_ _)); refine blk_far ?_ NB311_323.out _; (with_reducible repeat (first | refine blk_drewN ?_ _ | refine blk_drew ?_ | refine blk_alloc ?_ _)); refine blk_far ?_ NB311_323.out _; (with_reducible repeat (first | refine blk_drewN ?_ _ | refine blk_drew ?_ | refine blk_alloc ?_ _)); refine blk_far ?_ NB311_323.out _; (with_reducible repeat (first | refine blk_drewN ?_ _ | refine blk_drew ?_ | refine blk_alloc ?_ _)); exact BK311.out⟩, ⟨by (with_reducible repeat (first | refine blk_drewN ?_ _ | refine blk_drew ?_ | refine blk_alloc ?_ _)); refine blk_far ?_ NB323_324.out _; (with_reducible repeat (first | refine blk_drewN ?_ _ | refine blk_drew ?_ | refine blk_alloc ?_ _)); refine blk_far ?_ NB323_324.out _; (with_reducible repeat (first | refine blk_drewN ?_ _ | refine blk_drew ?_ | refine blk_alloc ?_ _)); refine blk_put (cs := #[.int .i64 t317, .int .i64 t318, .int .i64 t319, .int .i64 0]) ?_ 3 _ rfl; (with_reducible repeat (first | refine blk_drewN ?_ _ | refine blk_drew ?_ | refine blk_alloc ?_ _)); refine blk_put (cs := #[.int .i64 t317, .int .i64 t318, .int .i64 0, .int .i64 0]) ?_ 2 _ rfl; (with_reducible repeat (first | refine blk_drewN ?_ _ | refine blk_drew ?_ | refine blk_alloc ?_ _)); refine blk_put (cs := #[.int .i64 t317, .int .i64 0, .int .i64 0, .int .i64 0]) ?_ 1 _ rfl; (with_reducible repeat (first | refine blk_drewN ?_ _ | refine blk_drew ?_ | refine blk_alloc ?_ _)); refine blk_put (cs := #[.int .i64 0, .int .i64 0, .int .i64 0, .int .i64 0]) ?_ 0 _ rfl; (with_reducible repeat (first | refine blk_drewN ?_ _ | refine blk_drew ?_ | refine blk_alloc ?_ _)); exact BK323.out⟩, ⟨by (with_reducible repeat (first | refine blk_drewN ?_ _ | refine blk_drew ?_ | refine blk_alloc ?_ _)); refine blk_put (cs := #[.int .i64 t321, .int .i64 0]) ?_ 1 _ rfl; (with_reducible repeat (first | refine blk_drewN ?_ _ | refine blk_drew ?_ | refine blk_alloc ?_ _)); refine blk_put (cs := #[.int .i64 0, .int .i64 0]) ?_ 0 _ rfl; (with_reducible repeat (first | refine blk_drewN ?_ _ | refine blk_drew ?_ | refine blk_alloc ?_ _)); refine blk_far ?_ NB324_323.out _; (with_reducible repeat (first | refine blk_drewN ?_ _ | refine blk_drew ?_ | refine blk_alloc ?_ _)); refine blk_far ?_ NB324_323.out _; (with_reducible repeat (first | refine blk_drewN ?_ _ | refine blk_drew ?_ | refine blk_alloc ?_ _)); refine blk_far ?_ NB324_323.out _; (with_reducible repeat (first | refine blk_drewN ?_ _ | refine blk_drew ?_ | refine blk_alloc ?_ _)); refine blk_far ?_ NB324_323.out _; (with_reducible repeat (first | refine blk_drewN ?_ _ | refine blk_drew ?_ | refine blk_alloc ?_ _)); exact BK324.out⟩, ⟨by repeat (first | (with_reducible first | exact HB.out | apply below_alloc | apply pw_below_drewN | apply below_drew1 | refine below_set ?_ GE311.out | refine below_set ?_ GE323.out | refine below_set ?_ GE324.out) | exact HB.out)⟩⟩
             ·rw [if_neg c37] at H
              have c37b0 : (t317 == (wrap64 (x8_2 + (rd l0 x11_2)))) = false := beq_eq_false_iff_ne.mpr c37
              have c37b1 : (t317 != (wrap64 (x8_2 + (rd l0 x11_2)))) = true := bne_iff_ne.mpr c37
              (first | rw [c37b0] | (simp only [i64_w, i32_w]; rw [c37b0]) | skip)
              have H' := Aside0.mk H
              clear H
              have hnb45 := NB323_311.out
              have hnc45 := NB311_323.out
              have hnb46 := NB323_324.out
              have hnc46 := NB324_323.out
              have hcz47_0 : w30.cell? ⟨gb323, 0, none⟩ = some (.int .i64 0) := (blk_cell BK323.out 0).trans rfl
              have hcz47_1 : w30.cell? ⟨gb323, 1, none⟩ = some (.int .i64 0) := (blk_cell BK323.out 1).trans rfl
              have hcz47_2 : w30.cell? ⟨gb323, 2, none⟩ = some (.int .i64 0) := (blk_cell BK323.out 2).trans rfl
              have hcz47_3 : w30.cell? ⟨gb323, 3, none⟩ = some (.int .i64 0) := (blk_cell BK323.out 3).trans rfl
              have hfz47_0 := blk_frozen BK323.out 0
              have hfz47_1 := blk_frozen BK323.out 1
              have hfz47_2 := blk_frozen BK323.out 2
              have hfz47_3 := blk_frozen BK323.out 3
              go_wp2
              go_meet
              case rel => exact ⟨_, (true), zS, H', ⟨by have := HJ3.out; have := HK2.out; have := HJ13.out; first | omega | exact Nat.le_refl _⟩, ⟨by (with_reducible repeat (first | refine blk_drewN ?_ _ | refine blk_drew ?_ | refine blk_alloc ?_ _)); refine blk_far ?_ NB311_324.out _; (with_reducible repeat (first | refine blk_drewN ?_ _ | refine blk_drew ?_ | refine blk_alloc ?_ _)); refine blk_far ?_ NB311_324.out _; (with_reducible repeat (first | refine blk_drewN ?_ _ | refine blk_drew ?_ | refine blk_alloc ?_ _)); refine blk_far ?_ NB311_323.out _; (with_reducible repeat (first | refine blk_drewN ?_ _ | refine blk_drew ?_ | refine blk_alloc ?_ _)); refine blk_far ?_ NB311_323.out _; (with_reducible repeat (first | refine blk_drewN ?_ _ | refine blk_drew ?_ | refine blk_alloc ?_ _)); refine blk_far ?_ NB311_323.out _; (with_reducible repeat (first | refine blk_drewN ?_ _ | refine blk_drew ?_ | refine blk_alloc ?_ _)); refine blk_far ?_ NB311_323.out _; (with_reducible repeat (first | refine blk_drewN ?_ _ | refine blk_drew ?_ | refine blk_alloc ?_ _)); exact BK311.out⟩, ⟨by (with_reducible repeat (first | refine blk_drewN ?_ _ | refine blk_drew ?_ | refine blk_alloc ?_ _)); refine blk_far ?_ NB323_324.out _; (with_reducible repeat (first | refine blk_drewN ?_ _ | refine blk_drew ?_ | refine blk_alloc ?_ _)); refine blk_far ?_ NB323_324.out _; (with_reducible repeat (first | refine blk_drewN ?_ _ | refine blk_drew ?_ | refine blk_alloc ?_ _)); refine blk_put (cs := #[.int .i64 t317, .int .i64 t318, .int .i64 t319, .int .i64 0]) ?_ 3 _ rfl; (with_reducible repeat (first | refine blk_drewN ?_ _ | refine blk_drew ?_ | refine blk_alloc ?_ _)); refine blk_put (cs := #[.int .i64 t317, .int .i64 t318, .int .i64 0, .int .i64 0]) ?_ 2 _ rfl; (with_reducible repeat (first | refine blk_drewN ?_ _ | refine blk_drew ?_ | refine blk_alloc ?_ _)); refine blk_put (cs := #[.int .i64 t317, .int .i64 0, .int .i64 0, .int .i64 0]) ?_ 1 _ rfl; (with_reducible repeat (first | refine blk_drewN ?_ _ | refine blk_drew ?_ | refine blk_alloc ?_ _)); refine blk_put (cs := #[.int .i64 0, .int .i64 0, .int .i64 0, .int .i64 0]) ?_ 0 _ rfl; (with_reducible repeat (first | refine blk_drewN ?_ _ | refine blk_drew ?_ | refine blk_alloc ?_ _)); exact BK323.out⟩, ⟨by (with_reducible repeat (first | refine blk_drewN ?_ _ | refine blk_drew ?_ | refine blk_alloc ?_ _)); refine blk_put (cs := #[.int .i64 t321, .int .i64 0]) ?_ 1 _ rfl; (with_reducible repeat (first | refine blk_drewN ?_ _ | refine blk_drew ?_ | refine blk_alloc ?_ _)); refine blk_put (cs := #[.int .i64 0, .int .i64 0]) ?_ 0 _ rfl; (with_reducible repeat (first | refine blk_drewN ?_ _ | refine blk_drew ?_ | refine blk_alloc ?_ _)); refine blk_far ?_ NB324_323.out _; (with_reducible repeat (first | refine blk_drewN ?_ _ | refine blk_drew ?_ | refine blk_alloc ?_ _)); refine blk_far ?_ NB324_323.out _; (with_reducible repeat (first | refine blk_drewN ?_ _ | refine blk_drew ?_ | refine blk_alloc ?_ _)); refine blk_far ?_ NB324_323.out _; (with_reducible repeat (first | refine blk_drewN ?_ _ | refine blk_drew ?_ | refine blk_alloc ?_ _)); refine blk_far ?_ NB324_323.out _; (with_reducible repeat (first | refine blk_drewN ?_ _ | refine blk_drew ?_ | refine blk_alloc ?_ _)); exact BK324.out⟩, ⟨by repeat (first | (with_reducible first | exact HB.out | apply below_alloc | apply pw_below_drewN | apply below_drew1 | refine below_set ?_ GE311.out | refine below_set ?_ GE323.out | refine below_set ?_ GE324.out) | exact HB.out)⟩⟩
            case rest =>
             clear HC25
             try clear p2
             try clear c3
             try clear p3
             try clear q3
             try clear hx3
             try clear c4
             try clear p6
             try clear c9
             try clear p32
             try clear q32
             try clear hx32
             try clear c37
             try clear c37b0
             try clear c37b1
             try clear c38
             try clear c38b0
             try clear c38b1
             try clear c39
             try clear c40
             try clear c42
             try clear c43
             try clear c45
             try clear c46
             try clear hcz41_0
             try clear hcz41_1
             try clear hcz41_2
             try clear hcz41_3
             try clear hcz44_0
             try clear hcz44_1
             try clear hcz44_2
             try clear hcz44_3
             try clear hcz47_0
             try clear hcz47_1
             try clear hcz47_2
             try clear hcz47_3
             try clear hfz41_0
             try clear hfz41_1
             try clear hfz41_2
             try clear hfz41_3
             try clear hfz44_0
             try clear hfz44_1
             try clear hfz44_2
             try clear hfz44_3
             try clear hfz47_0
             try clear hfz47_1
             try clear hfz47_2
             try clear hfz47_3
             try clear hx325_0
             try clear p325
             try clear q325
             obtain ⟨kq, x96_24, rfl, HA, HJ24, BK311, BK323, BK324, HB⟩ := hcut
             cases kq with
             | zero => exact absurd HA.out (by simp [tapearchivelaw36_PrefetchAhead.j3])
             | succ kj24 =>
              have H := HA.out
              clear HA
              simp only [tapearchivelaw36_PrefetchAhead.j3] at H
              by_cases c48 : x96_24 = true
              ·subst c48
               have H1 : (some false) = some r := by rw [if_pos rfl] at H; exact H
               clear H
               have H := H1
               clear H1
               exact absurd (Option.some.inj H) (by rw [ht_.out]; simp)
              ·replace c48 := Bool.eq_false_iff.mpr c48
               subst c48
               have H1 : (if t322 > 0 then (if t321 < (wrap64 (x8_2 + (rd l0 x11_2))) then (tapearchivelaw36_PrefetchAhead.j4 kj24 l0 a1 a2 (wrap64 (x8_2 + (rd l0 x11_2))) x9_2 ji24 x11_2 true t317 t318 t319 t320 t321 t322) else (if t321 < x9_2 then (tapearchivelaw36_PrefetchAhead.j4 kj24 l0 a1 a2 (wrap64 (x8_2 + (rd l0 x11_2))) x9_2 ji24 x11_2 true t317 t318 t319 t320 t321 t322) else (if t322 > (wrap64 (a1 - t321)) then (tapearchivelaw36_PrefetchAhead.j4 kj24 l0 a1 a2 (wrap64 (x8_2 + (rd l0 x11_2))) x9_2 ji24 x11_2 true t317 t318 t319 t320 t321 t322) else (tapearchivelaw36_PrefetchAhead.j4 kj24 l0 a1 a2 (wrap64 (x8_2 + (rd l0 x11_2))) x9_2 ji24 x11_2 (decide (t322 > (wrap64 (64 * ji24)))) t317 t318 t319 t320 t321 t322)))) else (tapearchivelaw36_PrefetchAhead.j4 kj24 l0 a1 a2 (wrap64 (x8_2 + (rd l0 x11_2))) x9_2 ji24 x11_2 false t317 t318 t319 t320 t321 t322)) = some r := by rw [if_neg (show ¬ (false = true) by decide)] at H; exact H
               clear H
               have H := H1
               clear H1
               have HC49 := Aside0.mk H
               clear H
               go_upto_region 15 with (fail)
               go_cut [127] (fun v127 wc => ∃ (kq : Nat) (x127_48 : Bool), v127 = .bool x127_48 ∧ Aside0 (tapearchivelaw36_PrefetchAhead.j4 kq l0 a1 a2 (wrap64 (x8_2 + (rd l0 x11_2))) x9_2 ji24 x11_2 x127_48 t317 t318 t319 t320 t321 t322 = some r) ∧ Aside0 (kq ≤ kj24) ∧ Aside0 (wc.heap[gb311]? = some (.cells #[.int .i64 x312000_2, .int .i64 x312001_2, .int .i64 x312002_2, .int .i64 x312003_2] 28 (0, 0))) ∧ Aside0 (wc.heap[gb323]? = some (.cells #[.int .i64 t317, .int .i64 t318, .int .i64 t319, .int .i64 t320] 28 (0, 0))) ∧ Aside0 (wc.heap[gb324]? = some (.cells #[.int .i64 t321, .int .i64 t322] 25 (0, 0))) ∧ Aside0 (Below w.heap.size w wc))
               case first =>
                have H := HC49.out
                clear HC49
                by_cases c50 : t322 > 0
                ·rw [if_pos c50] at H
                 have c50b0 : decide (0 < t322) = true := decide_eq_true c50
                 clear c50
                 (first | rw [c50b0] | (simp only [i64_w, i32_w]; rw [c50b0]) | skip)
                 by_cases c51 : t321 < (wrap64 (x8_2 + (rd l0 x11_2)))
                 ·rw [if_pos c51] at H
                  have c51b0 : decide (t321 < (wrap64 (x8_2 + (rd l0 x11_2)))) = true := decide_eq_true c51
                  clear c51
                  have H' := Aside0.mk H
                  clear H
                  have hnb52 := NB324_311.out
                  have hnc52 := NB311_324.out
                  have hnb53 := NB324_323.out
                  have hnc53 := NB323_324.out
                  have hcz54_0 : wc.cell? ⟨gb324, 0, none⟩ = some (.int .i64 t321) := (blk_cell BK324.out 0).trans rfl
                  have hcz54_1 : wc.cell? ⟨gb324, 1, none⟩ = some (.int .i64 t322) := (blk_cell BK324.out 1).trans rfl
                  have hfz54_0 := blk_frozen BK324.out 0
                  have hfz54_1 := blk_frozen BK324.out 1
                  go_wp2
                  go_meet
                  case rel => exact ⟨_, (true), zS, H', ⟨by have := HJ3.out; have := HK2.out; have := HJ13.out; have := HJ24.out; first | omega | exact Nat.le_refl _⟩, ⟨by (with_reducible repeat (first | refine blk_drewN ?_ _ | refine blk_drew ?_ | refine blk_alloc ?_ _)); exact BK311.out⟩, ⟨by (with_reducible repeat (first | refine blk_drewN ?_ _ | refine blk_drew ?_ | refine blk_alloc ?_ _)); exact BK323.out⟩, ⟨by (with_reducible repeat (first | refine blk_drewN ?_ _ | refine blk_drew ?_ | refine blk_alloc ?_ _)); exact BK324.out⟩, ⟨by repeat (first | (with_reducible first | exact HB.out | apply below_alloc | apply pw_below_drewN | apply below_drew1 | refine below_set ?_ GE311.out | refine below_set ?_ GE323.out | refine below_set ?_ GE324.out) | exact HB.out)⟩⟩
                 ·rw [if_neg c51] at H
                  have c51b0 : decide (t321 < (wrap64 (x8_2 + (rd l0 x11_2)))) = false := decide_eq_false c51
                  clear c51
                  by_cases c55 : t321 < x9_2
                  ·rw [if_pos c55] at H
                   have c55b0 : decide (t321 < x9_2) = true := decide_eq_true c55
                   clear c55
                   have H' := Aside0.mk H
                   clear H
                   have hnb56 := NB324_311.out
                   have hnc56 := NB311_324.out
                   have hnb57 := NB324_323.out
                   have hnc57 := NB323_324.out
                   have hcz58_0 : wc.cell? ⟨gb324, 0, none⟩ = some (.int .i64 t321) := (blk_cell BK324.out 0).trans rfl
                   have hcz58_1 : wc.cell? ⟨gb324, 1, none⟩ = some (.int .i64 t322) := (blk_cell BK324.out 1).trans rfl
                   have hfz58_0 := blk_frozen BK324.out 0
                   have hfz58_1 := blk_frozen BK324.out 1
                   go_wp2
                   go_meet
                   case rel => exact ⟨_, (true), zS, H', ⟨by have := HJ3.out; have := HK2.out; have := HJ13.out; have := HJ24.out; first | omega | exact Nat.le_refl _⟩, ⟨by (with_reducible repeat (first | refine blk_drewN ?_ _ | refine blk_drew ?_ | refine blk_alloc ?_ _)); exact BK311.out⟩, ⟨by (with_reducible repeat (first | refine blk_drewN ?_ _ | refine blk_drew ?_ | refine blk_alloc ?_ _)); exact BK323.out⟩, ⟨by (with_reducible repeat (first | refine blk_drewN ?_ _ | refine blk_drew ?_ | refine blk_alloc ?_ _)); exact BK324.out⟩, ⟨by repeat (first | (with_reducible first | exact HB.out | apply below_alloc | apply pw_below_drewN | apply below_drew1 | refine below_set ?_ GE311.out | refine below_set ?_ GE323.out | refine below_set ?_ GE324.out) | exact HB.out)⟩⟩
                  ·rw [if_neg c55] at H
                   have c55b0 : decide (t321 < x9_2) = false := decide_eq_false c55
                   clear c55
                   by_cases c59 : t322 > (wrap64 (a1 - t321))
                   ·rw [if_pos c59] at H
                    have c59b0 : decide ((wrap64 (a1 - t321)) < t322) = true := decide_eq_true c59
                    clear c59
                    have H' := Aside0.mk H
                    clear H
                    have hnb60 := NB324_311.out
                    have hnc60 := NB311_324.out
                    have hnb61 := NB324_323.out
                    have hnc61 := NB323_324.out
                    have hcz62_0 : wc.cell? ⟨gb324, 0, none⟩ = some (.int .i64 t321) := (blk_cell BK324.out 0).trans rfl
                    have hcz62_1 : wc.cell? ⟨gb324, 1, none⟩ = some (.int .i64 t322) := (blk_cell BK324.out 1).trans rfl
                    have hfz62_0 := blk_frozen BK324.out 0
                    have hfz62_1 := blk_frozen BK324.out 1
                    go_wp2
                    go_meet
                    case rel => exact ⟨_, (true), zS, H', ⟨by have := HJ3.out; have := HK2.out; have := HJ13.out; have := HJ24.out; first | omega | exact Nat.le_refl _⟩, ⟨by (with_reducible repeat (first | refine blk_drewN ?_ _ | refine blk_drew ?_ | refine blk_alloc ?_ _)); exact BK311.out⟩, ⟨by (with_reducible repeat (first | refine blk_drewN ?_ _ | refine blk_drew ?_ | refine blk_alloc ?_ _)); exact BK323.out⟩, ⟨by (with_reducible repeat (first | refine blk_drewN ?_ _ | refine blk_drew ?_ | refine blk_alloc ?_ _)); exact BK324.out⟩, ⟨by repeat (first | (with_reducible first | exact HB.out | apply below_alloc | apply pw_below_drewN | apply below_drew1 | refine below_set ?_ GE311.out | refine below_set ?_ GE323.out | refine below_set ?_ GE324.out) | exact HB.out)⟩⟩
                   ·rw [if_neg c59] at H
                    have c59b0 : decide ((wrap64 (a1 - t321)) < t322) = false := decide_eq_false c59
                    clear c59
                    have H' := Aside0.mk H
                    clear H
                    have hnb63 := NB324_311.out
                    have hnc63 := NB311_324.out
                    have hnb64 := NB324_323.out
                    have hnc64 := NB323_324.out
                    have hcz65_0 : wc.cell? ⟨gb324, 0, none⟩ = some (.int .i64 t321) := (blk_cell BK324.out 0).trans rfl
                    have hcz65_1 : wc.cell? ⟨gb324, 1, none⟩ = some (.int .i64 t322) := (blk_cell BK324.out 1).trans rfl
                    have hfz65_0 := blk_frozen BK324.out 0
                    have hfz65_1 := blk_frozen BK324.out 1
                    go_wp2
                    go_meet
                    case rel => exact ⟨_, (decide (t322 > (wrap64 (64 * ji24)))), (by first | rfl | (simp; done) | (simp only [← hji24] <;> (first | rfl | simp)) | (simp [*]; done)), H', ⟨by have := HJ3.out; have := HK2.out; have := HJ13.out; have := HJ24.out; first | omega | exact Nat.le_refl _⟩, ⟨by (with_reducible repeat (first | refine blk_drewN ?_ _ | refine blk_drew ?_ | refine blk_alloc ?_ _)); exact BK311.out⟩, ⟨by (with_reducible repeat (first | refine blk_drewN ?_ _ | refine blk_drew ?_ | refine blk_alloc ?_ _)); exact BK323.out⟩, ⟨by (with_reducible repeat (first | refine blk_drewN ?_ _ | refine blk_drew ?_ | refine blk_alloc ?_ _)); exact BK324.out⟩, ⟨by repeat (first | (with_reducible first | exact HB.out | apply below_alloc | apply pw_below_drewN | apply below_drew1 | refine below_set ?_ GE311.out | refine below_set ?_ GE323.out | refine below_set ?_ GE324.out) | exact HB.out)⟩⟩
                ·rw [if_neg c50] at H
                 have c50b0 : decide (0 < t322) = false := decide_eq_false c50
                 clear c50
                 (first | rw [c50b0] | (simp only [i64_w, i32_w]; rw [c50b0]) | skip)
                 have H' := Aside0.mk H
                 clear H
                 have hnb66 := NB324_311.out
                 have hnc66 := NB311_324.out
                 have hnb67 := NB324_323.out
                 have hnc67 := NB323_324.out
                 have hcz68_0 : wc.cell? ⟨gb324, 0, none⟩ = some (.int .i64 t321) := (blk_cell BK324.out 0).trans rfl
                 have hcz68_1 : wc.cell? ⟨gb324, 1, none⟩ = some (.int .i64 t322) := (blk_cell BK324.out 1).trans rfl
                 have hfz68_0 := blk_frozen BK324.out 0
                 have hfz68_1 := blk_frozen BK324.out 1
                 go_wp2
                 go_meet
                 case rel => exact ⟨_, (false), zS, H', ⟨by have := HJ3.out; have := HK2.out; have := HJ13.out; have := HJ24.out; first | omega | exact Nat.le_refl _⟩, ⟨by (with_reducible repeat (first | refine blk_drewN ?_ _ | refine blk_drew ?_ | refine blk_alloc ?_ _)); exact BK311.out⟩, ⟨by (with_reducible repeat (first | refine blk_drewN ?_ _ | refine blk_drew ?_ | refine blk_alloc ?_ _)); exact BK323.out⟩, ⟨by (with_reducible repeat (first | refine blk_drewN ?_ _ | refine blk_drew ?_ | refine blk_alloc ?_ _)); exact BK324.out⟩, ⟨by repeat (first | (with_reducible first | exact HB.out | apply below_alloc | apply pw_below_drewN | apply below_drew1 | refine below_set ?_ GE311.out | refine below_set ?_ GE323.out | refine below_set ?_ GE324.out) | exact HB.out)⟩⟩
               case rest =>
                clear HC49
                try clear p2
                try clear c3
                try clear p3
                try clear q3
                try clear hx3
                try clear c4
                try clear c5
                try clear c6
                try clear p6
                try clear c9
                try clear p32
                try clear q32
                try clear hx32
                try clear c37
                try clear c37b0
                try clear c37b1
                try clear c38
                try clear c38b0
                try clear c38b1
                try clear c39
                try clear c40
                try clear c42
                try clear c43
                try clear c45
                try clear c46
                try clear c48
                try clear c50
                try clear c50b0
                try clear c51
                try clear c51b0
                try clear c52
                try clear c53
                try clear c55
                try clear c55b0
                try clear c56
                try clear c57
                try clear c59
                try clear c59b0
                try clear c60
                try clear c61
                try clear c63
                try clear c64
                try clear p64
                try clear c66
                try clear c67
                try clear hcz41_0
                try clear hcz41_1
                try clear hcz41_2
                try clear hcz41_3
                try clear hcz44_0
                try clear hcz44_1
                try clear hcz44_2
                try clear hcz44_3
                try clear hcz47_0
                try clear hcz47_1
                try clear hcz47_2
                try clear hcz47_3
                try clear hcz54_0
                try clear hcz54_1
                try clear hcz58_0
                try clear hcz58_1
                try clear hcz62_0
                try clear hcz62_1
                try clear hcz65_0
                try clear hcz65_1
                try clear hcz68_0
                try clear hcz68_1
                try clear hfz41_0
                try clear hfz41_1
                try clear hfz41_2
                try clear hfz41_3
                try clear hfz44_0
                try clear hfz44_1
                try clear hfz44_2
                try clear hfz44_3
                try clear hfz47_0
                try clear hfz47_1
                try clear hfz47_2
                try clear hfz47_3
                try clear hfz54_0
                try clear hfz54_1
                try clear hfz58_0
                try clear hfz58_1
                try clear hfz62_0
                try clear hfz62_1
                try clear hfz65_0
                try clear hfz65_1
                try clear hfz68_0
                try clear hfz68_1
                try clear hx325_0
                try clear p2
                try clear p3
                try clear p32
                try clear p325
                try clear p6
                try clear q3
                try clear q32
                try clear q325
                obtain ⟨kq, x127_48, rfl, HA, HJ48, BK311, BK323, BK324, HB⟩ := hcut
                cases kq with
                | zero => exact absurd HA.out (by simp [tapearchivelaw36_PrefetchAhead.j4])
                | succ kj48 =>
                 have H := HA.out
                 clear HA
                 simp only [tapearchivelaw36_PrefetchAhead.j4] at H
                 by_cases c69 : x127_48 = true
                 ·subst c69
                  have H1 : (some false) = some r := by rw [if_pos rfl] at H; exact H
                  clear H
                  have H := H1
                  clear H1
                  exact absurd (Option.some.inj H) (by rw [ht_.out]; simp)
                 ·replace c69 := Bool.eq_false_iff.mpr c69
                  subst c69
                  have H1 : (if t322 > 0 then (tapearchivelaw36_PrefetchAhead.j5 kj48 l0 a1 a2 (wrap64 (x8_2 + (rd l0 x11_2))) (wrap64 (t321 + t322)) ji24 x11_2 t317 t318 t319 t320 t321 t322) else (tapearchivelaw36_PrefetchAhead.j5 kj48 l0 a1 a2 (wrap64 (x8_2 + (rd l0 x11_2))) x9_2 ji24 x11_2 t317 t318 t319 t320 t321 t322)) = some r := by rw [if_neg (show ¬ (false = true) by decide)] at H; exact H
                  clear H
                  have H := H1
                  clear H1
                  have HC70 := Aside0.mk H
                  clear H
                  have hnb71 := NB324_311.out
                  have hnc71 := NB311_324.out
                  have hnb72 := NB324_323.out
                  have hnc72 := NB323_324.out
                  have hcz73_0 : wc.cell? ⟨gb324, 0, none⟩ = some (.int .i64 t321) := (blk_cell BK324.out 0).trans rfl
                  have hcz73_1 : wc.cell? ⟨gb324, 1, none⟩ = some (.int .i64 t322) := (blk_cell BK324.out 1).trans rfl
                  have hfz73_0 := blk_frozen BK324.out 0
                  have hfz73_1 := blk_frozen BK324.out 1
                  go_upto_if 130 with (fail)
                  go_cut [9] (fun v9 wc => ∃ (kq : Nat) (x9_69 : Int), v9 = .int .i64 x9_69 ∧ Aside0 (tapearchivelaw36_PrefetchAhead.j5 kq l0 a1 a2 (wrap64 (x8_2 + (rd l0 x11_2))) x9_69 ji24 x11_2 t317 t318 t319 t320 t321 t322 = some r) ∧ Aside0 (kq ≤ kj48) ∧ Aside0 (wc.heap[gb311]? = some (.cells #[.int .i64 x312000_2, .int .i64 x312001_2, .int .i64 x312002_2, .int .i64 x312003_2] 28 (0, 0))) ∧ Aside0 (wc.heap[gb323]? = some (.cells #[.int .i64 t317, .int .i64 t318, .int .i64 t319, .int .i64 t320] 28 (0, 0))) ∧ Aside0 (wc.heap[gb324]? = some (.cells #[.int .i64 t321, .int .i64 t322] 25 (0, 0))) ∧ Aside0 (Below w.heap.size w wc))
                  case first =>
                   have H := HC70.out
                   clear HC70
                   by_cases c74 : t322 > 0
                   ·rw [if_pos c74] at H
                    have c74b0 : decide (0 < t322) = true := decide_eq_true c74
                    clear c74
                    (first | rw [c74b0] | (simp only [i64_w, i32_w]; rw [c74b0]) | skip)
                    have H' := Aside0.mk H
                    clear H
                    have hnb75 := NB324_311.out
                    have hnc75 := NB311_324.out
                    have hnb76 := NB324_323.out
                    have hnc76 := NB323_324.out
                    have hcz77_0 : wc.cell? ⟨gb324, 0, none⟩ = some (.int .i64 t321) := (blk_cell BK324.out 0).trans rfl
                    have hcz77_1 : wc.cell? ⟨gb324, 1, none⟩ = some (.int .i64 t322) := (blk_cell BK324.out 1).trans rfl
                    have hfz77_0 := blk_frozen BK324.out 0
                    have hfz77_1 := blk_frozen BK324.out 1
                    go_wp2
                    go_meet
                    case rel => exact ⟨_, (wrap64 (t321 + t322)), zS, H', ⟨by have := HJ3.out; have := HK2.out; have := HJ13.out; have := HJ24.out; have := HJ48.out; first | omega | exact Nat.le_refl _⟩, ⟨by (with_reducible repeat (first | refine blk_drewN ?_ _ | refine blk_drew ?_ | refine blk_alloc ?_ _)); exact BK311.out⟩, ⟨by (with_reducible repeat (first | refine blk_drewN ?_ _ | refine blk_drew ?_ | refine blk_alloc ?_ _)); exact BK323.out⟩, ⟨by (with_reducible repeat (first | refine blk_drewN ?_ _ | refine blk_drew ?_ | refine blk_alloc ?_ _)); exact BK324.out⟩, ⟨by repeat (first | (with_reducible first | exact HB.out | apply below_alloc | apply pw_below_drewN | apply below_drew1 | refine below_set ?_ GE311.out | refine below_set ?_ GE323.out | refine below_set ?_ GE324.out) | exact HB.out)⟩⟩
                   ·rw [if_neg c74] at H
                    have c74b0 : decide (0 < t322) = false := decide_eq_false c74
                    clear c74
                    (first | rw [c74b0] | (simp only [i64_w, i32_w]; rw [c74b0]) | skip)
                    have H' := Aside0.mk H
                    clear H
                    go_wp2
                    go_meet
                    case rel => exact ⟨_, (x9_2), zS, H', ⟨by have := HJ3.out; have := HK2.out; have := HJ13.out; have := HJ24.out; have := HJ48.out; first | omega | exact Nat.le_refl _⟩, ⟨by (with_reducible repeat (first | refine blk_drewN ?_ _ | refine blk_drew ?_ | refine blk_alloc ?_ _)); exact BK311.out⟩, ⟨by (with_reducible repeat (first | refine blk_drewN ?_ _ | refine blk_drew ?_ | refine blk_alloc ?_ _)); exact BK323.out⟩, ⟨by (with_reducible repeat (first | refine blk_drewN ?_ _ | refine blk_drew ?_ | refine blk_alloc ?_ _)); exact BK324.out⟩, ⟨by repeat (first | (with_reducible first | exact HB.out | apply below_alloc | apply pw_below_drewN | apply below_drew1 | refine below_set ?_ GE311.out | refine below_set ?_ GE323.out | refine below_set ?_ GE324.out) | exact HB.out)⟩⟩
                  case rest =>
                   clear HC70
                   try clear p2
                   try clear c3
                   try clear p3
                   try clear q3
                   try clear hx3
                   try clear c4
                   try clear c5
                   try clear c6
                   try clear p6
                   try clear c7
                   try clear c9
                   try clear p32
                   try clear q32
                   try clear hx32
                   try clear c37
                   try clear c37b0
                   try clear c37b1
                   try clear c38
                   try clear c38b0
                   try clear c38b1
                   try clear c39
                   try clear c40
                   try clear c42
                   try clear c43
                   try clear c45
                   try clear c46
                   try clear c48
                   try clear c50
                   try clear c50b0
                   try clear c51
                   try clear c51b0
                   try clear c52
                   try clear c53
                   try clear c55
                   try clear c55b0
                   try clear c56
                   try clear c57
                   try clear c59
                   try clear c59b0
                   try clear c60
                   try clear c61
                   try clear c63
                   try clear c64
                   try clear p64
                   try clear c66
                   try clear c67
                   try clear c69
                   try clear c71
                   try clear c72
                   try clear c74
                   try clear c74b0
                   try clear c75
                   try clear c76
                   try clear hcz41_0
                   try clear hcz41_1
                   try clear hcz41_2
                   try clear hcz41_3
                   try clear hcz44_0
                   try clear hcz44_1
                   try clear hcz44_2
                   try clear hcz44_3
                   try clear hcz47_0
                   try clear hcz47_1
                   try clear hcz47_2
                   try clear hcz47_3
                   try clear hcz54_0
                   try clear hcz54_1
                   try clear hcz58_0
                   try clear hcz58_1
                   try clear hcz62_0
                   try clear hcz62_1
                   try clear hcz65_0
                   try clear hcz65_1
                   try clear hcz68_0
                   try clear hcz68_1
                   try clear hcz73_0
                   try clear hcz73_1
                   try clear hcz77_0
                   try clear hcz77_1
                   try clear hfz41_0
                   try clear hfz41_1
                   try clear hfz41_2
                   try clear hfz41_3
                   try clear hfz44_0
                   try clear hfz44_1
                   try clear hfz44_2
                   try clear hfz44_3
                   try clear hfz47_0
                   try clear hfz47_1
                   try clear hfz47_2
                   try clear hfz47_3
                   try clear hfz54_0
                   try clear hfz54_1
                   try clear hfz58_0
                   try clear hfz58_1
                   try clear hfz62_0
                   try clear hfz62_1
                   try clear hfz65_0
                   try clear hfz65_1
                   try clear hfz68_0
                   try clear hfz68_1
                   try clear hfz73_0
                   try clear hfz73_1
                   try clear hfz77_0
                   try clear hfz77_1
                   try clear hx325_0
                   try clear p2
                   try clear p3
                   try clear p32
                   try clear p325
                   try clear p6
                   try clear p64
                   try clear q3
                   try clear q32
                   try clear q325
                   obtain ⟨kq, x9_69, rfl, HA, HJ69, BK311, BK323, BK324, HB⟩ := hcut
                   cases kq with
                   | zero => exact absurd HA.out (by simp [tapearchivelaw36_PrefetchAhead.j5])
                   | succ kj69 =>
                    have H := HA.out
                    clear HA
                    simp only [tapearchivelaw36_PrefetchAhead.j5] at H
                    have HC78 := Aside0.mk H
                    clear H
                    go_upto_region 19 with (fail)
                    go_cut [156] (fun v156 wc => ∃ (kq : Nat) (x156_77 : Bool), v156 = .bool x156_77 ∧ Aside0 (tapearchivelaw36_PrefetchAhead.j6 kq l0 a1 a2 (wrap64 (x8_2 + (rd l0 x11_2))) ji24 x11_2 x156_77 t317 t318 t319 t320 = some r) ∧ Aside0 (kq ≤ kj69) ∧ Aside0 (wc.heap[gb311]? = some (.cells #[.int .i64 x312000_2, .int .i64 x312001_2, .int .i64 x312002_2, .int .i64 x312003_2] 28 (0, 0))) ∧ Aside0 (wc.heap[gb323]? = some (.cells #[.int .i64 t317, .int .i64 t318, .int .i64 t319, .int .i64 t320] 28 (0, 0))) ∧ Aside0 (wc.heap[gb324]? = some (.cells #[.int .i64 t321, .int .i64 t322] 25 (0, 0))) ∧ Aside0 (Below w.heap.size w wc))
                    case first =>
                     have H := HC78.out
                     clear HC78
                     by_cases c79 : t322 < 0
                     ·rw [if_pos c79] at H
                      have c79b0 : decide (t322 < 0) = true := decide_eq_true c79
                      clear c79
                      (first | rw [c79b0] | (simp only [i64_w, i32_w]; rw [c79b0]) | skip)
                      have H' := Aside0.mk H
                      clear H
                      have hnb80 := NB324_311.out
                      have hnc80 := NB311_324.out
                      have hnb81 := NB324_323.out
                      have hnc81 := NB323_324.out
                      have hcz82_0 : wc.cell? ⟨gb324, 0, none⟩ = some (.int .i64 t321) := (blk_cell BK324.out 0).trans rfl
                      have hcz82_1 : wc.cell? ⟨gb324, 1, none⟩ = some (.int .i64 t322) := (blk_cell BK324.out 1).trans rfl
                      have hfz82_0 := blk_frozen BK324.out 0
                      have hfz82_1 := blk_frozen BK324.out 1
                      go_wp2
                      go_meet
                      case rel => exact ⟨_, (true), zS, H', ⟨by have := HJ3.out; have := HK2.out; have := HJ13.out; have := HJ24.out; have := HJ48.out; have := HJ69.out; first | omega | exact Nat.le_refl _⟩, ⟨by (with_reducible repeat (first | refine blk_drewN ?_ _ | refine blk_drew ?_ | refine blk_alloc ?_ _)); exact BK311.out⟩, ⟨by (with_reducible repeat (first | refine blk_drewN ?_ _ | refine blk_drew ?_ | refine blk_alloc ?_ _)); exact BK323.out⟩, ⟨by (with_reducible repeat (first | refine blk_drewN ?_ _ | refine blk_drew ?_ | refine blk_alloc ?_ _)); exact BK324.out⟩, ⟨by repeat (first | (with_reducible first | exact HB.out | apply below_alloc | apply pw_below_drewN | apply below_drew1 | refine below_set ?_ GE311.out | refine below_set ?_ GE323.out | refine below_set ?_ GE324.out) | exact HB.out)⟩⟩
                     ·rw [if_neg c79] at H
                      have c79b0 : decide (t322 < 0) = false := decide_eq_false c79
                      clear c79
                      (first | rw [c79b0] | (simp only [i64_w, i32_w]; rw [c79b0]) | skip)
                      by_cases c83 : t322 = 0
                      ·rw [if_pos c83] at H
                       have c83b0 : (t322 == 0) = true := beq_iff_eq.mpr c83
                       have c83b1 : (t322 != 0) = false := bne_eq_false_iff_eq.mpr c83
                       clear c83
                       by_cases c84 : t321 = 0
                       ·rw [if_pos c84] at H
                        have c84b0 : (t321 == 0) = true := beq_iff_eq.mpr c84
                        have c84b1 : (t321 != 0) = false := bne_eq_false_iff_eq.mpr c84
                        clear c84
                        obtain ⟨ji85, hji85⟩ : ∃ j_ : Int, (mx x9_69 (wrap64 (x8_2 + (rd l0 x11_2)))) = j_ := ⟨_, rfl⟩
                        replace H : (tapearchivelaw36_PrefetchAhead.j6 kj69 l0 a1 a2 (wrap64 (x8_2 + (rd l0 x11_2))) ji24 x11_2 (t319 != (ji85)) t317 t318 t319 t320) = some r := by first | (rw [hji85] at H; exact H) | (simp only [hji85] at H ⊢; exact H)
                        have hji85_ : (if x9_69 < (wrap64 (x8_2 + (rd l0 x11_2))) then (wrap64 (x8_2 + (rd l0 x11_2))) else x9_69) = ji85 := hji85
                        have H' := Aside0.mk H
                        clear H
                        have hnb86 := NB324_311.out
                        have hnc86 := NB311_324.out
                        have hnb87 := NB324_323.out
                        have hnc87 := NB323_324.out
                        have hcz88_0 : wc.cell? ⟨gb324, 0, none⟩ = some (.int .i64 t321) := (blk_cell BK324.out 0).trans rfl
                        have hcz88_1 : wc.cell? ⟨gb324, 1, none⟩ = some (.int .i64 t322) := (blk_cell BK324.out 1).trans rfl
                        have hfz88_0 := blk_frozen BK324.out 0
                        have hfz88_1 := blk_frozen BK324.out 1
                        have hnb89 := NB323_311.out
                        have hnc89 := NB311_323.out
                        have hcz90_0 : wc.cell? ⟨gb323, 0, none⟩ = some (.int .i64 t317) := (blk_cell BK323.out 0).trans rfl
                        have hcz90_1 : wc.cell? ⟨gb323, 1, none⟩ = some (.int .i64 t318) := (blk_cell BK323.out 1).trans rfl
                        have hcz90_2 : wc.cell? ⟨gb323, 2, none⟩ = some (.int .i64 t319) := (blk_cell BK323.out 2).trans rfl
                        have hcz90_3 : wc.cell? ⟨gb323, 3, none⟩ = some (.int .i64 t320) := (blk_cell BK323.out 3).trans rfl
                        have hfz90_0 := blk_frozen BK323.out 0
                        have hfz90_1 := blk_frozen BK323.out 1
                        have hfz90_2 := blk_frozen BK323.out 2
                        have hfz90_3 := blk_frozen BK323.out 3
                        go_wp2
                        (try simp only [show (Value.int .i64 ji85) = .int .i64 (mx x9_69 (wrap64 (x8_2 + (rd l0 x11_2)))) from by rw [hji85]])
                        go_meet
                        case rel => exact ⟨kj69, ((t319 != (ji85))), (by first | rfl | (simp; done) | (simp only [← hji85] <;> (first | rfl | simp)) | (simp [*]; done)), (by first | exact H' | (rw [hji85]; exact H') | (simp only [hji85]; exact H')), ⟨by have := HJ3.out; have := HK2.out; have := HJ13.out; have := HJ24.out; have := HJ48.out; have := HJ69.out; first | omega | exact Nat.le_refl _⟩, ⟨by (with_reducible repeat (first | refine blk_drewN ?_ _ | refine blk_drew ?_ | refine blk_alloc ?_ _)); exact BK311.out⟩, ⟨by (with_reducible repeat (first | refine blk_drewN ?_ _ | refine blk_drew ?_ | refine blk_alloc ?_ _)); exact BK323.out⟩, ⟨by (with_reducible repeat (first | refine blk_drewN ?_ _ | refine blk_drew ?_ | refine blk_alloc ?_ _)); exact BK324.out⟩, ⟨by repeat (first | (with_reducible first | exact HB.out | apply below_alloc | apply pw_below_drewN | apply below_drew1 | refine below_set ?_ GE311.out | refine below_set ?_ GE323.out | refine below_set ?_ GE324.out) | exact HB.out)⟩⟩
                       ·rw [if_neg c84] at H
                        have c84b0 : (t321 == 0) = false := beq_eq_false_iff_ne.mpr c84
                        have c84b1 : (t321 != 0) = true := bne_iff_ne.mpr c84
                        have H' := Aside0.mk H
                        clear H
                        have hnb91 := NB324_311.out
                        have hnc91 := NB311_324.out
                        have hnb92 := NB324_323.out
                        have hnc92 := NB323_324.out
                        have hcz93_0 : wc.cell? ⟨gb324, 0, none⟩ = some (.int .i64 t321) := (blk_cell BK324.out 0).trans rfl
                        have hcz93_1 : wc.cell? ⟨gb324, 1, none⟩ = some (.int .i64 t322) := (blk_cell BK324.out 1).trans rfl
                        have hfz93_0 := blk_frozen BK324.out 0
                        have hfz93_1 := blk_frozen BK324.out 1
                        go_wp2
                        go_meet
                        case rel => exact ⟨_, (true), zS, H', ⟨by have := HJ3.out; have := HK2.out; have := HJ13.out; have := HJ24.out; have := HJ48.out; have := HJ69.out; first | omega | exact Nat.le_refl _⟩, ⟨by (with_reducible repeat (first | refine blk_drewN ?_ _ | refine blk_drew ?_ | refine blk_alloc ?_ _)); exact BK311.out⟩, ⟨by (with_reducible repeat (first | refine blk_drewN ?_ _ | refine blk_drew ?_ | refine blk_alloc ?_ _)); exact BK323.out⟩, ⟨by (with_reducible repeat (first | refine blk_drewN ?_ _ | refine blk_drew ?_ | refine blk_alloc ?_ _)); exact BK324.out⟩, ⟨by repeat (first | (with_reducible first | exact HB.out | apply below_alloc | apply pw_below_drewN | apply below_drew1 | refine below_set ?_ GE311.out | refine below_set ?_ GE323.out | refine below_set ?_ GE324.out) | exact HB.out)⟩⟩
                      ·rw [if_neg c83] at H
                       have c83b0 : (t322 == 0) = false := beq_eq_false_iff_ne.mpr c83
                       have c83b1 : (t322 != 0) = true := bne_iff_ne.mpr c83
                       obtain ⟨ji94, hji94⟩ : ∃ j_ : Int, (mx x9_69 (wrap64 (x8_2 + (rd l0 x11_2)))) = j_ := ⟨_, rfl⟩
                       replace H : (tapearchivelaw36_PrefetchAhead.j6 kj69 l0 a1 a2 (wrap64 (x8_2 + (rd l0 x11_2))) ji24 x11_2 (t319 != (ji94)) t317 t318 t319 t320) = some r := by first | (rw [hji94] at H; exact H) | (simp only [hji94] at H ⊢; exact H)
                       have hji94_ : (if x9_69 < (wrap64 (x8_2 + (rd l0 x11_2))) then (wrap64 (x8_2 + (rd l0 x11_2))) else x9_69) = ji94 := hji94
                       have H' := Aside0.mk H
                       clear H
                       have hnb95 := NB324_311.out
                       have hnc95 := NB311_324.out
                       have hnb96 := NB324_323.out
                       have hnc96 := NB323_324.out
                       have hcz97_0 : wc.cell? ⟨gb324, 0, none⟩ = some (.int .i64 t321) := (blk_cell BK324.out 0).trans rfl
                       have hcz97_1 : wc.cell? ⟨gb324, 1, none⟩ = some (.int .i64 t322) := (blk_cell BK324.out 1).trans rfl
                       have hfz97_0 := blk_frozen BK324.out 0
                       have hfz97_1 := blk_frozen BK324.out 1
                       have hnb98 := NB323_311.out
                       have hnc98 := NB311_323.out
                       have hcz99_0 : wc.cell? ⟨gb323, 0, none⟩ = some (.int .i64 t317) := (blk_cell BK323.out 0).trans rfl
                       have hcz99_1 : wc.cell? ⟨gb323, 1, none⟩ = some (.int .i64 t318) := (blk_cell BK323.out 1).trans rfl
                       have hcz99_2 : wc.cell? ⟨gb323, 2, none⟩ = some (.int .i64 t319) := (blk_cell BK323.out 2).trans rfl
                       have hcz99_3 : wc.cell? ⟨gb323, 3, none⟩ = some (.int .i64 t320) := (blk_cell BK323.out 3).trans rfl
                       have hfz99_0 := blk_frozen BK323.out 0
                       have hfz99_1 := blk_frozen BK323.out 1
                       have hfz99_2 := blk_frozen BK323.out 2
                       have hfz99_3 := blk_frozen BK323.out 3
                       go_wp2
                       (try simp only [show (Value.int .i64 ji94) = .int .i64 (mx x9_69 (wrap64 (x8_2 + (rd l0 x11_2)))) from by rw [hji94]])
                       go_meet
                       case rel => exact ⟨kj69, ((t319 != (ji94))), (by first | rfl | (simp; done) | (simp only [← hji94] <;> (first | rfl | simp)) | (simp [*]; done)), (by first | exact H' | (rw [hji94]; exact H') | (simp only [hji94]; exact H')), ⟨by have := HJ3.out; have := HK2.out; have := HJ13.out; have := HJ24.out; have := HJ48.out; have := HJ69.out; first | omega | exact Nat.le_refl _⟩, ⟨by (with_reducible repeat (first | refine blk_drewN ?_ _ | refine blk_drew ?_ | refine blk_alloc ?_ _)); exact BK311.out⟩, ⟨by (with_reducible repeat (first | refine blk_drewN ?_ _ | refine blk_drew ?_ | refine blk_alloc ?_ _)); exact BK323.out⟩, ⟨by (with_reducible repeat (first | refine blk_drewN ?_ _ | refine blk_drew ?_ | refine blk_alloc ?_ _)); exact BK324.out⟩, ⟨by repeat (first | (with_reducible first | exact HB.out | apply below_alloc | apply pw_below_drewN | apply below_drew1 | refine below_set ?_ GE311.out | refine below_set ?_ GE323.out | refine below_set ?_ GE324.out) | exact HB.out)⟩⟩
                    case rest =>
                     clear HC78
                     try clear p2
                     try clear c3
                     try clear p3
                     try clear q3
                     try clear hx3
                     try clear c4
                     try clear c5
                     try clear c6
                     try clear p6
                     try clear c7
                     try clear c8
                     try clear c9
                     try clear p32
                     try clear q32
                     try clear hx32
                     try clear c37
                     try clear c37b0
                     try clear c37b1
                     try clear c38
                     try clear c38b0
                     try clear c38b1
                     try clear c39
                     try clear c40
                     try clear c42
                     try clear c43
                     try clear c45
                     try clear c46
                     try clear c48
                     try clear c50
                     try clear c50b0
                     try clear c51
                     try clear c51b0
                     try clear c52
                     try clear c53
                     try clear c55
                     try clear c55b0
                     try clear c56
                     try clear c57
                     try clear c59
                     try clear c59b0
                     try clear c60
                     try clear c61
                     try clear c63
                     try clear c64
                     try clear p64
                     try clear c66
                     try clear c67
                     try clear c69
                     try clear c71
                     try clear c72
                     try clear c74
                     try clear c74b0
                     try clear c75
                     try clear c76
                     try clear c79
                     try clear c79b0
                     try clear c80
                     try clear c81
                     try clear c83
                     try clear c83b0
                     try clear c83b1
                     try clear c84
                     try clear c84b0
                     try clear c84b1
                     try clear c86
                     try clear c87
                     try clear c89
                     try clear c91
                     try clear c92
                     try clear c95
                     try clear c96
                     try clear c98
                     try clear hcz41_0
                     try clear hcz41_1
                     try clear hcz41_2
                     try clear hcz41_3
                     try clear hcz44_0
                     try clear hcz44_1
                     try clear hcz44_2
                     try clear hcz44_3
                     try clear hcz47_0
                     try clear hcz47_1
                     try clear hcz47_2
                     try clear hcz47_3
                     try clear hcz54_0
                     try clear hcz54_1
                     try clear hcz58_0
                     try clear hcz58_1
                     try clear hcz62_0
                     try clear hcz62_1
                     try clear hcz65_0
                     try clear hcz65_1
                     try clear hcz68_0
                     try clear hcz68_1
                     try clear hcz73_0
                     try clear hcz73_1
                     try clear hcz77_0
                     try clear hcz77_1
                     try clear hcz82_0
                     try clear hcz82_1
                     try clear hcz88_0
                     try clear hcz88_1
                     try clear hcz90_0
                     try clear hcz90_1
                     try clear hcz90_2
                     try clear hcz90_3
                     try clear hcz93_0
                     try clear hcz93_1
                     try clear hcz97_0
                     try clear hcz97_1
                     try clear hcz99_0
                     try clear hcz99_1
                     try clear hcz99_2
                     try clear hcz99_3
                     try clear hfz41_0
                     try clear hfz41_1
                     try clear hfz41_2
                     try clear hfz41_3
                     try clear hfz44_0
                     try clear hfz44_1
                     try clear hfz44_2
                     try clear hfz44_3
                     try clear hfz47_0
                     try clear hfz47_1
                     try clear hfz47_2
                     try clear hfz47_3
                     try clear hfz54_0
                     try clear hfz54_1
                     try clear hfz58_0
                     try clear hfz58_1
                     try clear hfz62_0
                     try clear hfz62_1
                     try clear hfz65_0
                     try clear hfz65_1
                     try clear hfz68_0
                     try clear hfz68_1
                     try clear hfz73_0
                     try clear hfz73_1
                     try clear hfz77_0
                     try clear hfz77_1
                     try clear hfz82_0
                     try clear hfz82_1
                     try clear hfz88_0
                     try clear hfz88_1
                     try clear hfz90_0
                     try clear hfz90_1
                     try clear hfz90_2
                     try clear hfz90_3
                     try clear hfz93_0
                     try clear hfz93_1
                     try clear hfz97_0
                     try clear hfz97_1
                     try clear hfz99_0
                     try clear hfz99_1
                     try clear hfz99_2
                     try clear hfz99_3
                     try clear hx325_0
                     try clear p2
                     try clear p3
                     try clear p32
                     try clear p325
                     try clear p6
                     try clear p64
                     try clear q3
                     try clear q32
                     try clear q325
                     obtain ⟨kq, x156_77, rfl, HA, HJ77, BK311, BK323, BK324, HB⟩ := hcut
                     cases kq with
                     | zero => exact absurd HA.out (by simp [tapearchivelaw36_PrefetchAhead.j6])
                     | succ kj77 =>
                      have H := HA.out
                      clear HA
                      simp only [tapearchivelaw36_PrefetchAhead.j6] at H
                      by_cases c100 : x156_77 = true
                      ·subst c100
                       have H1 : (some false) = some r := by rw [if_pos rfl] at H; exact H
                       clear H
                       have H := H1
                       clear H1
                       exact absurd (Option.some.inj H) (by rw [ht_.out]; simp)
                      ·replace c100 := Bool.eq_false_iff.mpr c100
                       subst c100
                       have H1 : (tapearchivelaw36_PrefetchAhead.l0 kj77 l0 a1 a2 (wrap64 (x8_2 + (rd l0 x11_2))) t319 ji24 (wrap64 (x11_2 + 1)) t317 t318 t319 t320) = some r := by rw [if_neg (show ¬ (false = true) by decide)] at H; exact H
                       clear H
                       have H := H1
                       clear H1
                       have H' := Aside0.mk H
                       clear H
                       have hnb101 := NB323_311.out
                       have hnc101 := NB311_323.out
                       have hnb102 := NB323_324.out
                       have hnc102 := NB324_323.out
                       have hcz103_0 : wc.cell? ⟨gb323, 0, none⟩ = some (.int .i64 t317) := (blk_cell BK323.out 0).trans rfl
                       have hcz103_1 : wc.cell? ⟨gb323, 1, none⟩ = some (.int .i64 t318) := (blk_cell BK323.out 1).trans rfl
                       have hcz103_2 : wc.cell? ⟨gb323, 2, none⟩ = some (.int .i64 t319) := (blk_cell BK323.out 2).trans rfl
                       have hcz103_3 : wc.cell? ⟨gb323, 3, none⟩ = some (.int .i64 t320) := (blk_cell BK323.out 3).trans rfl
                       have hfz103_0 := blk_frozen BK323.out 0
                       have hfz103_1 := blk_frozen BK323.out 1
                       have hfz103_2 := blk_frozen BK323.out 2
                       have hfz103_3 := blk_frozen BK323.out 3
                       have hnb104 := NB311_324.out
                       have hnc104 := NB324_311.out
                       have hcz105_0 : wc.cell? ⟨gb311, 0, none⟩ = some (.int .i64 x312000_2) := (blk_cell BK311.out 0).trans rfl
                       have hcz105_1 : wc.cell? ⟨gb311, 1, none⟩ = some (.int .i64 x312001_2) := (blk_cell BK311.out 1).trans rfl
                       have hcz105_2 : wc.cell? ⟨gb311, 2, none⟩ = some (.int .i64 x312002_2) := (blk_cell BK311.out 2).trans rfl
                       have hcz105_3 : wc.cell? ⟨gb311, 3, none⟩ = some (.int .i64 x312003_2) := (blk_cell BK311.out 3).trans rfl
                       have hfz105_0 := blk_frozen BK311.out 0
                       have hfz105_1 := blk_frozen BK311.out 1
                       have hfz105_2 := blk_frozen BK311.out 2
                       have hfz105_3 := blk_frozen BK311.out 3
                       go_wp2
                       go_roundg kj77
                       case measure => have := HJ3.out; have := HK2.out; have := HJ13.out; have := HJ24.out; have := HJ48.out; have := HJ69.out; have := HJ77.out; omega
                       case rel => exact ⟨((wrap64 (x8_2 + (rd l0 x11_2)))), (t319), (ji24), (wrap64 (x11_2 + 1)), (t317), (t318), (t319), (t320), zS, zS, (by first | rfl | (simp; done) | (simp only [← hji24] <;> (first | rfl | simp)) | (simp [*]; done)), zS, H', ⟨by have := HJ3.out; have := HK2.out; have := HJ13.out; have := HJ24.out; have := HJ48.out; have := HJ69.out; have := HJ77.out; omega⟩, ⟨by (with_reducible repeat (first | refine blk_drewN ?_ _ | refine blk_drew ?_ | refine blk_alloc ?_ _)); refine blk_put (cs := #[.int .i64 t317, .int .i64 t318, .int .i64 t319, .int .i64 x312003_2]) ?_ 3 _ (by first | rfl | (simp only [hji94]; done) | (simp only [hji94]; rfl)); (with_reducible repeat (first | refine blk_drewN ?_ _ | refine blk_drew ?_ | refine blk_alloc ?_ _)); refine blk_put (cs := #[.int .i64 t317, .int .i64 t318, .int .i64 x312002_2, .int .i64 x312003_2]) ?_ 2 _ (by first | rfl | (simp only [hji94]; done) | (simp only [hji94]; rfl)); (with_reducible repeat (first | refine blk_drewN ?_ _ | refine blk_drew ?_ | refine blk_alloc ?_ _)); refine blk_put (cs := #[.int .i64 t317, .int .i64 x312001_2, .int .i64 x312002_2, .int .i64 x312003_2]) ?_ 1 _ (by first | rfl | (simp only [hji94]; done) | (simp only [hji94]; rfl)); (with_reducible repeat (first | refine blk_drewN ?_ _ | refine blk_drew ?_ | refine blk_alloc ?_ _)); refine blk_put (cs := #[.int .i64 x312000_2, .int .i64 x312001_2, .int .i64 x312002_2, .int .i64 x312003_2]) ?_ 0 _ (by first | rfl | (simp only [hji94]; done) | (simp only [hji94]; rfl)); (with_reducible repeat (first | refine blk_drewN ?_ _ | refine blk_drew ?_ | refine blk_alloc ?_ _)); exact BK311.out⟩, ⟨by repeat (first | (with_reducible first | exact HB.out | apply below_alloc | apply pw_below_drewN | apply below_drew1 | refine below_set ?_ GE311.out | refine below_set ?_ GE323.out | refine below_set ?_ GE324.out) | exact HB.out)⟩⟩
           ·rw [if_neg c21] at H
            exact absurd H (by simp)
          ·rw [if_neg c20] at H
           exact absurd H (by simp)
      ·rw [if_neg c13] at H
       have c13b0 : decide (x11_2 < (l0.length : Int)) = false := decide_eq_false c13
       clear c13
       replace H := Option.bind_eq_some_iff.mp H
       obtain ⟨t312, A1060, H⟩ := H
       replace H : (some t312) = some r := H
       have A106 := Aside0.mk A1060
       clear A1060
       obtain rfl := Option.some.inj H
       go_wp2_with (first | ((with_reducible refine gate_callee (f := 12) rfl ?_); refine goesL_ (some 160) rfl rfl Try.func12 (by kernel_rfl) rfl #[] rfl zM ?_; (with_reducible refine (tapearchivelaw36_awake_s.calls  t312 _ A106.out).mono ?_); rintro e w107 ⟨rfl, hb⟩; refine ⟨_, rfl, ?_⟩; have n0_ := Aside0.mk (blk_below (g := gb311) (o := .cells #[.int .i64 x312000_2, .int .i64 x312001_2, .int .i64 x312002_2, .int .i64 x312003_2] 28 (0, 0)) (zL BK311.out) hb); have n1_ := Aside0.mk (below_step (zG HB GE311) hb); clear BK311; clear HB; have BK311 := n0_; have HB := n1_; clear n0_ n1_; (try clear hb); (try clear hb2); (try clear hk); (try clear hi)))
       go_ret
       exact ⟨by first | rfl | (simp [errW_none, errW_some] <;> rfl) | (simp [*, errW_none, errW_some] <;> rfl), by repeat (first | (with_reducible first | exact HB.out | apply below_alloc | apply pw_below_drewN | apply below_drew1 | refine below_set ?_ GE311.out) | exact HB.out)⟩

/-- THE ONE PURE STATEMENT of tapearchivelaw36_PrefetchAhead: yours. -/
def tapearchivelaw36_PrefetchAhead.Pure : Prop := ∀ (l0 : List Int) (a1 : Int) (a2 : Int), l0.length ≤ maxLen → l0.length * 8 ≤ 140737488351232 → (∀ x ∈ l0, (Lit.int .i64 x).wf = true) → (Lit.int .i64 a1).wf = true → (Lit.int .i64 a2).wf = true → ∃ k, tapearchivelaw36_PrefetchAhead.f k l0 a1 a2 = some true
theorem tapearchivelaw36_PrefetchAhead.walk (P : tapearchivelaw36_PrefetchAhead.Pure) (a0 : Option Addr) (len0 cap0 : Nat) (z0 : List Int) (a1 : Int) (a2 : Int) (w : World) (w0 : (a0 = none ∧ len0 = 0 ∧ cap0 = 0 ∧ z0 = []) ∨ ∃ x, a0 = some x ∧ len0 ≤ cap0 ∧ cap0 ≤ maxLen ∧ z0.length = cap0 ∧ (∀ i, i < z0.length → w.cell? (x.add i) = some (.int .i64 (z0.getD i 0))) ∧ ∀ n ∈ z0, (Lit.int .i64 n).wf = true) (y0 : len0 * 8 ≤ 140737488351232) (w1 : (Lit.int .i64 a1).wf = true) (w2 : (Lit.int .i64 a2).wf = true) :
  Calls Try.prog 4 #[.slice a0 len0 cap0, .int .i64 a1, .int .i64 a2] w fun e w' => e = .returned (.bool true) ∧ Below w.heap.size w w' := by
 obtain ⟨l0, rfl, hr0, hm0, hw0, hc0⟩ := ReadsInt.ofRowC w0
 obtain ⟨k, h⟩ := P l0 a1 a2 hm0 y0 hw0 w1 w2
 refine (tapearchivelaw36_PrefetchAhead.calls k _ _ l0 a1 a2 true w (Kd.C_of_reads (d := (0 : Int)) (h1 := fun _ => rfl) hr0) hc0 ⟨rfl⟩ h).mono ?_
 rintro e w' ⟨rfl, hd⟩
 exact ⟨rfl, hd⟩

end
end Go.Proofs.Ytapbmkcncjkanaa.P
