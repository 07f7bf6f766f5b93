-- Written by this session's wip/tools/px.py out of the translation. Lean checks it.
import Derived.Test.YtapbmkcncjkanaaP0
import Derived.Test.YtapbmkcncjkanaaP1
import Derived.Test.YtapbmkcncjkanaaP2
import Derived.Test.YtapbmkcncjkanaaP3
import Derived.Test.YtapbmkcncjkanaaP9
import Derived.Test.YtapbmkcncjkanaaExtE
namespace Go.Proofs.Ytapbmkcncjkanaa.P
noncomputable section
open Go.RowKit Go.Proofs.YtapbmkcncjkanaaW.PrintWords Go.Proofs.YtapbmkcncjkanaaW.PrintLast Go.Proofs.YtapbmkcncjkanaaW.PrintMore
attribute [local go_sem] max2_int min2_int max_two min_two max_three min_three max_four min_four   -- for this text's walks alone
set_option linter.unusedVariables false
set_option linter.unusedSimpArgs false

attribute [local go_sem high] eqA25 eqA28
/-! ### prefetch_Waste: function 17 -/
def prefetch_Waste.f (k : Nat) (l0 : List (S25)) (l1 : List (S25)) : Option (Int) := (extent_Subtract.f l0 l1).bind fun t225 => ((extent_Total.f k t225).bind fun t228 => (some t228))
theorem prefetch_Waste.mono : ∀ a0 a1 k, LeO (prefetch_Waste.f k a0 a1) (prefetch_Waste.f (k + 1) a0 a1) := by
 intro a0 a1 k
 unfold prefetch_Waste.f
 repeat' first
   | (with_reducible exact extent_Total.mono _ _)
   | (with_reducible exact LeO.refl _)
   | (with_reducible exact LeO.none _)
   | (with_reducible refine LeO.ite ?_ ?_)
   | (with_reducible refine LeO.bind ?_ (fun _ => ?_))
   | exact extent_Total.mono _ _
   | exact LeO.none _
   | refine LeO.ite ?_ ?_
   | refine LeO.bind ?_ (fun _ => ?_)
set_option maxHeartbeats 8000000 in
set_option maxRecDepth 100000 in
theorem prefetch_Waste.calls (k : Nat) (A0 : Option Addr) (c0 : Nat) (l0 : List (S25)) (A1 : Option Addr) (c1 : Nat) (l1 : List (S25)) (r : Int) (w : World) (hr0 : Kd.C k25 w A0 l0.length l0) (hc0 : l0.length ≤ c0) (hr1 : Kd.C k25 w A1 l1.length l1) (hc1 : l1.length ≤ c1) (h : prefetch_Waste.f k l0 l1 = some r) :
  Calls Try.prog 17 #[.slice A0 l0.length c0, .slice A1 l1.length c1] w fun e w' => e = .returned (.int .i64 r) ∧ Below w.heap.size w w' := by
 have HR0 := am hr0
 have HC0 := am hc0
 clear hr0 hc0
 have HR1 := am hr1
 have HC1 := am hc1
 clear hr1 hc1
 have HB := am (Below.refl w.heap.size w)
 have H : ((extent_Subtract.f l0 l1).bind fun t225 => ((extent_Total.f k t225).bind fun t228 => (some t228))) = some r := h
 clear h
 replace H := Option.bind_eq_some_iff.mp H
 obtain ⟨t225, A30, H⟩ := H
 replace H : ((extent_Total.f k t225).bind fun t228 => (some t228)) = some r := H
 have A3 := am A30
 clear A30
 replace H := Option.bind_eq_some_iff.mp H
 obtain ⟨t228, A40, H⟩ := H
 replace H : (some t228) = some r := H
 have A4 := am A40
 clear A40
 obtain rfl := Option.some.inj H
 go_enter Try.func17, Try.ntmps17
 go_wp2_with (first | ((with_reducible refine gate_callee (f := 34) rfl ?_); refine goesL_ (some 7) rfl rfl Try.func34 (by kernel_rfl) rfl #[.slice A0 l0.length c0, .slice A1 l1.length c1] rfl zM ?_; (with_reducible refine (extent_Subtract.calls _ _ l0 _ _ l1 t225 _ ?side1 ?side2 ?side3 ?side4 A3.out).mono ?_); (case side1 => repeat (first | exact HR0.out | (with_reducible refine Kd.C_alloc ?_ _) | (with_reducible refine Kd.C_drewN ?_ _) | (with_reducible refine Kd.C_drew ?_))); (case side2 => exact HC0.out); (case side3 => repeat (first | exact HR1.out | (with_reducible refine Kd.C_alloc ?_ _) | (with_reducible refine Kd.C_drewN ?_ _) | (with_reducible refine Kd.C_drew ?_))); (case side4 => exact HC1.out); rintro e w5 ⟨v226, rfl, ho0, hb⟩; refine ⟨_, rfl, ?_⟩; have n0_ := am (Kd.R_lower ho0 (below_size (zB HB))); have n1_ := am (below_step (zB HB) hb); clear HB; have HO227 := n0_; have HB := n1_; clear n0_ n1_; (try clear hb); (try clear hb2); (try clear hk); (try clear hi); (try clear ho0); obtain ⟨Ao6, co6, eo6⟩ := Kd.R_slice HO227.out; subst eo6) | ((with_reducible refine gate_callee (f := 33) rfl ?_); refine goesL_ (some 8) rfl rfl Try.func33 (by kernel_rfl) rfl #[.slice Ao6 t225.length co6] rfl zM ?_; (with_reducible refine (extent_Total.calls k _ _ t225 t228 _ ?side1 ?side2 A4.out).mono ?_); (case side1 => exact zC (Kd.R_reads' HO227.out).2.2); (case side2 => exact (Kd.R_reads' HO227.out).2.1); rintro e w7 ⟨rfl, hb⟩; refine ⟨_, rfl, ?_⟩; have n0_ := am (Kd.R_below (zR HO227.out) hb); have n1_ := am (below_step (zB HB) hb); clear HO227; clear HB; have HO227 := n0_; have HB := n1_; clear n0_ n1_; (try clear hb); (try clear hb2); (try clear hk); (try clear hi)))
 go_ret
 exact ⟨by first | rfl | (simp [errW_none, errW_some] <;> rfl) | (simp [*, errW_none, errW_some] <;> rfl), by repeat (first | (with_reducible first | exact HB.out | apply below_alloc | apply pw_below_drewN | apply below_drew1) | exact HB.out)⟩

/-! ### prefetch_Replay: function 19 -/
mutual
def prefetch_Replay.l0 : Nat → Int → Int → List (S25) → List (S25) → Int → Int → Int → Int → Int → Int → Option ((List (S25)))
 | 0, _, _, _, _, _, _, _, _, _, _ => none
 | k + 1, x1, x2, x8, x14, x15, x16, x230000, x230001, x230002, x230003 => if x16 < x15 then (if 0 ≤ x16 then (if x16 < (x14.length : Int) then ((prefetch_Read.f k x230000 x230001 x230002 x230003 ((rd_T25 x14 x16).f0) ((rd_T25 x14 x16).f1) x1 x2).bind fun bt232 => (if (bt232.1 == 0 && (bt232.2.1 == 0 && (bt232.2.2.1 == 0 && (bt232.2.2.2.1 == 0)))) = true then ((prefetch_valid.f k x230000 x230001 x230002 x230003 ((rd_T25 x14 x16).f0) ((rd_T25 x14 x16).f1) x1 x2).bind fun t240 => (prefetch_Replay.j1 k x1 x2 x8 x14 x15 x16 (!t240) x230000 x230001 x230002 x230003 ((rd_T25 x14 x16).f0) ((rd_T25 x14 x16).f1) bt232.1 bt232.2.1 bt232.2.2.1 bt232.2.2.2.1 bt232.2.2.2.2.1 bt232.2.2.2.2.2)) else (prefetch_Replay.j1 k x1 x2 x8 x14 x15 x16 false x230000 x230001 x230002 x230003 ((rd_T25 x14 x16).f0) ((rd_T25 x14 x16).f1) bt232.1 bt232.2.1 bt232.2.2.1 bt232.2.2.2.1 bt232.2.2.2.2.1 bt232.2.2.2.2.2))) else (none)) else (none)) else (some x8)
def prefetch_Replay.j1 : Nat → Int → Int → List (S25) → List (S25) → Int → Int → Bool → Int → Int → Int → Int → Int → Int → Int → Int → Int → Int → Int → Int → Option ((List (S25)))
 | 0, _, _, _, _, _, _, _, _, _, _, _, _, _, _, _, _, _, _, _ => none
 | k + 1, x1, x2, x8, x14, x15, x16, x38, x230000, x230001, x230002, x230003, x232000, x232001, x239000, x239001, x239002, x239003, x240000, x240001 => if x38 = true then (prefetch_Replay.l0 k x1 x2 x8 x14 x15 (wrap64 (x16 + 1)) x230000 x230001 x230002 x230003) else ((extent_Subtract.f (([(⟨x232000, x232001⟩ : S25)] : List (S25))) x8).bind fun t244 => ((prefetch_Requests.f k t244 x240000 x240001 x1 0).bind fun t247 => ((extent_Union.f x8 t247).bind fun t250 => (prefetch_Replay.l0 k x1 x2 t250 x14 x15 (wrap64 (x16 + 1)) x239000 x239001 x239002 x239003))))
end
def prefetch_Replay.f (k : Nat) (l0 : List (S25)) (a1 : Int) (a2 : Int) : Option ((List (S25))) := prefetch_Replay.l0 k a1 a2 ([] : List (S25)) l0 (l0.length : Int) 0 0 0 0 0
theorem prefetch_Replay.mono_l : ∀ k, (∀ y0 y1 y2 y3 y4 y5 y6 y7 y8 y9, LeO (prefetch_Replay.l0 k y0 y1 y2 y3 y4 y5 y6 y7 y8 y9) (prefetch_Replay.l0 (k + 1) y0 y1 y2 y3 y4 y5 y6 y7 y8 y9)) ∧ (∀ y0 y1 y2 y3 y4 y5 y6 y7 y8 y9 y10 y11 y12 y13 y14 y15 y16 y17 y18, LeO (prefetch_Replay.j1 k y0 y1 y2 y3 y4 y5 y6 y7 y8 y9 y10 y11 y12 y13 y14 y15 y16 y17 y18) (prefetch_Replay.j1 (k + 1) y0 y1 y2 y3 y4 y5 y6 y7 y8 y9 y10 y11 y12 y13 y14 y15 y16 y17 y18))
 | 0 => ⟨fun _ _ _ _ _ _ _ _ _ _ r h => by simp [prefetch_Replay.l0] at h, fun _ _ _ _ _ _ _ _ _ _ _ _ _ _ _ _ _ _ _ r h => by simp [prefetch_Replay.j1] at h⟩
 | k + 1 => by
  obtain ⟨ih0, ih1⟩ := prefetch_Replay.mono_l k
  refine ⟨?_, ?_⟩
  ·intro y0 y1 y2 y3 y4 y5 y6 y7 y8 y9
   unfold prefetch_Replay.l0
   repeat' first
   | (with_reducible exact ih0 _ _ _ _ _ _ _ _ _ _)
   | (with_reducible exact ih1 _ _ _ _ _ _ _ _ _ _ _ _ _ _ _ _ _ _ _)
   | (with_reducible exact prefetch_Read.mono _ _ _ _ _ _ _ _ _)
   | (with_reducible exact prefetch_Requests.mono _ _ _ _ _ _)
   | (with_reducible exact prefetch_valid.mono _ _ _ _ _ _ _ _ _)
   | (with_reducible exact LeO.refl _)
   | (with_reducible exact LeO.none _)
   | (with_reducible refine LeO.ite ?_ ?_)
   | (with_reducible refine LeO.bind ?_ (fun _ => ?_))
   | exact ih0 _ _ _ _ _ _ _ _ _ _
   | exact ih1 _ _ _ _ _ _ _ _ _ _ _ _ _ _ _ _ _ _ _
   | exact prefetch_Read.mono _ _ _ _ _ _ _ _ _
   | exact prefetch_Requests.mono _ _ _ _ _ _
   | exact prefetch_valid.mono _ _ _ _ _ _ _ _ _
   | exact LeO.none _
   | refine LeO.ite ?_ ?_
   | refine LeO.bind ?_ (fun _ => ?_)
  ·intro y0 y1 y2 y3 y4 y5 y6 y7 y8 y9 y10 y11 y12 y13 y14 y15 y16 y17 y18
   unfold prefetch_Replay.j1
   repeat' first
   | (with_reducible exact ih0 _ _ _ _ _ _ _ _ _ _)
   | (with_reducible exact ih1 _ _ _ _ _ _ _ _ _ _ _ _ _ _ _ _ _ _ _)
   | (with_reducible exact prefetch_Read.mono _ _ _ _ _ _ _ _ _)
   | (with_reducible exact prefetch_Requests.mono _ _ _ _ _ _)
   | (with_reducible exact prefetch_valid.mono _ _ _ _ _ _ _ _ _)
   | (with_reducible exact LeO.refl _)
   | (with_reducible exact LeO.none _)
   | (with_reducible refine LeO.ite ?_ ?_)
   | (with_reducible refine LeO.bind ?_ (fun _ => ?_))
   | exact ih0 _ _ _ _ _ _ _ _ _ _
   | exact ih1 _ _ _ _ _ _ _ _ _ _ _ _ _ _ _ _ _ _ _
   | exact prefetch_Read.mono _ _ _ _ _ _ _ _ _
   | exact prefetch_Requests.mono _ _ _ _ _ _
   | exact prefetch_valid.mono _ _ _ _ _ _ _ _ _
   | exact LeO.none _
   | refine LeO.ite ?_ ?_
   | refine LeO.bind ?_ (fun _ => ?_)
theorem prefetch_Replay.mono : ∀ a0 a1 a2 k, LeO (prefetch_Replay.f k a0 a1 a2) (prefetch_Replay.f (k + 1) a0 a1 a2) := by
 intro a0 a1 a2 k
 obtain ⟨ih0, ih1⟩ := prefetch_Replay.mono_l k
 unfold prefetch_Replay.f
 repeat' first
   | (with_reducible exact ih0 _ _ _ _ _ _ _ _ _ _)
   | (with_reducible exact ih1 _ _ _ _ _ _ _ _ _ _ _ _ _ _ _ _ _ _ _)
   | (with_reducible exact prefetch_Read.mono _ _ _ _ _ _ _ _ _)
   | (with_reducible exact prefetch_Requests.mono _ _ _ _ _ _)
   | (with_reducible exact prefetch_valid.mono _ _ _ _ _ _ _ _ _)
   | (with_reducible exact LeO.refl _)
   | (with_reducible exact LeO.none _)
   | (with_reducible refine LeO.ite ?_ ?_)
   | (with_reducible refine LeO.bind ?_ (fun _ => ?_))
   | exact ih0 _ _ _ _ _ _ _ _ _ _
   | exact ih1 _ _ _ _ _ _ _ _ _ _ _ _ _ _ _ _ _ _ _
   | exact prefetch_Read.mono _ _ _ _ _ _ _ _ _
   | exact prefetch_Requests.mono _ _ _ _ _ _
   | exact prefetch_valid.mono _ _ _ _ _ _ _ _ _
   | exact LeO.none _
   | refine LeO.ite ?_ ?_
   | refine LeO.bind ?_ (fun _ => ?_)
set_option maxHeartbeats 8000000 in
set_option maxRecDepth 100000 in
theorem prefetch_Replay.calls (k : Nat) (A0 : Option Addr) (c0 : Nat) (l0 : List (S25)) (a1 : Int) (a2 : Int) (r : List (S25)) (w : World) (hr0 : Kd.C k25 w A0 l0.length l0) (hc0 : l0.length ≤ c0) (h : prefetch_Replay.f k l0 a1 a2 = some r) :
  Calls Try.prog 19 #[.slice A0 l0.length c0, .int .i64 a1, .int .i64 a2] w fun e w' => ∃ v0_ : Value, e = .returned (v0_) ∧ Kd.R k25 25 w' w.heap.size (fun _ => True) v0_ r ∧ Below w.heap.size w w' := by
 have hu28 := Try.underlying28
 have hu25 := Try.underlying25
 have HR0 := am hr0
 have HC0 := am hc0
 clear hr0 hc0
 have HB := am (Below.refl w.heap.size w)
 have H : (prefetch_Replay.l0 k a1 a2 ([] : List (S25)) l0 (l0.length : Int) 0 0 0 0 0) = some r := h
 clear h
 have H' := am H
 clear H
 go_enter Try.func19, Try.ntmps19
 go_wp2_with (first | ((with_reducible refine gate_dst (N := 7) rfl ?_); refine box_event ?hg (N := 7) ?hd (cs := #[.int .i64 0, .int .i64 0, .int .i64 0, .int .i64 0]) (t := 28) ?hr ?_; (case hd => rfl); (case hg => rfl); (case hr => first | (go_simp; done) | (go_simp; rfl)); intro gb229 hg w4 hbox hb; have n0_ := am (below_step (zB HB) hb); have n1_ := am (hbox); have n2_ := am ((by rw [hg]; exact (below_size (zB HB)) : w.heap.size ≤ gb229)); have n3_ := am ((by rw [hg]; exact (below_size (zB HB)) : w.heap.size ≤ gb229)); clear HB; have HB := n0_; have BK229 := n1_; have GW229 := n2_; have GE229 := n3_; clear n0_ n1_ n2_ n3_; clear hb hbox hg))
 go_loopg [8, 16] k (fun kq v8 v16 w' => ∃ (x8_1 : List (S25)) (x16_1 : Int) (x230000_1 : Int) (x230001_1 : Int) (x230002_1 : Int) (x230003_1 : Int), v16 = .int .i64 x16_1 ∧ Aside0 (prefetch_Replay.l0 kq a1 a2 x8_1 l0 (l0.length : Int) x16_1 x230000_1 x230001_1 x230002_1 x230003_1 = some r) ∧ Aside0 (kq ≤ k) ∧ Aside0 (Kd.R k25 25 w' w.heap.size (fun _ => True) v8 x8_1) ∧ Aside0 (w'.heap[gb229]? = some (.cells #[.int .i64 x230000_1, .int .i64 x230001_1, .int .i64 x230002_1, .int .i64 x230003_1] 28 (0, 0))) ∧ Aside0 (Below w.heap.size w w'))
 case atStart => exact ⟨(([] : List (S25))), (0), (0), (0), (0), (0), zS, H', ⟨Nat.le_refl _⟩, ⟨by first | exact Kd.R_nil _ _ _ _ _ | exact Kd.N_nil _ _ _ _ _ | exact Kd.V_nil _ _ _ _ _ | exact Kd.Q_nil _ _ _ _ _ | exact Kd.S_nil _ _ _ _ _⟩, ⟨by refine zL ?_; exact BK229.out⟩, ⟨zG HB GE229⟩⟩
 case round =>
  clear H'
  try clear c1
  try clear p2
  obtain ⟨x8_1, x16_1, x230000_1, x230001_1, x230002_1, x230003_1, rfl, HA, HK1, HO_8, BK229, HB⟩ := hrel
  cases gk with
  | zero => exact absurd HA.out (by simp [prefetch_Replay.l0])
  | succ k1 =>
   have H := HA.out
   clear HA
   simp only [prefetch_Replay.l0] at H
   by_cases c5 : x16_1 < (l0.length : Int)
   ·rw [if_pos c5] at H
    have c5b0 : decide (x16_1 < (l0.length : Int)) = true := decide_eq_true c5
    clear c5
    by_cases c6 : 0 ≤ x16_1
    ·rw [if_pos c6] at H
     have c6b0 : decide (0 ≤ x16_1) = true := decide_eq_true c6
     clear c6
     by_cases c7 : x16_1 < (l0.length : Int)
     ·rw [if_pos c7] at H
      have c7b0 : decide (x16_1 < (l0.length : Int)) = true := decide_eq_true c7
      clear c7
      replace H := Option.bind_eq_some_iff.mp H
      obtain ⟨⟨t232, t233, t234, t235, t236, t237⟩, A80, H⟩ := H
      replace H : (if (t232 == 0 && (t233 == 0 && (t234 == 0 && (t235 == 0)))) = true then ((prefetch_valid.f k1 x230000_1 x230001_1 x230002_1 x230003_1 ((rd_T25 l0 x16_1).f0) ((rd_T25 l0 x16_1).f1) a1 a2).bind fun t240 => (prefetch_Replay.j1 k1 a1 a2 x8_1 l0 (l0.length : Int) x16_1 (!t240) x230000_1 x230001_1 x230002_1 x230003_1 ((rd_T25 l0 x16_1).f0) ((rd_T25 l0 x16_1).f1) t232 t233 t234 t235 t236 t237)) else (prefetch_Replay.j1 k1 a1 a2 x8_1 l0 (l0.length : Int) x16_1 false x230000_1 x230001_1 x230002_1 x230003_1 ((rd_T25 l0 x16_1).f0) ((rd_T25 l0 x16_1).f1) t232 t233 t234 t235 t236 t237)) = some r := H
      have A8 := am A80
      clear A80
      have HC9 := am H
      clear H
      have p230 : 0 ≤ (x16_1 : Int) := of_decide_eq_true zA
      have q230 : x16_1 < (l0.length : Int) := of_decide_eq_true zA
      obtain ⟨ad230, e230, hx230_0, hx230_1⟩ := at_T25 HR0.out x16_1 p230 q230
      cases e230
      replace hx230_0 := (HB.out.cell (World.block_lt_of_cell? w _ hx230_0)).trans hx230_0
      replace hx230_1 := (HB.out.cell (World.block_lt_of_cell? w _ hx230_1)).trans hx230_1
      replace p230 := eq_true p230
      replace q230 := eq_true q230
      go_upto_region 7 with (first | ((with_reducible refine gate_dst (N := 10) rfl ?_); refine box_event ?hg (N := 10) ?hd (cs := #[.int .i64 0, .int .i64 0]) (t := 25) ?hr ?_; (case hd => rfl); (case hg => rfl); (case hr => first | (go_simp; done) | (go_simp; rfl)); intro gb231 hg w10 hbox hb; have n0_ := am (Kd.R_below (Kd.R_elderB (zR HO_8.out) gb231 (Nat.le_of_eq hg.symm)) hb); have n1_ := am (blk_below (g := gb229) (o := .cells #[.int .i64 x230000_1, .int .i64 x230001_1, .int .i64 x230002_1, .int .i64 x230003_1] 28 (0, 0)) (zL BK229.out) hb); have n2_ := am (below_step (zG HB GE229) hb); have n3_ := am (hbox); have n4_ := am ((by rw [hg]; exact (below_size (zG HB GE229)) : w.heap.size ≤ gb231)); have n5_ := am ((by rw [hg]; exact (below_size (zG HB GE229)) : w.heap.size ≤ gb231)); have n6_ := am ((by rw [hg]; exact Nat.ne_of_lt (blk_lt (g := gb229) (o := .cells #[.int .i64 x230000_1, .int .i64 x230001_1, .int .i64 x230002_1, .int .i64 x230003_1] 28 (0, 0)) (zL BK229.out)) : gb229 ≠ gb231)); have n7_ := am ((by rw [hg]; exact Nat.ne_of_gt (blk_lt (g := gb229) (o := .cells #[.int .i64 x230000_1, .int .i64 x230001_1, .int .i64 x230002_1, .int .i64 x230003_1] 28 (0, 0)) (zL BK229.out)) : gb231 ≠ gb229)); clear HO_8; clear BK229; clear HB; have HO_8 := n0_; have BK229 := n1_; have HB := n2_; have BK231 := n3_; have GW231 := n4_; have GE231 := n5_; have NB229_231 := n6_; have NB231_229 := n7_; clear n0_ n1_ n2_ n3_ n4_ n5_ n6_ n7_; clear hb hbox hg; have hnb11 := NB231_229.out; have hnc11 := NB229_231.out; have hcz12_0 : w10.cell? ⟨gb231, 0, none⟩ = some (.int .i64 0) := (blk_cell BK231.out 0).trans rfl; have hcz12_1 : w10.cell? ⟨gb231, 1, none⟩ = some (.int .i64 0) := (blk_cell BK231.out 1).trans rfl; have hfz12_0 := blk_frozen BK231.out 0; have hfz12_1 := blk_frozen BK231.out 1; have hcz13_0 : w10.cell? ⟨gb229, 0, none⟩ = some (.int .i64 x230000_1) := (blk_cell BK229.out 0).trans rfl; have hcz13_1 : w10.cell? ⟨gb229, 1, none⟩ = some (.int .i64 x230001_1) := (blk_cell BK229.out 1).trans rfl; have hcz13_2 : w10.cell? ⟨gb229, 2, none⟩ = some (.int .i64 x230002_1) := (blk_cell BK229.out 2).trans rfl; have hcz13_3 : w10.cell? ⟨gb229, 3, none⟩ = some (.int .i64 x230003_1) := (blk_cell BK229.out 3).trans rfl; have hfz13_0 := blk_frozen BK229.out 0; have hfz13_1 := blk_frozen BK229.out 1; have hfz13_2 := blk_frozen BK229.out 2; have hfz13_3 := blk_frozen BK229.out 3) | ((with_reducible refine gate_callee (f := 9) rfl ?_); refine goesL_ (some 25) rfl rfl Try.func9 (by kernel_rfl) rfl #[.agg #[.int .i64 x230000_1, .int .i64 x230001_1, .int .i64 x230002_1, .int .i64 x230003_1], .agg #[.int .i64 ((rd_T25 l0 x16_1).f0), .int .i64 ((rd_T25 l0 x16_1).f1)], .int .i64 a1, .int .i64 a2] rfl zM ?_; (with_reducible refine (prefetch_Read.calls k1 x230000_1 x230001_1 x230002_1 x230003_1 ((rd_T25 l0 x16_1).f0) ((rd_T25 l0 x16_1).f1) a1 a2 t232 t233 t234 t235 t236 t237 _ A8.out).mono ?_); rintro e w14 ⟨rfl, hb⟩; refine ⟨_, rfl, ?_⟩; have n0_ := am (Kd.R_below (by refine zR ?_; exact (Kd.R_mono (Kd.R_far (p := ⟨gb231, 1, none⟩) (Kd.R_far (p := ⟨gb231, 0, none⟩) (Kd.R_mono HO_8.out (fun k_ hk => (⟨hk, hk.2⟩ : _ ∧ k_ ≠ gb231))) (fun _ hk => hk.2) (.int .i64 ((rd_T25 l0 x16_1).f0))) (fun _ hk => hk.2) (.int .i64 ((rd_T25 l0 x16_1).f1))) (fun _ h_ => h_.1))) hb); have n1_ := am (blk_below (g := gb229) (o := .cells #[.int .i64 x230000_1, .int .i64 x230001_1, .int .i64 x230002_1, .int .i64 x230003_1] 28 (0, 0)) (by refine zL ?_; refine blk_far ?_ NB229_231.out _; refine zL ?_; refine blk_far ?_ NB229_231.out _; refine zL ?_; exact BK229.out) hb); have n2_ := am (blk_below (g := gb231) (o := .cells #[.int .i64 ((rd_T25 l0 x16_1).f0), .int .i64 ((rd_T25 l0 x16_1).f1)] 25 (0, 0)) (by refine zL ?_; refine blk_put (cs := #[.int .i64 ((rd_T25 l0 x16_1).f0), .int .i64 0]) ?_ 1 _ rfl; refine zL ?_; refine blk_put (cs := #[.int .i64 0, .int .i64 0]) ?_ 0 _ rfl; refine zL ?_; exact BK231.out) hb); have n3_ := am (below_step (zG2 HB GE229 GE231) hb); clear HO_8; clear BK229; clear BK231; clear HB; have HO_8 := n0_; have BK229 := n1_; have BK231 := n2_; have HB := n3_; clear n0_ n1_ n2_ n3_; (try clear hb); (try clear hb2); (try clear hk); (try clear hi)) | ((with_reducible refine gate_dst (N := 11) rfl ?_); refine box_event ?hg (N := 11) ?hd (cs := #[.int .i64 0, .int .i64 0, .int .i64 0, .int .i64 0]) (t := 28) ?hr ?_; (case hd => rfl); (case hg => rfl); (case hr => first | (go_simp; done) | (go_simp; rfl)); intro gb238 hg w15 hbox hb; have n0_ := am (Kd.R_below (zR HO_8.out) hb); have n1_ := am (blk_below (g := gb229) (o := .cells #[.int .i64 x230000_1, .int .i64 x230001_1, .int .i64 x230002_1, .int .i64 x230003_1] 28 (0, 0)) (zL BK229.out) hb); have n2_ := am (blk_below (g := gb231) (o := .cells #[.int .i64 ((rd_T25 l0 x16_1).f0), .int .i64 ((rd_T25 l0 x16_1).f1)] 25 (0, 0)) (zL BK231.out) hb); have n3_ := am (below_step (zG2 HB GE229 GE231) hb); have n4_ := am (hbox); have n5_ := am ((by rw [hg]; exact (below_size (zG2 HB GE229 GE231)) : w.heap.size ≤ gb238)); have n6_ := am ((by rw [hg]; exact (below_size (zG2 HB GE229 GE231)) : w.heap.size ≤ gb238)); have n7_ := am ((by rw [hg]; exact Nat.ne_of_lt (blk_lt (g := gb229) (o := .cells #[.int .i64 x230000_1, .int .i64 x230001_1, .int .i64 x230002_1, .int .i64 x230003_1] 28 (0, 0)) (zL BK229.out)) : gb229 ≠ gb238)); have n8_ := am ((by rw [hg]; exact Nat.ne_of_gt (blk_lt (g := gb229) (o := .cells #[.int .i64 x230000_1, .int .i64 x230001_1, .int .i64 x230002_1, .int .i64 x230003_1] 28 (0, 0)) (zL BK229.out)) : gb238 ≠ gb229)); have n9_ := am ((by rw [hg]; exact Nat.ne_of_lt (blk_lt (g := gb231) (o := .cells #[.int .i64 ((rd_T25 l0 x16_1).f0), .int .i64 ((rd_T25 l0 x16_1).f1)] 25 (0, 0)) (zL BK231.out)) : gb231 ≠ gb238)); have n10_ := am ((by rw [hg]; exact Nat.ne_of_gt (blk_lt (g := gb231) (o := .cells #[.int .i64 ((rd_T25 l0 x16_1).f0), .int .i64 ((rd_T25 l0 x16_1).f1)] 25 (0, 0)) (zL BK231.out)) : gb238 ≠ gb231)); clear HO_8; clear BK229; clear BK231; clear HB; have HO_8 := n0_; have BK229 := n1_; have BK231 := n2_; have HB := n3_; have BK238 := n4_; have GW238 := n5_; have GE238 := n6_; have NB229_238 := n7_; have NB238_229 := n8_; have NB231_238 := n9_; have NB238_231 := n10_; clear n0_ n1_ n2_ n3_ n4_ n5_ n6_ n7_ n8_ n9_ n10_; clear hb hbox hg) | ((with_reducible refine gate_dst (N := 12) rfl ?_); refine box_event ?hg (N := 12) ?hd (cs := #[.int .i64 0, .int .i64 0]) (t := 25) ?hr ?_; (case hd => rfl); (case hg => rfl); (case hr => first | (go_simp; done) | (go_simp; rfl)); intro gb239 hg w16 hbox hb; have n0_ := am (Kd.R_below (Kd.R_elderB (zR HO_8.out) gb239 (Nat.le_of_eq hg.symm)) hb); have n1_ := am (blk_below (g := gb229) (o := .cells #[.int .i64 x230000_1, .int .i64 x230001_1, .int .i64 x230002_1, .int .i64 x230003_1] 28 (0, 0)) (zL BK229.out) hb); have n2_ := am (blk_below (g := gb231) (o := .cells #[.int .i64 ((rd_T25 l0 x16_1).f0), .int .i64 ((rd_T25 l0 x16_1).f1)] 25 (0, 0)) (zL BK231.out) hb); have n3_ := am (blk_below (g := gb238) (o := .cells #[.int .i64 0, .int .i64 0, .int .i64 0, .int .i64 0] 28 (0, 0)) (zL BK238.out) hb); have n4_ := am (below_step (zG3 HB GE229 GE231 GE238) hb); have n5_ := am (hbox); have n6_ := am ((by rw [hg]; exact (below_size (zG3 HB GE229 GE231 GE238)) : w.heap.size ≤ gb239)); have n7_ := am ((by rw [hg]; exact (below_size (zG3 HB GE229 GE231 GE238)) : w.heap.size ≤ gb239)); have n8_ := am ((by rw [hg]; exact Nat.ne_of_lt (blk_lt (g := gb229) (o := .cells #[.int .i64 x230000_1, .int .i64 x230001_1, .int .i64 x230002_1, .int .i64 x230003_1] 28 (0, 0)) (zL BK229.out)) : gb229 ≠ gb239)); have n9_ := am ((by rw [hg]; exact Nat.ne_of_gt (blk_lt (g := gb229) (o := .cells #[.int .i64 x230000_1, .int .i64 x230001_1, .int .i64 x230002_1, .int .i64 x230003_1] 28 (0, 0)) (zL BK229.out)) : gb239 ≠ gb229)); have n10_ := am ((by rw [hg]; exact Nat.ne_of_lt (blk_lt (g := gb231) (o := .cells #[.int .i64 ((rd_T25 l0 x16_1).f0), .int .i64 ((rd_T25 l0 x16_1).f1)] 25 (0, 0)) (zL BK231.out)) : gb231 ≠ gb239)); have n11_ := am ((by rw [hg]; exact Nat.ne_of_gt (blk_lt (g := gb231) (o := .cells #[.int .i64 ((rd_T25 l0 x16_1).f0), .int .i64 ((rd_T25 l0 x16_1).f1)] 25 (0, 0)) (zL BK231.out)) : gb239 ≠ gb231)); have n12_ := am ((by rw [hg]; exact Nat.ne_of_lt (blk_lt (g := gb238) (o := .cells #[.int .i64 0, .int .i64 0, .int .i64 0, .int .i64 0] 28 (0, 0)) (zL BK238.out)) : gb238 ≠ gb239)); have n13_ := am ((by rw [hg]; exact Nat.ne_of_gt (blk_lt (g := gb238) (o := .cells #[.int .i64 0, .int .i64 0, .int .i64 0, .int .i64 0] 28 (0, 0)) (zL BK238.out)) : gb239 ≠ gb238)); clear HO_8; clear BK229; clear BK231; clear BK238; clear HB; have HO_8 := n0_; have BK229 := n1_; have BK231 := n2_; have BK238 := n3_; have HB := n4_; have BK239 := n5_; have GW239 := n6_; have GE239 := n7_; have NB229_239 := n8_; have NB239_229 := n9_; have NB231_239 := n10_; have NB239_231 := n11_; have NB238_239 := n12_; have NB239_238 := n13_; clear n0_ n1_ n2_ n3_ n4_ n5_ n6_ n7_ n8_ n9_ n10_ n11_ n12_ n13_; clear hb hbox hg; have hnb17 := NB238_229.out; have hnc17 := NB229_238.out; have hnb18 := NB238_231.out; have hnc18 := NB231_238.out; have hnb19 := NB238_239.out; have hnc19 := NB239_238.out; have hcz20_0 : w16.cell? ⟨gb238, 0, none⟩ = some (.int .i64 0) := (blk_cell BK238.out 0).trans rfl; have hcz20_1 : w16.cell? ⟨gb238, 1, none⟩ = some (.int .i64 0) := (blk_cell BK238.out 1).trans rfl; have hcz20_2 : w16.cell? ⟨gb238, 2, none⟩ = some (.int .i64 0) := (blk_cell BK238.out 2).trans rfl; have hcz20_3 : w16.cell? ⟨gb238, 3, none⟩ = some (.int .i64 0) := (blk_cell BK238.out 3).trans rfl; have hfz20_0 := blk_frozen BK238.out 0; have hfz20_1 := blk_frozen BK238.out 1; have hfz20_2 := blk_frozen BK238.out 2; have hfz20_3 := blk_frozen BK238.out 3; have hnb21 := NB239_229.out; have hnc21 := NB229_239.out; have hnb22 := NB239_231.out; have hnc22 := NB231_239.out; have hcz23_0 : w16.cell? ⟨gb239, 0, none⟩ = some (.int .i64 0) := (blk_cell BK239.out 0).trans rfl; have hcz23_1 : w16.cell? ⟨gb239, 1, none⟩ = some (.int .i64 0) := (blk_cell BK239.out 1).trans rfl; have hfz23_0 := blk_frozen BK239.out 0; have hfz23_1 := blk_frozen BK239.out 1))
      (try simp only [Act.put, List.setIfInBounds_toArray, List.set_cons_zero, List.set_cons_succ])
      go_cut [38] (fun v38 wc => ∃ (kq : Nat) (x38_8 : Bool), v38 = .bool x38_8 ∧ Aside0 (prefetch_Replay.j1 kq a1 a2 x8_1 l0 (l0.length : Int) x16_1 x38_8 x230000_1 x230001_1 x230002_1 x230003_1 ((rd_T25 l0 x16_1).f0) ((rd_T25 l0 x16_1).f1) t232 t233 t234 t235 t236 t237 = some r) ∧ Aside0 (kq ≤ k1) ∧ Aside0 (Kd.R k25 25 wc w.heap.size (fun k_ => k_ ≠ gb231 ∧ k_ ≠ gb239) u8 x8_1) ∧ Aside0 (wc.heap[gb229]? = some (.cells #[.int .i64 x230000_1, .int .i64 x230001_1, .int .i64 x230002_1, .int .i64 x230003_1] 28 (0, 0))) ∧ Aside0 (wc.heap[gb231]? = some (.cells #[.int .i64 ((rd_T25 l0 x16_1).f0), .int .i64 ((rd_T25 l0 x16_1).f1)] 25 (0, 0))) ∧ Aside0 (wc.heap[gb238]? = some (.cells #[.int .i64 t232, .int .i64 t233, .int .i64 t234, .int .i64 t235] 28 (0, 0))) ∧ Aside0 (wc.heap[gb239]? = some (.cells #[.int .i64 t236, .int .i64 t237] 25 (0, 0))) ∧ Aside0 (Below w.heap.size w wc))
      case first =>
       have H := HC9.out
       clear HC9
       by_cases c24 : (t232 == 0 && (t233 == 0 && (t234 == 0 && (t235 == 0)))) = true
       ·rw [if_pos c24] at H
        have c24b0 : (t232 == 0 && (t233 == 0 && (t234 == 0 && (t235 == 0)))) = true := c24
        (try (have c24b1 : decide (t232 = 0 && (t233 == 0 && (t234 == 0 && (t235 == 0)))) = true := by simpa using c24))
        (try (have c24b2 : (t232 == 0 && (t233 == 0 && (t234 == 0 && (t235 == 0)))) = true := by simpa using c24))
        clear c24
        (first | rw [c24b0] | (simp only [i64_w, i32_w]; rw [c24b0]) | skip)
        replace H := Option.bind_eq_some_iff.mp H
        obtain ⟨t240, A250, H⟩ := H
        replace H : (prefetch_Replay.j1 k1 a1 a2 x8_1 l0 (l0.length : Int) x16_1 (!t240) x230000_1 x230001_1 x230002_1 x230003_1 ((rd_T25 l0 x16_1).f0) ((rd_T25 l0 x16_1).f1) t232 t233 t234 t235 t236 t237) = some r := H
        have A25 := am A250
        clear A250
        have H' := am H
        clear H
        have hnb26 := NB238_229.out
        have hnc26 := NB229_238.out
        have hnb27 := NB238_231.out
        have hnc27 := NB231_238.out
        have hnb28 := NB238_239.out
        have hnc28 := NB239_238.out
        have hcz29_0 : w16.cell? ⟨gb238, 0, none⟩ = some (.int .i64 0) := (blk_cell BK238.out 0).trans rfl
        have hcz29_1 : w16.cell? ⟨gb238, 1, none⟩ = some (.int .i64 0) := (blk_cell BK238.out 1).trans rfl
        have hcz29_2 : w16.cell? ⟨gb238, 2, none⟩ = some (.int .i64 0) := (blk_cell BK238.out 2).trans rfl
        have hcz29_3 : w16.cell? ⟨gb238, 3, none⟩ = some (.int .i64 0) := (blk_cell BK238.out 3).trans rfl
        have hfz29_0 := blk_frozen BK238.out 0
        have hfz29_1 := blk_frozen BK238.out 1
        have hfz29_2 := blk_frozen BK238.out 2
        have hfz29_3 := blk_frozen BK238.out 3
        have hnb30 := NB229_231.out
        have hnc30 := NB231_229.out
        have hnb31 := NB229_239.out
        have hnc31 := NB239_229.out
        have hcz32_0 : w16.cell? ⟨gb229, 0, none⟩ = some (.int .i64 x230000_1) := (blk_cell BK229.out 0).trans rfl
        have hcz32_1 : w16.cell? ⟨gb229, 1, none⟩ = some (.int .i64 x230001_1) := (blk_cell BK229.out 1).trans rfl
        have hcz32_2 : w16.cell? ⟨gb229, 2, none⟩ = some (.int .i64 x230002_1) := (blk_cell BK229.out 2).trans rfl
        have hcz32_3 : w16.cell? ⟨gb229, 3, none⟩ = some (.int .i64 x230003_1) := (blk_cell BK229.out 3).trans rfl
        have hfz32_0 := blk_frozen BK229.out 0
        have hfz32_1 := blk_frozen BK229.out 1
        have hfz32_2 := blk_frozen BK229.out 2
        have hfz32_3 := blk_frozen BK229.out 3
        have hnb33 := NB231_239.out
        have hnc33 := NB239_231.out
        have hcz34_0 : w16.cell? ⟨gb231, 0, none⟩ = some (.int .i64 ((rd_T25 l0 x16_1).f0)) := (blk_cell BK231.out 0).trans rfl
        have hcz34_1 : w16.cell? ⟨gb231, 1, none⟩ = some (.int .i64 ((rd_T25 l0 x16_1).f1)) := (blk_cell BK231.out 1).trans rfl
        have hfz34_0 := blk_frozen BK231.out 0
        have hfz34_1 := blk_frozen BK231.out 1
        go_wp2_with (first | (go_at_call 26; (with_reducible refine (prefetch_valid.calls k1 x230000_1 x230001_1 x230002_1 x230003_1 ((rd_T25 l0 x16_1).f0) ((rd_T25 l0 x16_1).f1) a1 a2 t240 _ A25.out).mono ?_); rintro e w35 ⟨rfl, hb⟩; have n0_ := am (Kd.R_below (by refine zR ?_; exact (Kd.R_mono (Kd.R_mono (Kd.R_far (p := ⟨gb239, 1, none⟩) (Kd.R_far (p := ⟨gb239, 0, none⟩) (Kd.R_far (p := ⟨gb238, 3, none⟩) (Kd.R_far (p := ⟨gb238, 2, none⟩) (Kd.R_far (p := ⟨gb238, 1, none⟩) (Kd.R_far (p := ⟨gb238, 0, none⟩) (Kd.R_mono (Kd.R_types HO_8.out BK238.out (by decide)) (fun k_ hk => (⟨hk, hk.1.2⟩ : _ ∧ k_ ≠ gb239))) (fun _ hk => hk.1.2) (.int .i64 t232)) (fun _ hk => hk.1.2) (.int .i64 t233)) (fun _ hk => hk.1.2) (.int .i64 t234)) (fun _ hk => hk.1.2) (.int .i64 t235)) (fun _ hk => hk.2) (.int .i64 t236)) (fun _ hk => hk.2) (.int .i64 t237)) (fun _ h_ => h_.1)) (fun _ h_ => h_.1))) hb); have n1_ := am (blk_below (g := gb229) (o := .cells #[.int .i64 x230000_1, .int .i64 x230001_1, .int .i64 x230002_1, .int .i64 x230003_1] 28 (0, 0)) (by refine zL ?_; refine blk_far ?_ NB229_239.out _; refine zL ?_; refine blk_far ?_ NB229_239.out _; refine zL ?_; refine blk_far ?_ NB229_238.out _; refine zL ?_; refine blk_far ?_ NB229_238.out _; refine zL ?_; refine blk_far ?_ NB229_238.out _; refine zL ?_; refine blk_far ?_ NB229_238.out _; refine zL ?_; exact BK229.out) hb); have n2_ := am (blk_below (g := gb231) (o := .cells #[.int .i64 ((rd_T25 l0 x16_1).f0), .int .i64 ((rd_T25 l0 x16_1).f1)] 25 (0, 0)) (by refine zL ?_; refine blk_far ?_ NB231_239.out _; refine zL ?_; refine blk_far ?_ NB231_239.out _; refine zL ?_; refine blk_far ?_ NB231_238.out _; refine zL ?_; refine blk_far ?_ NB231_238.out _; refine zL ?_; refine blk_far ?_ NB231_238.out _; refine zL ?_; refine blk_far ?_ NB231_238.out _; refine zL ?_; exact BK231.out) hb); have n3_ := am (blk_below (g := gb238) (o := .cells #[.int .i64 t232, .int .i64 t233, .int .i64 t234, .int .i64 t235] 28 (0, 0)) (by refine zL ?_; refine blk_far ?_ NB238_239.out _; refine zL ?_; refine blk_far ?_ NB238_239.out _; refine zL ?_; refine blk_put (cs := #[.int .i64 t232, .int .i64 t233, .int .i64 t234, .int .i64 0]) ?_ 3 _ rfl; refine zL ?_; refine blk_put (cs := #[.int .i64 t232, .int .i64 t233, .int .i64 0, .int .i64 0]) ?_ 2 _ rfl; refine zL ?_; refine blk_put (cs := #[.int .i64 t232, .int .i64 0, .int .i64 0, .int .i64 0]) ?_ 1 _ rfl; refine zL ?_; refine blk_put (cs := #[.int .i64 0, .int .i64 0, .int .i64 0, .int .i64 0]) ?_ 0 _ rfl; refine zL ?_; exact BK238.out) hb); have n4_ := am (blk_below (g := gb239) (o := .cells #[.int .i64 t236, .int .i64 t237] 25 (0, 0)) (by refine zL ?_; refine blk_put (cs := #[.int .i64 t236, .int .i64 0]) ?_ 1 _ rfl; refine zL ?_; refine blk_put (cs := #[.int .i64 0, .int .i64 0]) ?_ 0 _ rfl; refine zL ?_; refine blk_far ?_ NB239_238.out _; refine zL ?_; refine blk_far ?_ NB239_238.out _; refine zL ?_; refine blk_far ?_ NB239_238.out _; refine zL ?_; refine blk_far ?_ NB239_238.out _; refine zL ?_; exact BK239.out) hb); have n5_ := am (below_step (zG4 HB GE229 GE231 GE238 GE239) hb); clear HO_8; clear BK229; clear BK231; clear BK238; clear BK239; clear HB; have HO_8 := n0_; have BK229 := n1_; have BK231 := n2_; have BK238 := n3_; have BK239 := n4_; have HB := n5_; clear n0_ n1_ n2_ n3_ n4_ n5_; (try clear hb); (try clear hb2); (try clear hk); (try clear hi)))
        go_meet
        case rel => exact ⟨_, (!t240), zS, H', ⟨by have := HK1.out; first | omega | exact Nat.le_refl _⟩, ⟨by refine zR ?_; exact Kd.R_mono HO_8.out (fun _ hk => ⟨hk.1.2, hk.2⟩)⟩, ⟨by refine zL ?_; exact BK229.out⟩, ⟨by refine zL ?_; exact BK231.out⟩, ⟨by refine zL ?_; exact BK238.out⟩, ⟨by refine zL ?_; exact BK239.out⟩, ⟨zG4 HB GE229 GE231 GE238 GE239⟩⟩
       ·rw [if_neg c24] at H
        have c24b0 : (t232 == 0 && (t233 == 0 && (t234 == 0 && (t235 == 0)))) = false := by simpa using c24
        (try (have c24b1 : decide (t232 = 0 && (t233 == 0 && (t234 == 0 && (t235 == 0)))) = false := by simpa using c24))
        (try (have c24b2 : (t232 == 0 && (t233 == 0 && (t234 == 0 && (t235 == 0)))) = false := by simpa using c24))
        (try (have c24b3 : ¬ (t232 = 0 && (t233 == 0 && (t234 == 0 && (t235 == 0)))) := by simpa using c24))
        clear c24
        (first | rw [c24b0] | (simp only [i64_w, i32_w]; rw [c24b0]) | skip)
        have H' := am H
        clear H
        have hnb36 := NB238_229.out
        have hnc36 := NB229_238.out
        have hnb37 := NB238_231.out
        have hnc37 := NB231_238.out
        have hnb38 := NB238_239.out
        have hnc38 := NB239_238.out
        have hcz39_0 : w16.cell? ⟨gb238, 0, none⟩ = some (.int .i64 0) := (blk_cell BK238.out 0).trans rfl
        have hcz39_1 : w16.cell? ⟨gb238, 1, none⟩ = some (.int .i64 0) := (blk_cell BK238.out 1).trans rfl
        have hcz39_2 : w16.cell? ⟨gb238, 2, none⟩ = some (.int .i64 0) := (blk_cell BK238.out 2).trans rfl
        have hcz39_3 : w16.cell? ⟨gb238, 3, none⟩ = some (.int .i64 0) := (blk_cell BK238.out 3).trans rfl
        have hfz39_0 := blk_frozen BK238.out 0
        have hfz39_1 := blk_frozen BK238.out 1
        have hfz39_2 := blk_frozen BK238.out 2
        have hfz39_3 := blk_frozen BK238.out 3
        go_wp2
        go_meet
        case rel => exact ⟨_, (false), zS, H', ⟨by have := HK1.out; first | omega | exact Nat.le_refl _⟩, ⟨by refine zR ?_; exact Kd.R_mono (Kd.R_far (p := ⟨gb239, 1, none⟩) (Kd.R_far (p := ⟨gb239, 0, none⟩) (Kd.R_far (p := ⟨gb238, 3, none⟩) (Kd.R_far (p := ⟨gb238, 2, none⟩) (Kd.R_far (p := ⟨gb238, 1, none⟩) (Kd.R_far (p := ⟨gb238, 0, none⟩) (Kd.R_mono (Kd.R_types HO_8.out BK238.out (by decide)) (fun k_ hk => (⟨hk, hk.1.2⟩ : _ ∧ k_ ≠ gb239))) (fun _ hk => hk.1.2) (.int .i64 t232)) (fun _ hk => hk.1.2) (.int .i64 t233)) (fun _ hk => hk.1.2) (.int .i64 t234)) (fun _ hk => hk.1.2) (.int .i64 t235)) (fun _ hk => hk.2) (.int .i64 t236)) (fun _ hk => hk.2) (.int .i64 t237)) (fun _ hk => ⟨hk.1.1.1.2, hk.1.1.2⟩)⟩, ⟨by refine zL ?_; refine blk_far ?_ NB229_239.out _; refine zL ?_; refine blk_far ?_ NB229_239.out _; refine zL ?_; refine blk_far ?_ NB229_238.out _; refine zL ?_; refine blk_far ?_ NB229_238.out _; refine zL ?_; refine blk_far ?_ NB229_238.out _; refine zL ?_; refine blk_far ?_ NB229_238.out _; refine zL ?_; exact BK229.out⟩, ⟨by refine zL ?_; refine blk_far ?_ NB231_239.out _; refine zL ?_; refine blk_far ?_ NB231_239.out _; refine zL ?_; refine blk_far ?_ NB231_238.out _; refine zL ?_; refine blk_far ?_ NB231_238.out _; refine zL ?_; refine blk_far ?_ NB231_238.out _; refine zL ?_; refine blk_far ?_ NB231_238.out _; refine zL ?_; exact BK231.out⟩, ⟨by refine zL ?_; refine blk_far ?_ NB238_239.out _; refine zL ?_; refine blk_far ?_ NB238_239.out _; refine zL ?_; refine blk_put (cs := #[.int .i64 t232, .int .i64 t233, .int .i64 t234, .int .i64 0]) ?_ 3 _ rfl; refine zL ?_; refine blk_put (cs := #[.int .i64 t232, .int .i64 t233, .int .i64 0, .int .i64 0]) ?_ 2 _ rfl; refine zL ?_; refine blk_put (cs := #[.int .i64 t232, .int .i64 0, .int .i64 0, .int .i64 0]) ?_ 1 _ rfl; refine zL ?_; refine blk_put (cs := #[.int .i64 0, .int .i64 0, .int .i64 0, .int .i64 0]) ?_ 0 _ rfl; refine zL ?_; exact BK238.out⟩, ⟨by refine zL ?_; refine blk_put (cs := #[.int .i64 t236, .int .i64 0]) ?_ 1 _ rfl; refine zL ?_; refine blk_put (cs := #[.int .i64 0, .int .i64 0]) ?_ 0 _ rfl; refine zL ?_; refine blk_far ?_ NB239_238.out _; refine zL ?_; refine blk_far ?_ NB239_238.out _; refine zL ?_; refine blk_far ?_ NB239_238.out _; refine zL ?_; refine blk_far ?_ NB239_238.out _; refine zL ?_; exact BK239.out⟩, ⟨zG4 HB GE229 GE231 GE238 GE239⟩⟩
      case rest =>
       clear HC9
       try clear c1
       try clear c2
       try clear p2
       try clear q2
       try clear hx2
       try clear c3
       try clear c5
       try clear c5b0
       try clear c6
       try clear c6b0
       try clear c7
       try clear c7b0
       try clear c9
       try clear c11
       try clear c17
       try clear c18
       try clear c19
       try clear c21
       try clear c22
       try clear p23
       try clear q23
       try clear hx23
       try clear c24
       try clear c24b0
       try clear c24b1
       try clear c24b2
       try clear c26
       try clear c27
       try clear c28
       try clear c30
       try clear c31
       try clear c33
       try clear c36
       try clear c37
       try clear c38
       try clear hcz12_0
       try clear hcz12_1
       try clear hcz13_0
       try clear hcz13_1
       try clear hcz13_2
       try clear hcz13_3
       try clear hcz20_0
       try clear hcz20_1
       try clear hcz20_2
       try clear hcz20_3
       try clear hcz23_0
       try clear hcz23_1
       try clear hcz29_0
       try clear hcz29_1
       try clear hcz29_2
       try clear hcz29_3
       try clear hcz32_0
       try clear hcz32_1
       try clear hcz32_2
       try clear hcz32_3
       try clear hcz34_0
       try clear hcz34_1
       try clear hcz39_0
       try clear hcz39_1
       try clear hcz39_2
       try clear hcz39_3
       try clear hfz12_0
       try clear hfz12_1
       try clear hfz13_0
       try clear hfz13_1
       try clear hfz13_2
       try clear hfz13_3
       try clear hfz20_0
       try clear hfz20_1
       try clear hfz20_2
       try clear hfz20_3
       try clear hfz23_0
       try clear hfz23_1
       try clear hfz29_0
       try clear hfz29_1
       try clear hfz29_2
       try clear hfz29_3
       try clear hfz32_0
       try clear hfz32_1
       try clear hfz32_2
       try clear hfz32_3
       try clear hfz34_0
       try clear hfz34_1
       try clear hfz39_0
       try clear hfz39_1
       try clear hfz39_2
       try clear hfz39_3
       try clear hx230_0
       try clear hx230_1
       try clear p2
       try clear p230
       try clear q230
       obtain ⟨kq, x38_8, rfl, HA, HJ8, HO_8, BK229, BK231, BK238, BK239, HB⟩ := hcut
       cases kq with
       | zero => exact absurd HA.out (by simp [prefetch_Replay.j1])
       | succ kj8 =>
        have H := HA.out
        clear HA
        simp only [prefetch_Replay.j1] at H
        by_cases c40 : x38_8 = true
        ·subst c40
         have H1 : (prefetch_Replay.l0 kj8 a1 a2 x8_1 l0 (l0.length : Int) (wrap64 (x16_1 + 1)) x230000_1 x230001_1 x230002_1 x230003_1) = some r := by rw [if_pos rfl] at H; exact H
         clear H
         have H := H1
         clear H1
         have H' := am H
         clear H
         go_wp2
         go_roundg kj8
         case measure => have := HK1.out; have := HJ8.out; omega
         case rel => exact ⟨(x8_1), (wrap64 (x16_1 + 1)), (x230000_1), (x230001_1), (x230002_1), (x230003_1), zS, H', ⟨by have := HK1.out; have := HJ8.out; omega⟩, ⟨by refine zR ?_; exact Kd.R_mono HO_8.out (fun _ hk => trivial)⟩, ⟨by refine zL ?_; exact BK229.out⟩, ⟨zG4 HB GE229 GE231 GE238 GE239⟩⟩
        ·replace c40 := Bool.eq_false_iff.mpr c40
         subst c40
         have H1 : ((extent_Subtract.f (([(⟨((rd_T25 l0 x16_1).f0), ((rd_T25 l0 x16_1).f1)⟩ : S25)] : List (S25))) x8_1).bind fun t244 => ((prefetch_Requests.f kj8 t244 t236 t237 a1 0).bind fun t247 => ((extent_Union.f x8_1 t247).bind fun t250 => (prefetch_Replay.l0 kj8 a1 a2 t250 l0 (l0.length : Int) (wrap64 (x16_1 + 1)) t232 t233 t234 t235)))) = some r := by rw [if_neg (show ¬ (false = true) by decide)] at H; exact H
         clear H
         have H := H1
         clear H1
         obtain ⟨y241, hy241⟩ : ∃ y_ : List (S25), y_ = (([(⟨((rd_T25 l0 x16_1).f0), ((rd_T25 l0 x16_1).f1)⟩ : S25)] : List (S25))) := ⟨_, rfl⟩
         replace H : ((extent_Subtract.f y241 x8_1).bind fun t244 => ((prefetch_Requests.f kj8 t244 t236 t237 a1 0).bind fun t247 => ((extent_Union.f x8_1 t247).bind fun t250 => (prefetch_Replay.l0 kj8 a1 a2 t250 l0 (l0.length : Int) (wrap64 (x16_1 + 1)) t232 t233 t234 t235)))) = some r := by first | (rw [hy241]; with_reducible exact H) | (have H2_ := (Option.bind_some _ _).symm.trans H; rw [hy241]; with_reducible exact H2_) | (have H2_ := (Option.bind_some _ _).symm.trans H; with_reducible exact H2_) | with_reducible exact H | (rw [hy241]; exact H) | exact H
         have Ny241 := am hy241
         clear hy241
         replace H := Option.bind_eq_some_iff.mp H
         obtain ⟨t244, A410, H⟩ := H
         replace H : ((prefetch_Requests.f kj8 t244 t236 t237 a1 0).bind fun t247 => ((extent_Union.f x8_1 t247).bind fun t250 => (prefetch_Replay.l0 kj8 a1 a2 t250 l0 (l0.length : Int) (wrap64 (x16_1 + 1)) t232 t233 t234 t235))) = some r := H
         have A41 := am A410
         clear A410
         replace H := Option.bind_eq_some_iff.mp H
         obtain ⟨t247, A420, H⟩ := H
         replace H : ((extent_Union.f x8_1 t247).bind fun t250 => (prefetch_Replay.l0 kj8 a1 a2 t250 l0 (l0.length : Int) (wrap64 (x16_1 + 1)) t232 t233 t234 t235)) = some r := H
         have A42 := am A420
         clear A420
         replace H := Option.bind_eq_some_iff.mp H
         obtain ⟨t250, A430, H⟩ := H
         replace H : (prefetch_Replay.l0 kj8 a1 a2 t250 l0 (l0.length : Int) (wrap64 (x16_1 + 1)) t232 t233 t234 t235) = some r := H
         have A43 := am A430
         clear A430
         have H' := am H
         clear H
         have hnb44 := NB231_229.out
         have hnc44 := NB229_231.out
         have hnb45 := NB231_238.out
         have hnc45 := NB238_231.out
         have hnb46 := NB231_239.out
         have hnc46 := NB239_231.out
         have hcz47_0 : wc.cell? ⟨gb231, 0, none⟩ = some (.int .i64 ((rd_T25 l0 x16_1).f0)) := (blk_cell BK231.out 0).trans rfl
         have hcz47_1 : wc.cell? ⟨gb231, 1, none⟩ = some (.int .i64 ((rd_T25 l0 x16_1).f1)) := (blk_cell BK231.out 1).trans rfl
         have hfz47_0 := blk_frozen BK231.out 0
         have hfz47_1 := blk_frozen BK231.out 1
         go_wp2_with (first | ((with_reducible refine gate_dst (N := 40) rfl ?_); refine Kd.R_lit k25 _ 25 ?hg (N := 40) ?hd (xs := ([(⟨((rd_T25 l0 x16_1).f0), ((rd_T25 l0 x16_1).f1)⟩ : S25)] : List (S25))) (inner := [.int .i64 ((rd_T25 l0 x16_1).f0), .int .i64 ((rd_T25 l0 x16_1).f1)]) (ok := fun _ => True) (okp := fun _ => True) ?hr ?hp (fun _ hk => hk) trivial (Below.refl _ _) (Nat.le_refl _) (by simp) ?_; (case hd => rfl); (case hg => rfl); (case hr => first | (go_simp; done) | (go_simp; rfl)); (case hp => exact (Reps.c2 (show Kd.M k25 _ _ _ (⟨((rd_T25 l0 x16_1).f0), ((rd_T25 l0 x16_1).f1)⟩ : S25) [.int .i64 ((rd_T25 l0 x16_1).f0), .int .i64 ((rd_T25 l0 x16_1).f1)] from (k25_mkM _ _ _ (⟨((rd_T25 l0 x16_1).f0), ((rd_T25 l0 x16_1).f1)⟩ : S25) )) (Reps.none _ _))); intro v242 w48 ho49 hb hg_ hnew_; clear hg_ hnew_; (first | rw [← Ny241.out] at ho49 | (simp only [Int.reduceToNat] at ho49; rw [← Ny241.out] at ho49)); have n0_ := am (Kd.R_elder' (zR HO_8.out) (Kd.R_base ho49) hb); have n1_ := am (Kd.R_lower (Kd.R_newB (Kd.R_newB (Kd.R_new' ho49 (Kd.R_lt (zR HO_8.out))) (g := gb231) (o := .cells #[.int .i64 ((rd_T25 l0 x16_1).f0), .int .i64 ((rd_T25 l0 x16_1).f1)] 25 (0, 0)) (zL BK231.out)) (g := gb239) (o := .cells #[.int .i64 t236, .int .i64 t237] 25 (0, 0)) (zL BK239.out)) (below_size (zG4 HB GE229 GE231 GE238 GE239))); have n2_ := am (blk_below (g := gb229) (o := .cells #[.int .i64 x230000_1, .int .i64 x230001_1, .int .i64 x230002_1, .int .i64 x230003_1] 28 (0, 0)) (zL BK229.out) hb); have n3_ := am (blk_below (g := gb231) (o := .cells #[.int .i64 ((rd_T25 l0 x16_1).f0), .int .i64 ((rd_T25 l0 x16_1).f1)] 25 (0, 0)) (zL BK231.out) hb); have n4_ := am (blk_below (g := gb238) (o := .cells #[.int .i64 t232, .int .i64 t233, .int .i64 t234, .int .i64 t235] 28 (0, 0)) (zL BK238.out) hb); have n5_ := am (blk_below (g := gb239) (o := .cells #[.int .i64 t236, .int .i64 t237] 25 (0, 0)) (zL BK239.out) hb); have n6_ := am (below_step (zG4 HB GE229 GE231 GE238 GE239) hb); clear HO_8; clear BK229; clear BK231; clear BK238; clear BK239; clear HB; have HO_8 := n0_; have HO243 := n1_; have BK229 := n2_; have BK231 := n3_; have BK238 := n4_; have BK239 := n5_; have HB := n6_; clear n0_ n1_ n2_ n3_ n4_ n5_ n6_; clear hb ho49; obtain ⟨Ao50, co50, eo50⟩ := Kd.R_slice HO243.out; subst eo50; obtain ⟨Ao51, co51, eo51⟩ := Kd.R_slice HO_8.out; subst eo51) | ((with_reducible refine gate_callee (f := 34) rfl ?_); refine goesL_ (some 42) rfl rfl Try.func34 (by kernel_rfl) rfl #[.slice Ao50 y241.length co50, .slice Ao51 x8_1.length co51] rfl zM ?_; (with_reducible refine (extent_Subtract.calls _ _ y241 _ _ x8_1 t244 _ ?side1 ?side2 ?side3 ?side4 A41.out).mono ?_); (case side1 => exact zC (Kd.R_reads' HO243.out).2.2); (case side2 => exact (Kd.R_reads' HO243.out).2.1); (case side3 => exact zC (Kd.R_reads' HO_8.out).2.2); (case side4 => exact (Kd.R_reads' HO_8.out).2.1); rintro e w52 ⟨v245, rfl, ho0, hb⟩; refine ⟨_, rfl, ?_⟩; have n0_ := am (Kd.R_elder' (zR HO_8.out) (Kd.R_base ho0) hb); have n1_ := am (Kd.R_elder' (zR HO243.out) (Kd.R_base ho0) hb); have n2_ := am (Kd.R_lower (Kd.R_newB (Kd.R_newB (Kd.R_new' (Kd.R_new' ho0 (Kd.R_lt (zR HO_8.out))) (Kd.R_lt (zR HO243.out))) (g := gb231) (o := .cells #[.int .i64 ((rd_T25 l0 x16_1).f0), .int .i64 ((rd_T25 l0 x16_1).f1)] 25 (0, 0)) (zL BK231.out)) (g := gb239) (o := .cells #[.int .i64 t236, .int .i64 t237] 25 (0, 0)) (zL BK239.out)) (below_size (zG4 HB GE229 GE231 GE238 GE239))); have n3_ := am (blk_below (g := gb229) (o := .cells #[.int .i64 x230000_1, .int .i64 x230001_1, .int .i64 x230002_1, .int .i64 x230003_1] 28 (0, 0)) (zL BK229.out) hb); have n4_ := am (blk_below (g := gb231) (o := .cells #[.int .i64 ((rd_T25 l0 x16_1).f0), .int .i64 ((rd_T25 l0 x16_1).f1)] 25 (0, 0)) (zL BK231.out) hb); have n5_ := am (blk_below (g := gb238) (o := .cells #[.int .i64 t232, .int .i64 t233, .int .i64 t234, .int .i64 t235] 28 (0, 0)) (zL BK238.out) hb); have n6_ := am (blk_below (g := gb239) (o := .cells #[.int .i64 t236, .int .i64 t237] 25 (0, 0)) (zL BK239.out) hb); have n7_ := am (below_step (zG4 HB GE229 GE231 GE238 GE239) hb); clear HO_8; clear HO243; clear BK229; clear BK231; clear BK238; clear BK239; clear HB; have HO_8 := n0_; have HO243 := n1_; have HO246 := n2_; have BK229 := n3_; have BK231 := n4_; have BK238 := n5_; have BK239 := n6_; have HB := n7_; clear n0_ n1_ n2_ n3_ n4_ n5_ n6_ n7_; (try clear hb); (try clear hb2); (try clear hk); (try clear hi); (try clear ho0); have hnb53 := NB239_229.out; have hnc53 := NB229_239.out; have hnb54 := NB239_238.out; have hnc54 := NB238_239.out; have hcz55_0 : w52.cell? ⟨gb239, 0, none⟩ = some (.int .i64 t236) := (blk_cell BK239.out 0).trans rfl; have hcz55_1 : w52.cell? ⟨gb239, 1, none⟩ = some (.int .i64 t237) := (blk_cell BK239.out 1).trans rfl; have hfz55_0 := blk_frozen BK239.out 0; have hfz55_1 := blk_frozen BK239.out 1; obtain ⟨Ao56, co56, eo56⟩ := Kd.R_slice HO246.out; subst eo56) | ((with_reducible refine gate_callee (f := 14) rfl ?_); refine goesL_ (some 47) rfl rfl Try.func14 (by kernel_rfl) rfl #[.slice Ao56 t244.length co56, .agg #[.int .i64 t236, .int .i64 t237], .int .i64 a1, .int .i64 0] rfl zM ?_; (with_reducible refine (prefetch_Requests.calls kj8 _ _ t244 t236 t237 a1 0 t247 _ ?side1 ?side2 A42.out).mono ?_); (case side1 => exact zC (Kd.R_reads' HO246.out).2.2); (case side2 => exact (Kd.R_reads' HO246.out).2.1); rintro e w57 ⟨v248, rfl, ho0, hb⟩; refine ⟨_, rfl, ?_⟩; have n0_ := am (Kd.R_elder' (zR HO_8.out) (Kd.R_base ho0) hb); have n1_ := am (Kd.R_elder' (zR HO243.out) (Kd.R_base ho0) hb); have n2_ := am (Kd.R_elder' (zR HO246.out) (Kd.R_base ho0) hb); have n3_ := am (Kd.R_lower (Kd.R_newB (Kd.R_newB (Kd.R_new' (Kd.R_new' (Kd.R_new' ho0 (Kd.R_lt (zR HO_8.out))) (Kd.R_lt (zR HO243.out))) (Kd.R_lt (zR HO246.out))) (g := gb231) (o := .cells #[.int .i64 ((rd_T25 l0 x16_1).f0), .int .i64 ((rd_T25 l0 x16_1).f1)] 25 (0, 0)) (zL BK231.out)) (g := gb239) (o := .cells #[.int .i64 t236, .int .i64 t237] 25 (0, 0)) (zL BK239.out)) (below_size (zG4 HB GE229 GE231 GE238 GE239))); have n4_ := am (blk_below (g := gb229) (o := .cells #[.int .i64 x230000_1, .int .i64 x230001_1, .int .i64 x230002_1, .int .i64 x230003_1] 28 (0, 0)) (zL BK229.out) hb); have n5_ := am (blk_below (g := gb231) (o := .cells #[.int .i64 ((rd_T25 l0 x16_1).f0), .int .i64 ((rd_T25 l0 x16_1).f1)] 25 (0, 0)) (zL BK231.out) hb); have n6_ := am (blk_below (g := gb238) (o := .cells #[.int .i64 t232, .int .i64 t233, .int .i64 t234, .int .i64 t235] 28 (0, 0)) (zL BK238.out) hb); have n7_ := am (blk_below (g := gb239) (o := .cells #[.int .i64 t236, .int .i64 t237] 25 (0, 0)) (zL BK239.out) hb); have n8_ := am (below_step (zG4 HB GE229 GE231 GE238 GE239) hb); clear HO_8; clear HO243; clear HO246; clear BK229; clear BK231; clear BK238; clear BK239; clear HB; have HO_8 := n0_; have HO243 := n1_; have HO246 := n2_; have HO249 := n3_; have BK229 := n4_; have BK231 := n5_; have BK238 := n6_; have BK239 := n7_; have HB := n8_; clear n0_ n1_ n2_ n3_ n4_ n5_ n6_ n7_ n8_; (try clear hb); (try clear hb2); (try clear hk); (try clear hi); (try clear ho0); obtain ⟨Ao58, co58, eo58⟩ := Kd.R_slice HO249.out; subst eo58) | ((with_reducible refine gate_callee (f := 27) rfl ?_); refine goesL_ (some 48) rfl rfl Try.func27 (by kernel_rfl) rfl #[.slice Ao51 x8_1.length co51, .slice Ao58 t247.length co58] rfl zM ?_; (with_reducible refine (extent_Union.calls _ _ x8_1 _ _ t247 t250 _ ?side1 ?side2 ?side3 ?side4 A43.out).mono ?_); (case side1 => exact zC (Kd.R_reads' HO_8.out).2.2); (case side2 => exact (Kd.R_reads' HO_8.out).2.1); (case side3 => exact zC (Kd.R_reads' HO249.out).2.2); (case side4 => exact (Kd.R_reads' HO249.out).2.1); rintro e w59 ⟨v251, rfl, ho0, hb⟩; refine ⟨_, rfl, ?_⟩; have n0_ := am (Kd.R_elder' (zR HO_8.out) (Kd.R_base ho0) hb); have n1_ := am (Kd.R_elder' (zR HO243.out) (Kd.R_base ho0) hb); have n2_ := am (Kd.R_elder' (zR HO246.out) (Kd.R_base ho0) hb); have n3_ := am (Kd.R_elder' (zR HO249.out) (Kd.R_base ho0) hb); have n4_ := am (Kd.R_lower (Kd.R_newB (Kd.R_newB (Kd.R_new' (Kd.R_new' (Kd.R_new' (Kd.R_new' ho0 (Kd.R_lt (zR HO_8.out))) (Kd.R_lt (zR HO243.out))) (Kd.R_lt (zR HO246.out))) (Kd.R_lt (zR HO249.out))) (g := gb231) (o := .cells #[.int .i64 ((rd_T25 l0 x16_1).f0), .int .i64 ((rd_T25 l0 x16_1).f1)] 25 (0, 0)) (zL BK231.out)) (g := gb239) (o := .cells #[.int .i64 t236, .int .i64 t237] 25 (0, 0)) (zL BK239.out)) (below_size (zG4 HB GE229 GE231 GE238 GE239))); have n5_ := am (blk_below (g := gb229) (o := .cells #[.int .i64 x230000_1, .int .i64 x230001_1, .int .i64 x230002_1, .int .i64 x230003_1] 28 (0, 0)) (zL BK229.out) hb); have n6_ := am (blk_below (g := gb231) (o := .cells #[.int .i64 ((rd_T25 l0 x16_1).f0), .int .i64 ((rd_T25 l0 x16_1).f1)] 25 (0, 0)) (zL BK231.out) hb); have n7_ := am (blk_below (g := gb238) (o := .cells #[.int .i64 t232, .int .i64 t233, .int .i64 t234, .int .i64 t235] 28 (0, 0)) (zL BK238.out) hb); have n8_ := am (blk_below (g := gb239) (o := .cells #[.int .i64 t236, .int .i64 t237] 25 (0, 0)) (zL BK239.out) hb); have n9_ := am (below_step (zG4 HB GE229 GE231 GE238 GE239) hb); clear HO_8; clear HO243; clear HO246; clear HO249; clear BK229; clear BK231; clear BK238; clear BK239; clear HB; have HO_8 := n0_; have HO243 := n1_; have HO246 := n2_; have HO249 := n3_; have HO252 := n4_; have BK229 := n5_; have BK231 := n6_; have BK238 := n7_; have BK239 := n8_; have HB := n9_; clear n0_ n1_ n2_ n3_ n4_ n5_ n6_ n7_ n8_ n9_; (try clear hb); (try clear hb2); (try clear hk); (try clear hi); (try clear ho0); have hnb60 := NB238_229.out; have hnc60 := NB229_238.out; have hcz61_0 : w59.cell? ⟨gb238, 0, none⟩ = some (.int .i64 t232) := (blk_cell BK238.out 0).trans rfl; have hcz61_1 : w59.cell? ⟨gb238, 1, none⟩ = some (.int .i64 t233) := (blk_cell BK238.out 1).trans rfl; have hcz61_2 : w59.cell? ⟨gb238, 2, none⟩ = some (.int .i64 t234) := (blk_cell BK238.out 2).trans rfl; have hcz61_3 : w59.cell? ⟨gb238, 3, none⟩ = some (.int .i64 t235) := (blk_cell BK238.out 3).trans rfl; have hfz61_0 := blk_frozen BK238.out 0; have hfz61_1 := blk_frozen BK238.out 1; have hfz61_2 := blk_frozen BK238.out 2; have hfz61_3 := blk_frozen BK238.out 3; have hcz62_0 : w59.cell? ⟨gb229, 0, none⟩ = some (.int .i64 x230000_1) := (blk_cell BK229.out 0).trans rfl; have hcz62_1 : w59.cell? ⟨gb229, 1, none⟩ = some (.int .i64 x230001_1) := (blk_cell BK229.out 1).trans rfl; have hcz62_2 : w59.cell? ⟨gb229, 2, none⟩ = some (.int .i64 x230002_1) := (blk_cell BK229.out 2).trans rfl; have hcz62_3 : w59.cell? ⟨gb229, 3, none⟩ = some (.int .i64 x230003_1) := (blk_cell BK229.out 3).trans rfl; have hfz62_0 := blk_frozen BK229.out 0; have hfz62_1 := blk_frozen BK229.out 1; have hfz62_2 := blk_frozen BK229.out 2; have hfz62_3 := blk_frozen BK229.out 3))
         go_roundg kj8
         case measure => have := HK1.out; have := HJ8.out; omega
         case rel => exact ⟨(t250), (wrap64 (x16_1 + 1)), (t232), (t233), (t234), (t235), zS, H', ⟨by have := HK1.out; have := HJ8.out; omega⟩, ⟨by refine zR ?_; exact Kd.R_mono (Kd.R_far (p := ⟨gb229, 3, none⟩) (Kd.R_far (p := ⟨gb229, 2, none⟩) (Kd.R_far (p := ⟨gb229, 1, none⟩) (Kd.R_far (p := ⟨gb229, 0, none⟩) (Kd.R_types HO252.out BK229.out (by decide)) (fun _ hk => hk.2) (.int .i64 t232)) (fun _ hk => hk.2) (.int .i64 t233)) (fun _ hk => hk.2) (.int .i64 t234)) (fun _ hk => hk.2) (.int .i64 t235)) (fun _ hk => trivial)⟩, ⟨by refine zL ?_; refine blk_put (cs := #[.int .i64 t232, .int .i64 t233, .int .i64 t234, .int .i64 x230003_1]) ?_ 3 _ rfl; refine zL ?_; refine blk_put (cs := #[.int .i64 t232, .int .i64 t233, .int .i64 x230002_1, .int .i64 x230003_1]) ?_ 2 _ rfl; refine zL ?_; refine blk_put (cs := #[.int .i64 t232, .int .i64 x230001_1, .int .i64 x230002_1, .int .i64 x230003_1]) ?_ 1 _ rfl; refine zL ?_; refine blk_put (cs := #[.int .i64 x230000_1, .int .i64 x230001_1, .int .i64 x230002_1, .int .i64 x230003_1]) ?_ 0 _ rfl; refine zL ?_; exact BK229.out⟩, ⟨zG4 HB GE229 GE231 GE238 GE239⟩⟩
     ·rw [if_neg c7] at H
      exact absurd H (by simp)
    ·rw [if_neg c6] at H
     exact absurd H (by simp)
   ·rw [if_neg c5] at H
    have c5b0 : decide (x16_1 < (l0.length : Int)) = false := decide_eq_false c5
    clear c5
    obtain rfl := Option.some.inj H
    go_wp2
    go_ret
    exact ⟨_, by first | rfl | (simp [errW_none, errW_some] <;> rfl) | (simp [*, errW_none, errW_some] <;> rfl), by refine zR ?_; exact HO_8.out, zG HB GE229⟩

/-! ### w36_awake: function 12 -/
def w36_awake.f (k : Nat)  : Option (Bool) := (prefetch_Read.f k 0 0 0 0 0 100 1000 8).bind fun bt253 => ((prefetch_Read.f k bt253.1 bt253.2.1 bt253.2.2.1 bt253.2.2.2.1 100 100 1000 8).bind fun bt261 => ((prefetch_Requests.f k (([(⟨10, 5⟩ : S25), (⟨100, 5⟩ : S25)] : List (S25))) 0 0 1000 0).bind fun t272 => ((prefetch_Replay.f k (([(⟨0, 10⟩ : S25), (⟨10, 10⟩ : S25)] : List (S25))) 300 1).bind fun t278 => (if (bt253.2.2.2.2.1 == 100 && (bt253.2.2.2.2.2 == 64)) = true then (if (bt261.2.2.2.2.1 == 200 && (bt261.2.2.2.2.2 == 128)) = true then (if (bt261.1 == 200 && (bt261.2.1 == 2 && (bt261.2.2.1 == 328 && (bt261.2.2.2.1 == 2)))) = true then (if (t272.length : Int) = 1 then (if 0 < (t272.length : Int) then (if (((rd_T25 t272 0).f0) == 0 && (((rd_T25 t272 0).f1) == 128)) = true then (if (t278.length : Int) = 1 then (if 0 < (t278.length : Int) then (if (((rd_T25 t278 0).f0) == 0 && (((rd_T25 t278 0).f1) == 128)) = true then ((prefetch_Waste.f k t272 t278).bind fun t283 => (some (t283 == 0))) else (some false)) else (none)) else (some false)) else (some false)) else (none)) else (some false)) else (some false)) else (some false)) else (some false)))))
theorem w36_awake.mono : ∀ k, LeO (w36_awake.f k ) (w36_awake.f (k + 1) ) := by
 intro  k
 unfold w36_awake.f
 repeat' first
   | (with_reducible exact prefetch_Read.mono _ _ _ _ _ _ _ _ _)
   | (with_reducible exact prefetch_Replay.mono _ _ _ _)
   | (with_reducible exact prefetch_Requests.mono _ _ _ _ _ _)
   | (with_reducible exact prefetch_Waste.mono _ _ _)
   | (with_reducible exact LeO.refl _)
   | (with_reducible exact LeO.none _)
   | (with_reducible refine LeO.ite ?_ ?_)
   | (with_reducible refine LeO.bind ?_ (fun _ => ?_))
   | exact prefetch_Read.mono _ _ _ _ _ _ _ _ _
   | exact prefetch_Replay.mono _ _ _ _
   | exact prefetch_Requests.mono _ _ _ _ _ _
   | exact prefetch_Waste.mono _ _ _
   | exact LeO.none _
   | refine LeO.ite ?_ ?_
   | refine LeO.bind ?_ (fun _ => ?_)
set_option maxHeartbeats 8000000 in
set_option maxRecDepth 100000 in
theorem w36_awake.calls (k : Nat)  (r : Bool) (w : World) (ht_ : Aside0 (r = true)) (h : w36_awake.f k  = some r) :
  Calls Try.prog 12 #[] w fun e w' => e = .returned (.bool r) ∧ Below w.heap.size w w' := by
 have hu28 := Try.underlying28
 have hu25 := Try.underlying25
 have HB := am (Below.refl w.heap.size w)
 have H : ((prefetch_Read.f k 0 0 0 0 0 100 1000 8).bind fun bt253 => ((prefetch_Read.f k bt253.1 bt253.2.1 bt253.2.2.1 bt253.2.2.2.1 100 100 1000 8).bind fun bt261 => ((prefetch_Requests.f k (([(⟨10, 5⟩ : S25), (⟨100, 5⟩ : S25)] : List (S25))) 0 0 1000 0).bind fun t272 => ((prefetch_Replay.f k (([(⟨0, 10⟩ : S25), (⟨10, 10⟩ : S25)] : List (S25))) 300 1).bind fun t278 => (if (bt253.2.2.2.2.1 == 100 && (bt253.2.2.2.2.2 == 64)) = true then (if (bt261.2.2.2.2.1 == 200 && (bt261.2.2.2.2.2 == 128)) = true then (if (bt261.1 == 200 && (bt261.2.1 == 2 && (bt261.2.2.1 == 328 && (bt261.2.2.2.1 == 2)))) = true then (if (t272.length : Int) = 1 then (if 0 < (t272.length : Int) then (if (((rd_T25 t272 0).f0) == 0 && (((rd_T25 t272 0).f1) == 128)) = true then (if (t278.length : Int) = 1 then (if 0 < (t278.length : Int) then (if (((rd_T25 t278 0).f0) == 0 && (((rd_T25 t278 0).f1) == 128)) = true then ((prefetch_Waste.f k t272 t278).bind fun t283 => (some (t283 == 0))) else (some false)) else (none)) else (some false)) else (some false)) else (none)) else (some false)) else (some false)) else (some false)) else (some false)))))) = some r := h
 clear h
 replace H := Option.bind_eq_some_iff.mp H
 obtain ⟨⟨t253, t254, t255, t256, t257, t258⟩, A10, H⟩ := H
 replace H : ((prefetch_Read.f k t253 t254 t255 t256 100 100 1000 8).bind fun bt261 => ((prefetch_Requests.f k (([(⟨10, 5⟩ : S25), (⟨100, 5⟩ : S25)] : List (S25))) 0 0 1000 0).bind fun t272 => ((prefetch_Replay.f k (([(⟨0, 10⟩ : S25), (⟨10, 10⟩ : S25)] : List (S25))) 300 1).bind fun t278 => (if (t257 == 100 && (t258 == 64)) = true then (if (bt261.2.2.2.2.1 == 200 && (bt261.2.2.2.2.2 == 128)) = true then (if (bt261.1 == 200 && (bt261.2.1 == 2 && (bt261.2.2.1 == 328 && (bt261.2.2.2.1 == 2)))) = true then (if (t272.length : Int) = 1 then (if 0 < (t272.length : Int) then (if (((rd_T25 t272 0).f0) == 0 && (((rd_T25 t272 0).f1) == 128)) = true then (if (t278.length : Int) = 1 then (if 0 < (t278.length : Int) then (if (((rd_T25 t278 0).f0) == 0 && (((rd_T25 t278 0).f1) == 128)) = true then ((prefetch_Waste.f k t272 t278).bind fun t283 => (some (t283 == 0))) else (some false)) else (none)) else (some false)) else (some false)) else (none)) else (some false)) else (some false)) else (some false)) else (some false))))) = some r := H
 have A1 := am A10
 clear A10
 replace H := Option.bind_eq_some_iff.mp H
 obtain ⟨⟨t261, t262, t263, t264, t265, t266⟩, A20, H⟩ := H
 replace H : ((prefetch_Requests.f k (([(⟨10, 5⟩ : S25), (⟨100, 5⟩ : S25)] : List (S25))) 0 0 1000 0).bind fun t272 => ((prefetch_Replay.f k (([(⟨0, 10⟩ : S25), (⟨10, 10⟩ : S25)] : List (S25))) 300 1).bind fun t278 => (if (t257 == 100 && (t258 == 64)) = true then (if (t265 == 200 && (t266 == 128)) = true then (if (t261 == 200 && (t262 == 2 && (t263 == 328 && (t264 == 2)))) = true then (if (t272.length : Int) = 1 then (if 0 < (t272.length : Int) then (if (((rd_T25 t272 0).f0) == 0 && (((rd_T25 t272 0).f1) == 128)) = true then (if (t278.length : Int) = 1 then (if 0 < (t278.length : Int) then (if (((rd_T25 t278 0).f0) == 0 && (((rd_T25 t278 0).f1) == 128)) = true then ((prefetch_Waste.f k t272 t278).bind fun t283 => (some (t283 == 0))) else (some false)) else (none)) else (some false)) else (some false)) else (none)) else (some false)) else (some false)) else (some false)) else (some false)))) = some r := H
 have A2 := am A20
 clear A20
 obtain ⟨y269, hy269⟩ : ∃ y_ : List (S25), y_ = (([(⟨10, 5⟩ : S25), (⟨100, 5⟩ : S25)] : List (S25))) := ⟨_, rfl⟩
 replace H : ((prefetch_Requests.f k y269 0 0 1000 0).bind fun t272 => ((prefetch_Replay.f k (([(⟨0, 10⟩ : S25), (⟨10, 10⟩ : S25)] : List (S25))) 300 1).bind fun t278 => (if (t257 == 100 && (t258 == 64)) = true then (if (t265 == 200 && (t266 == 128)) = true then (if (t261 == 200 && (t262 == 2 && (t263 == 328 && (t264 == 2)))) = true then (if (t272.length : Int) = 1 then (if 0 < (t272.length : Int) then (if (((rd_T25 t272 0).f0) == 0 && (((rd_T25 t272 0).f1) == 128)) = true then (if (t278.length : Int) = 1 then (if 0 < (t278.length : Int) then (if (((rd_T25 t278 0).f0) == 0 && (((rd_T25 t278 0).f1) == 128)) = true then ((prefetch_Waste.f k t272 t278).bind fun t283 => (some (t283 == 0))) else (some false)) else (none)) else (some false)) else (some false)) else (none)) else (some false)) else (some false)) else (some false)) else (some false)))) = some r := by first | (rw [hy269]; with_reducible exact H) | (have H2_ := (Option.bind_some _ _).symm.trans H; rw [hy269]; with_reducible exact H2_) | (have H2_ := (Option.bind_some _ _).symm.trans H; with_reducible exact H2_) | with_reducible exact H | (rw [hy269]; exact H) | exact H
 have Ny269 := am hy269
 clear hy269
 replace H := Option.bind_eq_some_iff.mp H
 obtain ⟨t272, A30, H⟩ := H
 replace H : ((prefetch_Replay.f k (([(⟨0, 10⟩ : S25), (⟨10, 10⟩ : S25)] : List (S25))) 300 1).bind fun t278 => (if (t257 == 100 && (t258 == 64)) = true then (if (t265 == 200 && (t266 == 128)) = true then (if (t261 == 200 && (t262 == 2 && (t263 == 328 && (t264 == 2)))) = true then (if (t272.length : Int) = 1 then (if 0 < (t272.length : Int) then (if (((rd_T25 t272 0).f0) == 0 && (((rd_T25 t272 0).f1) == 128)) = true then (if (t278.length : Int) = 1 then (if 0 < (t278.length : Int) then (if (((rd_T25 t278 0).f0) == 0 && (((rd_T25 t278 0).f1) == 128)) = true then ((prefetch_Waste.f k t272 t278).bind fun t283 => (some (t283 == 0))) else (some false)) else (none)) else (some false)) else (some false)) else (none)) else (some false)) else (some false)) else (some false)) else (some false))) = some r := H
 have A3 := am A30
 clear A30
 obtain ⟨y275, hy275⟩ : ∃ y_ : List (S25), y_ = (([(⟨0, 10⟩ : S25), (⟨10, 10⟩ : S25)] : List (S25))) := ⟨_, rfl⟩
 replace H : ((prefetch_Replay.f k y275 300 1).bind fun t278 => (if (t257 == 100 && (t258 == 64)) = true then (if (t265 == 200 && (t266 == 128)) = true then (if (t261 == 200 && (t262 == 2 && (t263 == 328 && (t264 == 2)))) = true then (if (t272.length : Int) = 1 then (if 0 < (t272.length : Int) then (if (((rd_T25 t272 0).f0) == 0 && (((rd_T25 t272 0).f1) == 128)) = true then (if (t278.length : Int) = 1 then (if 0 < (t278.length : Int) then (if (((rd_T25 t278 0).f0) == 0 && (((rd_T25 t278 0).f1) == 128)) = true then ((prefetch_Waste.f k t272 t278).bind fun t283 => (some (t283 == 0))) else (some false)) else (none)) else (some false)) else (some false)) else (none)) else (some false)) else (some false)) else (some false)) else (some false))) = some r := by first | (rw [hy275]; with_reducible exact H) | (have H2_ := (Option.bind_some _ _).symm.trans H; rw [hy275]; with_reducible exact H2_) | (have H2_ := (Option.bind_some _ _).symm.trans H; with_reducible exact H2_) | with_reducible exact H | (rw [hy275]; exact H) | exact H
 have Ny275 := am hy275
 clear hy275
 replace H := Option.bind_eq_some_iff.mp H
 obtain ⟨t278, A40, H⟩ := H
 replace H : (if (t257 == 100 && (t258 == 64)) = true then (if (t265 == 200 && (t266 == 128)) = true then (if (t261 == 200 && (t262 == 2 && (t263 == 328 && (t264 == 2)))) = true then (if (t272.length : Int) = 1 then (if 0 < (t272.length : Int) then (if (((rd_T25 t272 0).f0) == 0 && (((rd_T25 t272 0).f1) == 128)) = true then (if (t278.length : Int) = 1 then (if 0 < (t278.length : Int) then (if (((rd_T25 t278 0).f0) == 0 && (((rd_T25 t278 0).f1) == 128)) = true then ((prefetch_Waste.f k t272 t278).bind fun t283 => (some (t283 == 0))) else (some false)) else (none)) else (some false)) else (some false)) else (none)) else (some false)) else (some false)) else (some false)) else (some false)) = some r := H
 have A4 := am A40
 clear A40
 by_cases c5 : (t257 == 100 && (t258 == 64)) = true
 ·rw [if_pos c5] at H
  have c5b0 : (t257 == 100 && (t258 == 64)) = true := c5
  (try (have c5b1 : decide (t257 = 100 && (t258 == 64)) = true := by simpa using c5))
  (try (have c5b2 : (t257 == 100 && (t258 == 64)) = true := by simpa using c5))
  clear c5
  by_cases c6 : (t265 == 200 && (t266 == 128)) = true
  ·rw [if_pos c6] at H
   have c6b0 : (t265 == 200 && (t266 == 128)) = true := c6
   (try (have c6b1 : decide (t265 = 200 && (t266 == 128)) = true := by simpa using c6))
   (try (have c6b2 : (t265 == 200 && (t266 == 128)) = true := by simpa using c6))
   clear c6
   by_cases c7 : (t261 == 200 && (t262 == 2 && (t263 == 328 && (t264 == 2)))) = true
   ·rw [if_pos c7] at H
    have c7b0 : (t261 == 200 && (t262 == 2 && (t263 == 328 && (t264 == 2)))) = true := c7
    (try (have c7b1 : decide (t261 = 200 && (t262 == 2 && (t263 == 328 && (t264 == 2)))) = true := by simpa using c7))
    (try (have c7b2 : (t261 == 200 && (t262 == 2 && (t263 == 328 && (t264 == 2)))) = true := by simpa using c7))
    clear c7
    by_cases c8 : (t272.length : Int) = 1
    ·rw [if_pos c8] at H
     have c8b0 : ((t272.length : Int) == 1) = true := beq_iff_eq.mpr c8
     have c8b1 : ((t272.length : Int) != 1) = false := bne_eq_false_iff_eq.mpr c8
     clear c8
     by_cases c9 : 0 < (t272.length : Int)
     ·rw [if_pos c9] at H
      have c9b0 : decide (0 < (t272.length : Int)) = true := decide_eq_true c9
      have c9b1 : decide (0 < t272.length) = true := decide_eq_true (by omega)
      clear c9
      by_cases c10 : (((rd_T25 t272 0).f0) == 0 && (((rd_T25 t272 0).f1) == 128)) = true
      ·rw [if_pos c10] at H
       have c10b0 : (((rd_T25 t272 0).f0) == 0 && (((rd_T25 t272 0).f1) == 128)) = true := c10
       (try (have c10b1 : decide (((rd_T25 t272 0).f0) = 0 && (((rd_T25 t272 0).f1) == 128)) = true := by simpa using c10))
       (try (have c10b2 : (((rd_T25 t272 0).f0) == 0 && (((rd_T25 t272 0).f1) == 128)) = true := by simpa using c10))
       clear c10
       by_cases c11 : (t278.length : Int) = 1
       ·rw [if_pos c11] at H
        have c11b0 : ((t278.length : Int) == 1) = true := beq_iff_eq.mpr c11
        have c11b1 : ((t278.length : Int) != 1) = false := bne_eq_false_iff_eq.mpr c11
        clear c11
        by_cases c12 : 0 < (t278.length : Int)
        ·rw [if_pos c12] at H
         have c12b0 : decide (0 < (t278.length : Int)) = true := decide_eq_true c12
         have c12b1 : decide (0 < t278.length) = true := decide_eq_true (by omega)
         clear c12
         by_cases c13 : (((rd_T25 t278 0).f0) == 0 && (((rd_T25 t278 0).f1) == 128)) = true
         ·rw [if_pos c13] at H
          have c13b0 : (((rd_T25 t278 0).f0) == 0 && (((rd_T25 t278 0).f1) == 128)) = true := c13
          (try (have c13b1 : decide (((rd_T25 t278 0).f0) = 0 && (((rd_T25 t278 0).f1) == 128)) = true := by simpa using c13))
          (try (have c13b2 : (((rd_T25 t278 0).f0) == 0 && (((rd_T25 t278 0).f1) == 128)) = true := by simpa using c13))
          clear c13
          replace H := Option.bind_eq_some_iff.mp H
          obtain ⟨t283, A140, H⟩ := H
          replace H : (some (t283 == 0)) = some r := H
          have A14 := am A140
          clear A140
          obtain rfl := Option.some.inj H
          go_enter Try.func12, Try.ntmps12
          go_wp2_with (first | ((with_reducible refine gate_callee (f := 9) rfl ?_); refine goesL_ (some 10) rfl rfl Try.func9 (by kernel_rfl) rfl #[.agg #[.int .i64 0, .int .i64 0, .int .i64 0, .int .i64 0], .agg #[.int .i64 0, .int .i64 100], .int .i64 1000, .int .i64 8] rfl zM ?_; (with_reducible refine (prefetch_Read.calls k 0 0 0 0 0 100 1000 8 t253 t254 t255 t256 t257 t258 _ A1.out).mono ?_); rintro e w15 ⟨rfl, hb⟩; refine ⟨_, rfl, ?_⟩; have n0_ := am (below_step (zB HB) hb); clear HB; have HB := n0_; clear n0_; (try clear hb); (try clear hb2); (try clear hk); (try clear hi)) | ((with_reducible refine gate_dst (N := 1) rfl ?_); (try (refine gate_guard (by rfl) ?_; dsimp only)); refine box_event ?hg (N := 1) ?hd (cs := #[.int .i64 0, .int .i64 0, .int .i64 0, .int .i64 0]) (t := 28) ?hr ?_; (case hd => rfl); (case hg => rfl); (case hr => first | (go_simp; done) | (go_simp; rfl)); intro gb259 hg w16 hbox hb; have n0_ := am (below_step (zB HB) hb); have n1_ := am (hbox); have n2_ := am ((by rw [hg]; exact (below_size (zB HB)) : w.heap.size ≤ gb259)); have n3_ := am ((by rw [hg]; exact (below_size (zB HB)) : w.heap.size ≤ gb259)); clear HB; have HB := n0_; have BK259 := n1_; have GW259 := n2_; have GE259 := n3_; clear n0_ n1_ n2_ n3_; clear hb hbox hg) | ((with_reducible refine gate_dst (N := 2) rfl ?_); (try (refine gate_guard (by rfl) ?_; dsimp only)); refine box_event ?hg (N := 2) ?hd (cs := #[.int .i64 0, .int .i64 0]) (t := 25) ?hr ?_; (case hd => rfl); (case hg => rfl); (case hr => first | (go_simp; done) | (go_simp; rfl)); intro gb260 hg w17 hbox hb; have n0_ := am (blk_below (g := gb259) (o := .cells #[.int .i64 0, .int .i64 0, .int .i64 0, .int .i64 0] 28 (0, 0)) (zL BK259.out) hb); have n1_ := am (below_step (zG HB GE259) hb); have n2_ := am (hbox); have n3_ := am ((by rw [hg]; exact (below_size (zG HB GE259)) : w.heap.size ≤ gb260)); have n4_ := am ((by rw [hg]; exact (below_size (zG HB GE259)) : w.heap.size ≤ gb260)); have n5_ := am ((by rw [hg]; exact Nat.ne_of_lt (blk_lt (g := gb259) (o := .cells #[.int .i64 0, .int .i64 0, .int .i64 0, .int .i64 0] 28 (0, 0)) (zL BK259.out)) : gb259 ≠ gb260)); have n6_ := am ((by rw [hg]; exact Nat.ne_of_gt (blk_lt (g := gb259) (o := .cells #[.int .i64 0, .int .i64 0, .int .i64 0, .int .i64 0] 28 (0, 0)) (zL BK259.out)) : gb260 ≠ gb259)); clear BK259; clear HB; have BK259 := n0_; have HB := n1_; have BK260 := n2_; have GW260 := n3_; have GE260 := n4_; have NB259_260 := n5_; have NB260_259 := n6_; clear n0_ n1_ n2_ n3_ n4_ n5_ n6_; clear hb hbox hg; have hnb18 := NB259_260.out; have hnc18 := NB260_259.out; have hcz19_0 : w17.cell? ⟨gb259, 0, none⟩ = some (.int .i64 0) := (blk_cell BK259.out 0).trans rfl; have hcz19_1 : w17.cell? ⟨gb259, 1, none⟩ = some (.int .i64 0) := (blk_cell BK259.out 1).trans rfl; have hcz19_2 : w17.cell? ⟨gb259, 2, none⟩ = some (.int .i64 0) := (blk_cell BK259.out 2).trans rfl; have hcz19_3 : w17.cell? ⟨gb259, 3, none⟩ = some (.int .i64 0) := (blk_cell BK259.out 3).trans rfl; have hfz19_0 := blk_frozen BK259.out 0; have hfz19_1 := blk_frozen BK259.out 1; have hfz19_2 := blk_frozen BK259.out 2; have hfz19_3 := blk_frozen BK259.out 3; have hcz20_0 : w17.cell? ⟨gb260, 0, none⟩ = some (.int .i64 0) := (blk_cell BK260.out 0).trans rfl; have hcz20_1 : w17.cell? ⟨gb260, 1, none⟩ = some (.int .i64 0) := (blk_cell BK260.out 1).trans rfl; have hfz20_0 := blk_frozen BK260.out 0; have hfz20_1 := blk_frozen BK260.out 1) | ((with_reducible refine gate_callee (f := 9) rfl ?_); refine goesL_ (some 16) rfl rfl Try.func9 (by kernel_rfl) rfl #[.agg #[.int .i64 t253, .int .i64 t254, .int .i64 t255, .int .i64 t256], .agg #[.int .i64 100, .int .i64 100], .int .i64 1000, .int .i64 8] rfl zM ?_; (with_reducible refine (prefetch_Read.calls k t253 t254 t255 t256 100 100 1000 8 t261 t262 t263 t264 t265 t266 _ A2.out).mono ?_); rintro e w21 ⟨rfl, hb⟩; refine ⟨_, rfl, ?_⟩; have n0_ := am (blk_below (g := gb259) (o := .cells #[.int .i64 t253, .int .i64 t254, .int .i64 t255, .int .i64 t256] 28 (0, 0)) (by refine zL ?_; refine blk_far ?_ NB259_260.out _; refine zL ?_; refine blk_far ?_ NB259_260.out _; refine zL ?_; refine blk_put (cs := #[.int .i64 t253, .int .i64 t254, .int .i64 t255, .int .i64 0]) ?_ 3 _ rfl; refine zL ?_; refine blk_put (cs := #[.int .i64 t253, .int .i64 t254, .int .i64 0, .int .i64 0]) ?_ 2 _ rfl; refine zL ?_; refine blk_put (cs := #[.int .i64 t253, .int .i64 0, .int .i64 0, .int .i64 0]) ?_ 1 _ rfl; refine zL ?_; refine blk_put (cs := #[.int .i64 0, .int .i64 0, .int .i64 0, .int .i64 0]) ?_ 0 _ rfl; refine zL ?_; exact BK259.out) hb); have n1_ := am (blk_below (g := gb260) (o := .cells #[.int .i64 t257, .int .i64 t258] 25 (0, 0)) (by refine zL ?_; refine blk_put (cs := #[.int .i64 t257, .int .i64 0]) ?_ 1 _ rfl; refine zL ?_; refine blk_put (cs := #[.int .i64 0, .int .i64 0]) ?_ 0 _ rfl; refine zL ?_; refine blk_far ?_ NB260_259.out _; refine zL ?_; refine blk_far ?_ NB260_259.out _; refine zL ?_; refine blk_far ?_ NB260_259.out _; refine zL ?_; refine blk_far ?_ NB260_259.out _; refine zL ?_; exact BK260.out) hb); have n2_ := am (below_step (zG2 HB GE259 GE260) hb); clear BK259; clear BK260; clear HB; have BK259 := n0_; have BK260 := n1_; have HB := n2_; clear n0_ n1_ n2_; (try clear hb); (try clear hb2); (try clear hk); (try clear hi)) | ((with_reducible refine gate_dst (N := 3) rfl ?_); (try (refine gate_guard (by rfl) ?_; dsimp only)); refine box_event ?hg (N := 3) ?hd (cs := #[.int .i64 0, .int .i64 0, .int .i64 0, .int .i64 0]) (t := 28) ?hr ?_; (case hd => rfl); (case hg => rfl); (case hr => first | (go_simp; done) | (go_simp; rfl)); intro gb267 hg w22 hbox hb; have n0_ := am (blk_below (g := gb259) (o := .cells #[.int .i64 t253, .int .i64 t254, .int .i64 t255, .int .i64 t256] 28 (0, 0)) (zL BK259.out) hb); have n1_ := am (blk_below (g := gb260) (o := .cells #[.int .i64 t257, .int .i64 t258] 25 (0, 0)) (zL BK260.out) hb); have n2_ := am (below_step (zG2 HB GE259 GE260) hb); have n3_ := am (hbox); have n4_ := am ((by rw [hg]; exact (below_size (zG2 HB GE259 GE260)) : w.heap.size ≤ gb267)); have n5_ := am ((by rw [hg]; exact (below_size (zG2 HB GE259 GE260)) : w.heap.size ≤ gb267)); have n6_ := am ((by rw [hg]; exact Nat.ne_of_lt (blk_lt (g := gb259) (o := .cells #[.int .i64 t253, .int .i64 t254, .int .i64 t255, .int .i64 t256] 28 (0, 0)) (zL BK259.out)) : gb259 ≠ gb267)); have n7_ := am ((by rw [hg]; exact Nat.ne_of_gt (blk_lt (g := gb259) (o := .cells #[.int .i64 t253, .int .i64 t254, .int .i64 t255, .int .i64 t256] 28 (0, 0)) (zL BK259.out)) : gb267 ≠ gb259)); have n8_ := am ((by rw [hg]; exact Nat.ne_of_lt (blk_lt (g := gb260) (o := .cells #[.int .i64 t257, .int .i64 t258] 25 (0, 0)) (zL BK260.out)) : gb260 ≠ gb267)); have n9_ := am ((by rw [hg]; exact Nat.ne_of_gt (blk_lt (g := gb260) (o := .cells #[.int .i64 t257, .int .i64 t258] 25 (0, 0)) (zL BK260.out)) : gb267 ≠ gb260)); clear BK259; clear BK260; clear HB; have BK259 := n0_; have BK260 := n1_; have HB := n2_; have BK267 := n3_; have GW267 := n4_; have GE267 := n5_; have NB259_267 := n6_; have NB267_259 := n7_; have NB260_267 := n8_; have NB267_260 := n9_; clear n0_ n1_ n2_ n3_ n4_ n5_ n6_ n7_ n8_ n9_; clear hb hbox hg) | ((with_reducible refine gate_dst (N := 4) rfl ?_); (try (refine gate_guard (by rfl) ?_; dsimp only)); refine box_event ?hg (N := 4) ?hd (cs := #[.int .i64 0, .int .i64 0]) (t := 25) ?hr ?_; (case hd => rfl); (case hg => rfl); (case hr => first | (go_simp; done) | (go_simp; rfl)); intro gb268 hg w23 hbox hb; have n0_ := am (blk_below (g := gb259) (o := .cells #[.int .i64 t253, .int .i64 t254, .int .i64 t255, .int .i64 t256] 28 (0, 0)) (zL BK259.out) hb); have n1_ := am (blk_below (g := gb260) (o := .cells #[.int .i64 t257, .int .i64 t258] 25 (0, 0)) (zL BK260.out) hb); have n2_ := am (blk_below (g := gb267) (o := .cells #[.int .i64 0, .int .i64 0, .int .i64 0, .int .i64 0] 28 (0, 0)) (zL BK267.out) hb); have n3_ := am (below_step (zG3 HB GE259 GE260 GE267) hb); have n4_ := am (hbox); have n5_ := am ((by rw [hg]; exact (below_size (zG3 HB GE259 GE260 GE267)) : w.heap.size ≤ gb268)); have n6_ := am ((by rw [hg]; exact (below_size (zG3 HB GE259 GE260 GE267)) : w.heap.size ≤ gb268)); have n7_ := am ((by rw [hg]; exact Nat.ne_of_lt (blk_lt (g := gb259) (o := .cells #[.int .i64 t253, .int .i64 t254, .int .i64 t255, .int .i64 t256] 28 (0, 0)) (zL BK259.out)) : gb259 ≠ gb268)); have n8_ := am ((by rw [hg]; exact Nat.ne_of_gt (blk_lt (g := gb259) (o := .cells #[.int .i64 t253, .int .i64 t254, .int .i64 t255, .int .i64 t256] 28 (0, 0)) (zL BK259.out)) : gb268 ≠ gb259)); have n9_ := am ((by rw [hg]; exact Nat.ne_of_lt (blk_lt (g := gb260) (o := .cells #[.int .i64 t257, .int .i64 t258] 25 (0, 0)) (zL BK260.out)) : gb260 ≠ gb268)); have n10_ := am ((by rw [hg]; exact Nat.ne_of_gt (blk_lt (g := gb260) (o := .cells #[.int .i64 t257, .int .i64 t258] 25 (0, 0)) (zL BK260.out)) : gb268 ≠ gb260)); have n11_ := am ((by rw [hg]; exact Nat.ne_of_lt (blk_lt (g := gb267) (o := .cells #[.int .i64 0, .int .i64 0, .int .i64 0, .int .i64 0] 28 (0, 0)) (zL BK267.out)) : gb267 ≠ gb268)); have n12_ := am ((by rw [hg]; exact Nat.ne_of_gt (blk_lt (g := gb267) (o := .cells #[.int .i64 0, .int .i64 0, .int .i64 0, .int .i64 0] 28 (0, 0)) (zL BK267.out)) : gb268 ≠ gb267)); clear BK259; clear BK260; clear BK267; clear HB; have BK259 := n0_; have BK260 := n1_; have BK267 := n2_; have HB := n3_; have BK268 := n4_; have GW268 := n5_; have GE268 := n6_; have NB259_268 := n7_; have NB268_259 := n8_; have NB260_268 := n9_; have NB268_260 := n10_; have NB267_268 := n11_; have NB268_267 := n12_; clear n0_ n1_ n2_ n3_ n4_ n5_ n6_ n7_ n8_ n9_ n10_ n11_ n12_; clear hb hbox hg; have hnb24 := NB267_259.out; have hnc24 := NB259_267.out; have hnb25 := NB267_260.out; have hnc25 := NB260_267.out; have hnb26 := NB267_268.out; have hnc26 := NB268_267.out; have hcz27_0 : w23.cell? ⟨gb267, 0, none⟩ = some (.int .i64 0) := (blk_cell BK267.out 0).trans rfl; have hcz27_1 : w23.cell? ⟨gb267, 1, none⟩ = some (.int .i64 0) := (blk_cell BK267.out 1).trans rfl; have hcz27_2 : w23.cell? ⟨gb267, 2, none⟩ = some (.int .i64 0) := (blk_cell BK267.out 2).trans rfl; have hcz27_3 : w23.cell? ⟨gb267, 3, none⟩ = some (.int .i64 0) := (blk_cell BK267.out 3).trans rfl; have hfz27_0 := blk_frozen BK267.out 0; have hfz27_1 := blk_frozen BK267.out 1; have hfz27_2 := blk_frozen BK267.out 2; have hfz27_3 := blk_frozen BK267.out 3; have hnb28 := NB268_259.out; have hnc28 := NB259_268.out; have hnb29 := NB268_260.out; have hnc29 := NB260_268.out; have hcz30_0 : w23.cell? ⟨gb268, 0, none⟩ = some (.int .i64 0) := (blk_cell BK268.out 0).trans rfl; have hcz30_1 : w23.cell? ⟨gb268, 1, none⟩ = some (.int .i64 0) := (blk_cell BK268.out 1).trans rfl; have hfz30_0 := blk_frozen BK268.out 0; have hfz30_1 := blk_frozen BK268.out 1) | ((with_reducible refine gate_dst (N := 21) rfl ?_); (try (refine gate_guard (by rfl) ?_; dsimp only)); refine Kd.R_lit k25 _ 25 ?hg (N := 21) ?hd (xs := ([(⟨10, 5⟩ : S25), (⟨100, 5⟩ : S25)] : List (S25))) (inner := [.int .i64 10, .int .i64 5, .int .i64 100, .int .i64 5]) (ok := fun _ => True) (okp := fun _ => True) ?hr ?hp (fun _ hk => hk) trivial (Below.refl _ _) (Nat.le_refl _) (by simp) ?_; (case hd => rfl); (case hg => rfl); (case hr => first | (go_simp; done) | (go_simp; rfl)); (case hp => exact (Reps.c2 (show Kd.M k25 _ _ _ (⟨10, 5⟩ : S25) [.int .i64 10, .int .i64 5] from (k25_mkM _ _ _ (⟨10, 5⟩ : S25) )) (Reps.c2 (show Kd.M k25 _ _ _ (⟨100, 5⟩ : S25) [.int .i64 100, .int .i64 5] from (k25_mkM _ _ _ (⟨100, 5⟩ : S25) )) (Reps.none _ _)))); intro v270 w31 ho32 hb hg_ hnew_; clear hg_ hnew_; (first | rw [← Ny269.out] at ho32 | (simp only [Int.reduceToNat] at ho32; rw [← Ny269.out] at ho32)); have n0_ := am (Kd.R_lower (Kd.R_newB (Kd.R_newB ho32 (g := gb260) (o := .cells #[.int .i64 t257, .int .i64 t258] 25 (0, 0)) (by refine zL ?_; refine blk_far ?_ NB260_268.out _; refine zL ?_; refine blk_far ?_ NB260_268.out _; refine zL ?_; refine blk_far ?_ NB260_267.out _; refine zL ?_; refine blk_far ?_ NB260_267.out _; refine zL ?_; refine blk_far ?_ NB260_267.out _; refine zL ?_; refine blk_far ?_ NB260_267.out _; refine zL ?_; exact BK260.out)) (g := gb268) (o := .cells #[.int .i64 t265, .int .i64 t266] 25 (0, 0)) (by refine zL ?_; refine blk_put (cs := #[.int .i64 t265, .int .i64 0]) ?_ 1 _ rfl; refine zL ?_; refine blk_put (cs := #[.int .i64 0, .int .i64 0]) ?_ 0 _ rfl; refine zL ?_; refine blk_far ?_ NB268_267.out _; refine zL ?_; refine blk_far ?_ NB268_267.out _; refine zL ?_; refine blk_far ?_ NB268_267.out _; refine zL ?_; refine blk_far ?_ NB268_267.out _; refine zL ?_; exact BK268.out)) (below_size (zG4 HB GE259 GE260 GE267 GE268))); have n1_ := am (blk_below (g := gb259) (o := .cells #[.int .i64 t253, .int .i64 t254, .int .i64 t255, .int .i64 t256] 28 (0, 0)) (by refine zL ?_; refine blk_far ?_ NB259_268.out _; refine zL ?_; refine blk_far ?_ NB259_268.out _; refine zL ?_; refine blk_far ?_ NB259_267.out _; refine zL ?_; refine blk_far ?_ NB259_267.out _; refine zL ?_; refine blk_far ?_ NB259_267.out _; refine zL ?_; refine blk_far ?_ NB259_267.out _; refine zL ?_; exact BK259.out) hb); have n2_ := am (blk_below (g := gb260) (o := .cells #[.int .i64 t257, .int .i64 t258] 25 (0, 0)) (by refine zL ?_; refine blk_far ?_ NB260_268.out _; refine zL ?_; refine blk_far ?_ NB260_268.out _; refine zL ?_; refine blk_far ?_ NB260_267.out _; refine zL ?_; refine blk_far ?_ NB260_267.out _; refine zL ?_; refine blk_far ?_ NB260_267.out _; refine zL ?_; refine blk_far ?_ NB260_267.out _; refine zL ?_; exact BK260.out) hb); have n3_ := am (blk_below (g := gb267) (o := .cells #[.int .i64 t261, .int .i64 t262, .int .i64 t263, .int .i64 t264] 28 (0, 0)) (by refine zL ?_; refine blk_far ?_ NB267_268.out _; refine zL ?_; refine blk_far ?_ NB267_268.out _; refine zL ?_; refine blk_put (cs := #[.int .i64 t261, .int .i64 t262, .int .i64 t263, .int .i64 0]) ?_ 3 _ rfl; refine zL ?_; refine blk_put (cs := #[.int .i64 t261, .int .i64 t262, .int .i64 0, .int .i64 0]) ?_ 2 _ rfl; refine zL ?_; refine blk_put (cs := #[.int .i64 t261, .int .i64 0, .int .i64 0, .int .i64 0]) ?_ 1 _ rfl; refine zL ?_; refine blk_put (cs := #[.int .i64 0, .int .i64 0, .int .i64 0, .int .i64 0]) ?_ 0 _ rfl; refine zL ?_; exact BK267.out) hb); have n4_ := am (blk_below (g := gb268) (o := .cells #[.int .i64 t265, .int .i64 t266] 25 (0, 0)) (by refine zL ?_; refine blk_put (cs := #[.int .i64 t265, .int .i64 0]) ?_ 1 _ rfl; refine zL ?_; refine blk_put (cs := #[.int .i64 0, .int .i64 0]) ?_ 0 _ rfl; refine zL ?_; refine blk_far ?_ NB268_267.out _; refine zL ?_; refine blk_far ?_ NB268_267.out _; refine zL ?_; refine blk_far ?_ NB268_267.out _; refine zL ?_; refine blk_far ?_ NB268_267.out _; refine zL ?_; exact BK268.out) hb); have n5_ := am (below_step (zG4 HB GE259 GE260 GE267 GE268) hb); clear BK259; clear BK260; clear BK267; clear BK268; clear HB; have HO271 := n0_; have BK259 := n1_; have BK260 := n2_; have BK267 := n3_; have BK268 := n4_; have HB := n5_; clear n0_ n1_ n2_ n3_ n4_ n5_; clear hb ho32; obtain ⟨Ao33, co33, eo33⟩ := Kd.R_slice HO271.out; subst eo33) | ((with_reducible refine gate_callee (f := 14) rfl ?_); refine goesL_ (some 23) rfl rfl Try.func14 (by kernel_rfl) rfl #[.slice Ao33 y269.length co33, .agg #[.int .i64 0, .int .i64 0], .int .i64 1000, .int .i64 0] rfl zM ?_; (with_reducible refine (prefetch_Requests.calls k _ _ y269 0 0 1000 0 t272 _ ?side1 ?side2 A3.out).mono ?_); (case side1 => exact zC (Kd.R_reads' HO271.out).2.2); (case side2 => exact (Kd.R_reads' HO271.out).2.1); rintro e w34 ⟨v273, rfl, ho0, hb⟩; refine ⟨_, rfl, ?_⟩; have n0_ := am (Kd.R_elder' (zR HO271.out) (Kd.R_base ho0) hb); have n1_ := am (Kd.R_lower (Kd.R_newB (Kd.R_newB (Kd.R_new' ho0 (Kd.R_lt (zR HO271.out))) (g := gb260) (o := .cells #[.int .i64 t257, .int .i64 t258] 25 (0, 0)) (zL BK260.out)) (g := gb268) (o := .cells #[.int .i64 t265, .int .i64 t266] 25 (0, 0)) (zL BK268.out)) (below_size (zG4 HB GE259 GE260 GE267 GE268))); have n2_ := am (blk_below (g := gb259) (o := .cells #[.int .i64 t253, .int .i64 t254, .int .i64 t255, .int .i64 t256] 28 (0, 0)) (zL BK259.out) hb); have n3_ := am (blk_below (g := gb260) (o := .cells #[.int .i64 t257, .int .i64 t258] 25 (0, 0)) (zL BK260.out) hb); have n4_ := am (blk_below (g := gb267) (o := .cells #[.int .i64 t261, .int .i64 t262, .int .i64 t263, .int .i64 t264] 28 (0, 0)) (zL BK267.out) hb); have n5_ := am (blk_below (g := gb268) (o := .cells #[.int .i64 t265, .int .i64 t266] 25 (0, 0)) (zL BK268.out) hb); have n6_ := am (below_step (zG4 HB GE259 GE260 GE267 GE268) hb); clear HO271; clear BK259; clear BK260; clear BK267; clear BK268; clear HB; have HO271 := n0_; have HO274 := n1_; have BK259 := n2_; have BK260 := n3_; have BK267 := n4_; have BK268 := n5_; have HB := n6_; clear n0_ n1_ n2_ n3_ n4_ n5_ n6_; (try clear hb); (try clear hb2); (try clear hk); (try clear hi); (try clear ho0)) | ((with_reducible refine gate_dst (N := 26) rfl ?_); (try (refine gate_guard (by rfl) ?_; dsimp only)); refine Kd.R_lit k25 _ 25 ?hg (N := 26) ?hd (xs := ([(⟨0, 10⟩ : S25), (⟨10, 10⟩ : S25)] : List (S25))) (inner := [.int .i64 0, .int .i64 10, .int .i64 10, .int .i64 10]) (ok := fun _ => True) (okp := fun _ => True) ?hr ?hp (fun _ hk => hk) trivial (Below.refl _ _) (Nat.le_refl _) (by simp) ?_; (case hd => rfl); (case hg => rfl); (case hr => first | (go_simp; done) | (go_simp; rfl)); (case hp => exact (Reps.c2 (show Kd.M k25 _ _ _ (⟨0, 10⟩ : S25) [.int .i64 0, .int .i64 10] from (k25_mkM _ _ _ (⟨0, 10⟩ : S25) )) (Reps.c2 (show Kd.M k25 _ _ _ (⟨10, 10⟩ : S25) [.int .i64 10, .int .i64 10] from (k25_mkM _ _ _ (⟨10, 10⟩ : S25) )) (Reps.none _ _)))); intro v276 w35 ho36 hb hg_ hnew_; clear hg_ hnew_; (first | rw [← Ny275.out] at ho36 | (simp only [Int.reduceToNat] at ho36; rw [← Ny275.out] at ho36)); have n0_ := am (Kd.R_elder' (zR HO271.out) (Kd.R_base ho36) hb); have n1_ := am (Kd.R_elder' (zR HO274.out) (Kd.R_base ho36) hb); have n2_ := am (Kd.R_lower (Kd.R_newB (Kd.R_newB (Kd.R_new' (Kd.R_new' ho36 (Kd.R_lt (zR HO271.out))) (Kd.R_lt (zR HO274.out))) (g := gb260) (o := .cells #[.int .i64 t257, .int .i64 t258] 25 (0, 0)) (zL BK260.out)) (g := gb268) (o := .cells #[.int .i64 t265, .int .i64 t266] 25 (0, 0)) (zL BK268.out)) (below_size (zG4 HB GE259 GE260 GE267 GE268))); have n3_ := am (blk_below (g := gb259) (o := .cells #[.int .i64 t253, .int .i64 t254, .int .i64 t255, .int .i64 t256] 28 (0, 0)) (zL BK259.out) hb); have n4_ := am (blk_below (g := gb260) (o := .cells #[.int .i64 t257, .int .i64 t258] 25 (0, 0)) (zL BK260.out) hb); have n5_ := am (blk_below (g := gb267) (o := .cells #[.int .i64 t261, .int .i64 t262, .int .i64 t263, .int .i64 t264] 28 (0, 0)) (zL BK267.out) hb); have n6_ := am (blk_below (g := gb268) (o := .cells #[.int .i64 t265, .int .i64 t266] 25 (0, 0)) (zL BK268.out) hb); have n7_ := am (below_step (zG4 HB GE259 GE260 GE267 GE268) hb); clear HO271; clear HO274; clear BK259; clear BK260; clear BK267; clear BK268; clear HB; have HO271 := n0_; have HO274 := n1_; have HO277 := n2_; have BK259 := n3_; have BK260 := n4_; have BK267 := n5_; have BK268 := n6_; have HB := n7_; clear n0_ n1_ n2_ n3_ n4_ n5_ n6_ n7_; clear hb ho36; obtain ⟨Ao37, co37, eo37⟩ := Kd.R_slice HO277.out; subst eo37) | ((with_reducible refine gate_callee (f := 19) rfl ?_); refine goesL_ (some 27) rfl rfl Try.func19 (by kernel_rfl) rfl #[.slice Ao37 y275.length co37, .int .i64 300, .int .i64 1] rfl zM ?_; (with_reducible refine (prefetch_Replay.calls k _ _ y275 300 1 t278 _ ?side1 ?side2 A4.out).mono ?_); (case side1 => exact zC (Kd.R_reads' HO277.out).2.2); (case side2 => exact (Kd.R_reads' HO277.out).2.1); rintro e w38 ⟨v279, rfl, ho0, hb⟩; refine ⟨_, rfl, ?_⟩; have n0_ := am (Kd.R_elder' (zR HO271.out) (Kd.R_base ho0) hb); have n1_ := am (Kd.R_elder' (zR HO274.out) (Kd.R_base ho0) hb); have n2_ := am (Kd.R_elder' (zR HO277.out) (Kd.R_base ho0) hb); have n3_ := am (Kd.R_lower (Kd.R_newB (Kd.R_newB (Kd.R_new' (Kd.R_new' (Kd.R_new' ho0 (Kd.R_lt (zR HO271.out))) (Kd.R_lt (zR HO274.out))) (Kd.R_lt (zR HO277.out))) (g := gb260) (o := .cells #[.int .i64 t257, .int .i64 t258] 25 (0, 0)) (zL BK260.out)) (g := gb268) (o := .cells #[.int .i64 t265, .int .i64 t266] 25 (0, 0)) (zL BK268.out)) (below_size (zG4 HB GE259 GE260 GE267 GE268))); have n4_ := am (blk_below (g := gb259) (o := .cells #[.int .i64 t253, .int .i64 t254, .int .i64 t255, .int .i64 t256] 28 (0, 0)) (zL BK259.out) hb); have n5_ := am (blk_below (g := gb260) (o := .cells #[.int .i64 t257, .int .i64 t258] 25 (0, 0)) (zL BK260.out) hb); have n6_ := am (blk_below (g := gb267) (o := .cells #[.int .i64 t261, .int .i64 t262, .int .i64 t263, .int .i64 t264] 28 (0, 0)) (zL BK267.out) hb); have n7_ := am (blk_below (g := gb268) (o := .cells #[.int .i64 t265, .int .i64 t266] 25 (0, 0)) (zL BK268.out) hb); have n8_ := am (below_step (zG4 HB GE259 GE260 GE267 GE268) hb); clear HO271; clear HO274; clear HO277; clear BK259; clear BK260; clear BK267; clear BK268; clear HB; have HO271 := n0_; have HO274 := n1_; have HO277 := n2_; have HO280 := n3_; have BK259 := n4_; have BK260 := n5_; have BK267 := n6_; have BK268 := n7_; have HB := n8_; clear n0_ n1_ n2_ n3_ n4_ n5_ n6_ n7_ n8_; (try clear hb); (try clear hb2); (try clear hk); (try clear hi); (try clear ho0); have hcz39_0 : w38.cell? ⟨gb260, 0, none⟩ = some (.int .i64 t257) := (blk_cell BK260.out 0).trans rfl; have hcz39_1 : w38.cell? ⟨gb260, 1, none⟩ = some (.int .i64 t258) := (blk_cell BK260.out 1).trans rfl; have hfz39_0 := blk_frozen BK260.out 0; have hfz39_1 := blk_frozen BK260.out 1; have hcz40_0 : w38.cell? ⟨gb268, 0, none⟩ = some (.int .i64 t265) := (blk_cell BK268.out 0).trans rfl; have hcz40_1 : w38.cell? ⟨gb268, 1, none⟩ = some (.int .i64 t266) := (blk_cell BK268.out 1).trans rfl; have hfz40_0 := blk_frozen BK268.out 0; have hfz40_1 := blk_frozen BK268.out 1; have hcz41_0 : w38.cell? ⟨gb267, 0, none⟩ = some (.int .i64 t261) := (blk_cell BK267.out 0).trans rfl; have hcz41_1 : w38.cell? ⟨gb267, 1, none⟩ = some (.int .i64 t262) := (blk_cell BK267.out 1).trans rfl; have hcz41_2 : w38.cell? ⟨gb267, 2, none⟩ = some (.int .i64 t263) := (blk_cell BK267.out 2).trans rfl; have hcz41_3 : w38.cell? ⟨gb267, 3, none⟩ = some (.int .i64 t264) := (blk_cell BK267.out 3).trans rfl; have hfz41_0 := blk_frozen BK267.out 0; have hfz41_1 := blk_frozen BK267.out 1; have hfz41_2 := blk_frozen BK267.out 2; have hfz41_3 := blk_frozen BK267.out 3; obtain ⟨Ao42, co42, eo42⟩ := Kd.R_slice HO274.out; subst eo42; have p281 : 0 ≤ (0 : Int) := (by omega); have q281 : 0 < (t272.length : Int) := of_decide_eq_true zA; obtain ⟨ad281, e281, hx281_0, hx281_1⟩ := at_T25 (Kd.R_reads' HO274.out).2.2 0 p281 q281; cases e281; have qi281 : (0 < t272.length) = True := eq_true (by omega); (try rw [show ((0 : Int)).toNat = 0 from rfl] at hx281_0); (try rw [show 0 * 2 = 0 from rfl] at hx281_0); (try rw [Addr.add_zero'] at hx281_0); (try rw [show ((0 : Int)).toNat = 0 from rfl] at hx281_1); (try rw [show 0 * 2 = 0 from rfl] at hx281_1); (try rw [Addr.add_zero'] at hx281_1); replace p281 := eq_true p281; replace q281 := eq_true q281; obtain ⟨Ao43, co43, eo43⟩ := Kd.R_slice HO280.out; subst eo43; have p282 : 0 ≤ (0 : Int) := (by omega); have q282 : 0 < (t278.length : Int) := of_decide_eq_true zA; obtain ⟨ad282, e282, hx282_0, hx282_1⟩ := at_T25 (Kd.R_reads' HO280.out).2.2 0 p282 q282; cases e282; have qi282 : (0 < t278.length) = True := eq_true (by omega); (try rw [show ((0 : Int)).toNat = 0 from rfl] at hx282_0); (try rw [show 0 * 2 = 0 from rfl] at hx282_0); (try rw [Addr.add_zero'] at hx282_0); (try rw [show ((0 : Int)).toNat = 0 from rfl] at hx282_1); (try rw [show 0 * 2 = 0 from rfl] at hx282_1); (try rw [Addr.add_zero'] at hx282_1); replace p282 := eq_true p282; replace q282 := eq_true q282) | (go_at_call 17; (with_reducible refine (prefetch_Waste.calls k _ _ t272 _ _ t278 t283 _ ?side1 ?side2 ?side3 ?side4 A14.out).mono ?_); (case side1 => exact zC (Kd.R_reads' HO274.out).2.2); (case side2 => exact (Kd.R_reads' HO274.out).2.1); (case side3 => exact zC (Kd.R_reads' HO280.out).2.2); (case side4 => exact (Kd.R_reads' HO280.out).2.1); rintro e w44 ⟨rfl, hb⟩; have n0_ := am (Kd.R_below (zR HO271.out) hb); have n1_ := am (Kd.R_below (zR HO274.out) hb); have n2_ := am (Kd.R_below (zR HO277.out) hb); have n3_ := am (Kd.R_below (zR HO280.out) hb); have n4_ := am (blk_below (g := gb259) (o := .cells #[.int .i64 t253, .int .i64 t254, .int .i64 t255, .int .i64 t256] 28 (0, 0)) (zL BK259.out) hb); have n5_ := am (blk_below (g := gb260) (o := .cells #[.int .i64 t257, .int .i64 t258] 25 (0, 0)) (zL BK260.out) hb); have n6_ := am (blk_below (g := gb267) (o := .cells #[.int .i64 t261, .int .i64 t262, .int .i64 t263, .int .i64 t264] 28 (0, 0)) (zL BK267.out) hb); have n7_ := am (blk_below (g := gb268) (o := .cells #[.int .i64 t265, .int .i64 t266] 25 (0, 0)) (zL BK268.out) hb); have n8_ := am (below_step (zG4 HB GE259 GE260 GE267 GE268) hb); clear HO271; clear HO274; clear HO277; clear HO280; clear BK259; clear BK260; clear BK267; clear BK268; clear HB; have HO271 := n0_; have HO274 := n1_; have HO277 := n2_; have HO280 := n3_; have BK259 := n4_; have BK260 := n5_; have BK267 := n6_; have BK268 := n7_; have HB := n8_; clear n0_ n1_ n2_ n3_ n4_ n5_ n6_ n7_ n8_; (try clear hb); (try clear hb2); (try clear hk); (try clear hi)))
          go_ret
          exact ⟨by first | rfl | (simp [errW_none, errW_some] <;> rfl) | (simp [*, errW_none, errW_some] <;> rfl), zG4 HB GE259 GE260 GE267 GE268⟩
         ·rw [if_neg c13] at H
          have c13b0 : (((rd_T25 t278 0).f0) == 0 && (((rd_T25 t278 0).f1) == 128)) = false := by simpa using c13
          (try (have c13b1 : decide (((rd_T25 t278 0).f0) = 0 && (((rd_T25 t278 0).f1) == 128)) = false := by simpa using c13))
          (try (have c13b2 : (((rd_T25 t278 0).f0) == 0 && (((rd_T25 t278 0).f1) == 128)) = false := by simpa using c13))
          (try (have c13b3 : ¬ (((rd_T25 t278 0).f0) = 0 && (((rd_T25 t278 0).f1) == 128)) := by simpa using c13))
          clear c13
          exact absurd (Option.some.inj H) (by rw [ht_.out]; simp)
        ·rw [if_neg c12] at H
         exact absurd H (by simp)
       ·rw [if_neg c11] at H
        have c11b0 : ((t278.length : Int) == 1) = false := beq_eq_false_iff_ne.mpr c11
        have c11b1 : ((t278.length : Int) != 1) = true := bne_iff_ne.mpr c11
        exact absurd (Option.some.inj H) (by rw [ht_.out]; simp)
      ·rw [if_neg c10] at H
       have c10b0 : (((rd_T25 t272 0).f0) == 0 && (((rd_T25 t272 0).f1) == 128)) = false := by simpa using c10
       (try (have c10b1 : decide (((rd_T25 t272 0).f0) = 0 && (((rd_T25 t272 0).f1) == 128)) = false := by simpa using c10))
       (try (have c10b2 : (((rd_T25 t272 0).f0) == 0 && (((rd_T25 t272 0).f1) == 128)) = false := by simpa using c10))
       (try (have c10b3 : ¬ (((rd_T25 t272 0).f0) = 0 && (((rd_T25 t272 0).f1) == 128)) := by simpa using c10))
       clear c10
       exact absurd (Option.some.inj H) (by rw [ht_.out]; simp)
     ·rw [if_neg c9] at H
      exact absurd H (by simp)
    ·rw [if_neg c8] at H
     have c8b0 : ((t272.length : Int) == 1) = false := beq_eq_false_iff_ne.mpr c8
     have c8b1 : ((t272.length : Int) != 1) = true := bne_iff_ne.mpr c8
     exact absurd (Option.some.inj H) (by rw [ht_.out]; simp)
   ·rw [if_neg c7] at H
    have c7b0 : (t261 == 200 && (t262 == 2 && (t263 == 328 && (t264 == 2)))) = false := by simpa using c7
    (try (have c7b1 : decide (t261 = 200 && (t262 == 2 && (t263 == 328 && (t264 == 2)))) = false := by simpa using c7))
    (try (have c7b2 : (t261 == 200 && (t262 == 2 && (t263 == 328 && (t264 == 2)))) = false := by simpa using c7))
    (try (have c7b3 : ¬ (t261 = 200 && (t262 == 2 && (t263 == 328 && (t264 == 2)))) := by simpa using c7))
    clear c7
    exact absurd (Option.some.inj H) (by rw [ht_.out]; simp)
  ·rw [if_neg c6] at H
   have c6b0 : (t265 == 200 && (t266 == 128)) = false := by simpa using c6
   (try (have c6b1 : decide (t265 = 200 && (t266 == 128)) = false := by simpa using c6))
   (try (have c6b2 : (t265 == 200 && (t266 == 128)) = false := by simpa using c6))
   (try (have c6b3 : ¬ (t265 = 200 && (t266 == 128)) := by simpa using c6))
   clear c6
   exact absurd (Option.some.inj H) (by rw [ht_.out]; simp)
 ·rw [if_neg c5] at H
  have c5b0 : (t257 == 100 && (t258 == 64)) = false := by simpa using c5
  (try (have c5b1 : decide (t257 = 100 && (t258 == 64)) = false := by simpa using c5))
  (try (have c5b2 : (t257 == 100 && (t258 == 64)) = false := by simpa using c5))
  (try (have c5b3 : ¬ (t257 = 100 && (t258 == 64)) := by simpa using c5))
  clear c5
  exact absurd (Option.some.inj H) (by rw [ht_.out]; simp)

end
end Go.Proofs.Ytapbmkcncjkanaa.P
