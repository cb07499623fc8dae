-- Laid by wip/tools/inj.py of this project, which drives the kit's printer. Lean checks it.
import Derived.Test.YthngclneffngbaaPr0
import Derived.Test.YthngclneffngbaaPrA2
import Derived.Test.YthngclneffngbaaPrA3
import Derived.Test.YthngclneffngbaaPrA4
import Derived.Test.YthngclneffngbaaPrB1
namespace Go.Proofs.Ythngclneffngbaa.Pr
open Go.RowKit Go.Proofs.YthngclneffngbaaW.PrintWords Go.Proofs.YthngclneffngbaaW.PrintLast Go.Proofs.YthngclneffngbaaW.PrintMore
attribute [local go_sem] max2_int min2_int max_two min_two max_three min_three max_four min_four   -- for this text's walks alone
set_option linter.unusedVariables false
set_option linter.unusedSimpArgs false

/-! ### numnahlaw03_SpreadSeries: function 5 -/
mutual
def numnahlaw03_SpreadSeries.j0 : Nat → Int → Int → Int → List Int → Int → List (S50) → Int → Bool → Option (Bool)
  | 0, _, _, _, _, _, _, _, _ => none
  | k + 1, x0, x1, x2, x7, x8, x9, x10, x40 => if x40 = true then (if (x7.length : Int) = 0 then (if x8 = 2 then (numnahlaw03_SpreadSeries.j3 k x0 x1 x9 x10) else (some false)) else (some false)) else (if (x7.length : Int) = x2 then (numnahlaw03_SpreadSeries.j1 k x0 x1 x2 x7 x9 x10 (x8 != 0)) else (numnahlaw03_SpreadSeries.j1 k x0 x1 x2 x7 x9 x10 true))
def numnahlaw03_SpreadSeries.j3 : Nat → Int → Int → List (S50) → Int → Option (Bool)
  | 0, _, _, _, _ => none
  | k + 1, x0, x1, x9, x10 => (numnahref03_Whole.f k x0 x1 60).bind fun t262 => (if t262 = 0 then (if (x9.length : Int) = 0 then (if x10 = 2 then ((numnahlaw03_awake.f k).bind fun t263 => (some t263)) else (some false)) else (some false)) else (if (x9.length : Int) = t262 then (numnahlaw03_SpreadSeries.j4 k x0 x1 x9 t262 (x10 != 0)) else (numnahlaw03_SpreadSeries.j4 k x0 x1 x9 t262 true)))
def numnahlaw03_SpreadSeries.j4 : Nat → Int → Int → List (S50) → Int → Bool → Option (Bool)
  | 0, _, _, _, _, _ => none
  | k + 1, x0, x1, x9, x11, x92 => if x92 = true then (some false) else (numnahlaw03_SpreadSeries.l1 k x0 x1 x9 x11 0)
def numnahlaw03_SpreadSeries.l1 : Nat → Int → Int → List (S50) → Int → Int → Option (Bool)
  | 0, _, _, _, _, _ => none
  | k + 1, x0, x1, x9, x11, x13 => if x13 < x11 then (if 0 ≤ x13 then (if x13 < (x9.length : Int) then (if ((rd_T50 x9 x13).f0) = x13 then ((numnahref03_Turned.f k x0 x1 x13).bind fun t266 => (if ((rd_T50 x9 x13).f1) = t266 then (numnahlaw03_SpreadSeries.l1 k x0 x1 x9 x11 (wrap64 (x13 + 1))) else (some false))) else (some false)) else (none)) else (none)) else ((numnahlaw03_awake.f k).bind fun t267 => (some t267))
def numnahlaw03_SpreadSeries.j1 : Nat → Int → Int → Int → List Int → List (S50) → Int → Bool → Option (Bool)
  | 0, _, _, _, _, _, _, _ => none
  | k + 1, x0, x1, x2, x7, x9, x10, x55 => if x55 = true then (some false) else (numnahlaw03_SpreadSeries.l0 k x0 x1 x2 x7 x9 x10 0)
def numnahlaw03_SpreadSeries.l0 : Nat → Int → Int → Int → List Int → List (S50) → Int → Int → Option (Bool)
  | 0, _, _, _, _, _, _, _ => none
  | k + 1, x0, x1, x2, x7, x9, x10, x12 => if x12 < x2 then (if 0 ≤ x12 then (if x12 < (x7.length : Int) then ((numnahref03_Turned.f k x0 x1 x12).bind fun t261 => (if (rd x7 x12) = t261 then (numnahlaw03_SpreadSeries.l0 k x0 x1 x2 x7 x9 x10 (wrap64 (x12 + 1))) else (some false))) else (none)) else (none)) else (numnahlaw03_SpreadSeries.j3 k x0 x1 x9 x10)
end
def numnahlaw03_SpreadSeries.f (k : Nat) (a0 : Int) (a1 : Int) (a2 : Int) : Option (Bool) := (spread_Series.f k a0 a1 a2).bind fun bt251 => ((spread_Pairs.f k a0 a1).bind fun bt255 => ((numnahref03_Whole.f k a0 a1 1000).bind fun t259 => (if a2 < 1 then (numnahlaw03_SpreadSeries.j0 k a0 a1 a2 bt251.1 bt251.2 bt255.1 bt255.2 true) else (if a2 > 60 then (numnahlaw03_SpreadSeries.j0 k a0 a1 a2 bt251.1 bt251.2 bt255.1 bt255.2 true) else (numnahlaw03_SpreadSeries.j0 k a0 a1 a2 bt251.1 bt251.2 bt255.1 bt255.2 (decide (a2 > t259)))))))
theorem numnahlaw03_SpreadSeries.mono_l : ∀ k, (∀ y0 y1 y2 y3 y4 y5 y6 y7, LeO (numnahlaw03_SpreadSeries.j0 k y0 y1 y2 y3 y4 y5 y6 y7) (numnahlaw03_SpreadSeries.j0 (k + 1) y0 y1 y2 y3 y4 y5 y6 y7)) ∧ (∀ y0 y1 y2 y3, LeO (numnahlaw03_SpreadSeries.j3 k y0 y1 y2 y3) (numnahlaw03_SpreadSeries.j3 (k + 1) y0 y1 y2 y3)) ∧ (∀ y0 y1 y2 y3 y4, LeO (numnahlaw03_SpreadSeries.j4 k y0 y1 y2 y3 y4) (numnahlaw03_SpreadSeries.j4 (k + 1) y0 y1 y2 y3 y4)) ∧ (∀ y0 y1 y2 y3 y4, LeO (numnahlaw03_SpreadSeries.l1 k y0 y1 y2 y3 y4) (numnahlaw03_SpreadSeries.l1 (k + 1) y0 y1 y2 y3 y4)) ∧ (∀ y0 y1 y2 y3 y4 y5 y6, LeO (numnahlaw03_SpreadSeries.j1 k y0 y1 y2 y3 y4 y5 y6) (numnahlaw03_SpreadSeries.j1 (k + 1) y0 y1 y2 y3 y4 y5 y6)) ∧ (∀ y0 y1 y2 y3 y4 y5 y6, LeO (numnahlaw03_SpreadSeries.l0 k y0 y1 y2 y3 y4 y5 y6) (numnahlaw03_SpreadSeries.l0 (k + 1) y0 y1 y2 y3 y4 y5 y6))
  | 0 => ⟨fun _ _ _ _ _ _ _ _ r h => by simp [numnahlaw03_SpreadSeries.j0] at h, fun _ _ _ _ r h => by simp [numnahlaw03_SpreadSeries.j3] at h, fun _ _ _ _ _ r h => by simp [numnahlaw03_SpreadSeries.j4] at h, fun _ _ _ _ _ r h => by simp [numnahlaw03_SpreadSeries.l1] at h, fun _ _ _ _ _ _ _ r h => by simp [numnahlaw03_SpreadSeries.j1] at h, fun _ _ _ _ _ _ _ r h => by simp [numnahlaw03_SpreadSeries.l0] at h⟩
  | k + 1 => by
    obtain ⟨ih0, ih1, ih2, ih3, ih4, ih5⟩ := numnahlaw03_SpreadSeries.mono_l k
    refine ⟨?_, ?_, ?_, ?_, ?_, ?_⟩
    · intro y0 y1 y2 y3 y4 y5 y6 y7
      unfold numnahlaw03_SpreadSeries.j0
      repeat' first
      | (with_reducible exact ih0 _ _ _ _ _ _ _ _)
      | (with_reducible exact ih1 _ _ _ _)
      | (with_reducible exact ih2 _ _ _ _ _)
      | (with_reducible exact ih3 _ _ _ _ _)
      | (with_reducible exact ih4 _ _ _ _ _ _ _)
      | (with_reducible exact ih5 _ _ _ _ _ _ _)
      | (with_reducible exact numnahlaw03_awake.mono _)
      | (with_reducible exact numnahref03_Turned.mono _ _ _ _)
      | (with_reducible exact numnahref03_Whole.mono _ _ _ _)
      | (with_reducible exact spread_Pairs.mono _ _ _)
      | (with_reducible exact spread_Series.mono _ _ _ _)
      | (with_reducible exact LeO.refl _)
      | (with_reducible exact LeO.none _)
      | (with_reducible refine LeO.ite ?_ ?_)
      | (with_reducible refine LeO.bind ?_ (fun _ => ?_))
      | exact ih0 _ _ _ _ _ _ _ _
      | exact ih1 _ _ _ _
      | exact ih2 _ _ _ _ _
      | exact ih3 _ _ _ _ _
      | exact ih4 _ _ _ _ _ _ _
      | exact ih5 _ _ _ _ _ _ _
      | exact numnahlaw03_awake.mono _
      | exact numnahref03_Turned.mono _ _ _ _
      | exact numnahref03_Whole.mono _ _ _ _
      | exact spread_Pairs.mono _ _ _
      | exact spread_Series.mono _ _ _ _
      | exact LeO.none _
      | refine LeO.ite ?_ ?_
      | refine LeO.bind ?_ (fun _ => ?_)
    · intro y0 y1 y2 y3
      unfold numnahlaw03_SpreadSeries.j3
      repeat' first
      | (with_reducible exact ih0 _ _ _ _ _ _ _ _)
      | (with_reducible exact ih1 _ _ _ _)
      | (with_reducible exact ih2 _ _ _ _ _)
      | (with_reducible exact ih3 _ _ _ _ _)
      | (with_reducible exact ih4 _ _ _ _ _ _ _)
      | (with_reducible exact ih5 _ _ _ _ _ _ _)
      | (with_reducible exact numnahlaw03_awake.mono _)
      | (with_reducible exact numnahref03_Turned.mono _ _ _ _)
      | (with_reducible exact numnahref03_Whole.mono _ _ _ _)
      | (with_reducible exact spread_Pairs.mono _ _ _)
      | (with_reducible exact spread_Series.mono _ _ _ _)
      | (with_reducible exact LeO.refl _)
      | (with_reducible exact LeO.none _)
      | (with_reducible refine LeO.ite ?_ ?_)
      | (with_reducible refine LeO.bind ?_ (fun _ => ?_))
      | exact ih0 _ _ _ _ _ _ _ _
      | exact ih1 _ _ _ _
      | exact ih2 _ _ _ _ _
      | exact ih3 _ _ _ _ _
      | exact ih4 _ _ _ _ _ _ _
      | exact ih5 _ _ _ _ _ _ _
      | exact numnahlaw03_awake.mono _
      | exact numnahref03_Turned.mono _ _ _ _
      | exact numnahref03_Whole.mono _ _ _ _
      | exact spread_Pairs.mono _ _ _
      | exact spread_Series.mono _ _ _ _
      | exact LeO.none _
      | refine LeO.ite ?_ ?_
      | refine LeO.bind ?_ (fun _ => ?_)
    · intro y0 y1 y2 y3 y4
      unfold numnahlaw03_SpreadSeries.j4
      repeat' first
      | (with_reducible exact ih0 _ _ _ _ _ _ _ _)
      | (with_reducible exact ih1 _ _ _ _)
      | (with_reducible exact ih2 _ _ _ _ _)
      | (with_reducible exact ih3 _ _ _ _ _)
      | (with_reducible exact ih4 _ _ _ _ _ _ _)
      | (with_reducible exact ih5 _ _ _ _ _ _ _)
      | (with_reducible exact numnahlaw03_awake.mono _)
      | (with_reducible exact numnahref03_Turned.mono _ _ _ _)
      | (with_reducible exact numnahref03_Whole.mono _ _ _ _)
      | (with_reducible exact spread_Pairs.mono _ _ _)
      | (with_reducible exact spread_Series.mono _ _ _ _)
      | (with_reducible exact LeO.refl _)
      | (with_reducible exact LeO.none _)
      | (with_reducible refine LeO.ite ?_ ?_)
      | (with_reducible refine LeO.bind ?_ (fun _ => ?_))
      | exact ih0 _ _ _ _ _ _ _ _
      | exact ih1 _ _ _ _
      | exact ih2 _ _ _ _ _
      | exact ih3 _ _ _ _ _
      | exact ih4 _ _ _ _ _ _ _
      | exact ih5 _ _ _ _ _ _ _
      | exact numnahlaw03_awake.mono _
      | exact numnahref03_Turned.mono _ _ _ _
      | exact numnahref03_Whole.mono _ _ _ _
      | exact spread_Pairs.mono _ _ _
      | exact spread_Series.mono _ _ _ _
      | exact LeO.none _
      | refine LeO.ite ?_ ?_
      | refine LeO.bind ?_ (fun _ => ?_)
    · intro y0 y1 y2 y3 y4
      unfold numnahlaw03_SpreadSeries.l1
      repeat' first
      | (with_reducible exact ih0 _ _ _ _ _ _ _ _)
      | (with_reducible exact ih1 _ _ _ _)
      | (with_reducible exact ih2 _ _ _ _ _)
      | (with_reducible exact ih3 _ _ _ _ _)
      | (with_reducible exact ih4 _ _ _ _ _ _ _)
      | (with_reducible exact ih5 _ _ _ _ _ _ _)
      | (with_reducible exact numnahlaw03_awake.mono _)
      | (with_reducible exact numnahref03_Turned.mono _ _ _ _)
      | (with_reducible exact numnahref03_Whole.mono _ _ _ _)
      | (with_reducible exact spread_Pairs.mono _ _ _)
      | (with_reducible exact spread_Series.mono _ _ _ _)
      | (with_reducible exact LeO.refl _)
      | (with_reducible exact LeO.none _)
      | (with_reducible refine LeO.ite ?_ ?_)
      | (with_reducible refine LeO.bind ?_ (fun _ => ?_))
      | exact ih0 _ _ _ _ _ _ _ _
      | exact ih1 _ _ _ _
      | exact ih2 _ _ _ _ _
      | exact ih3 _ _ _ _ _
      | exact ih4 _ _ _ _ _ _ _
      | exact ih5 _ _ _ _ _ _ _
      | exact numnahlaw03_awake.mono _
      | exact numnahref03_Turned.mono _ _ _ _
      | exact numnahref03_Whole.mono _ _ _ _
      | exact spread_Pairs.mono _ _ _
      | exact spread_Series.mono _ _ _ _
      | exact LeO.none _
      | refine LeO.ite ?_ ?_
      | refine LeO.bind ?_ (fun _ => ?_)
    · intro y0 y1 y2 y3 y4 y5 y6
      unfold numnahlaw03_SpreadSeries.j1
      repeat' first
      | (with_reducible exact ih0 _ _ _ _ _ _ _ _)
      | (with_reducible exact ih1 _ _ _ _)
      | (with_reducible exact ih2 _ _ _ _ _)
      | (with_reducible exact ih3 _ _ _ _ _)
      | (with_reducible exact ih4 _ _ _ _ _ _ _)
      | (with_reducible exact ih5 _ _ _ _ _ _ _)
      | (with_reducible exact numnahlaw03_awake.mono _)
      | (with_reducible exact numnahref03_Turned.mono _ _ _ _)
      | (with_reducible exact numnahref03_Whole.mono _ _ _ _)
      | (with_reducible exact spread_Pairs.mono _ _ _)
      | (with_reducible exact spread_Series.mono _ _ _ _)
      | (with_reducible exact LeO.refl _)
      | (with_reducible exact LeO.none _)
      | (with_reducible refine LeO.ite ?_ ?_)
      | (with_reducible refine LeO.bind ?_ (fun _ => ?_))
      | exact ih0 _ _ _ _ _ _ _ _
      | exact ih1 _ _ _ _
      | exact ih2 _ _ _ _ _
      | exact ih3 _ _ _ _ _
      | exact ih4 _ _ _ _ _ _ _
      | exact ih5 _ _ _ _ _ _ _
      | exact numnahlaw03_awake.mono _
      | exact numnahref03_Turned.mono _ _ _ _
      | exact numnahref03_Whole.mono _ _ _ _
      | exact spread_Pairs.mono _ _ _
      | exact spread_Series.mono _ _ _ _
      | exact LeO.none _
      | refine LeO.ite ?_ ?_
      | refine LeO.bind ?_ (fun _ => ?_)
    · intro y0 y1 y2 y3 y4 y5 y6
      unfold numnahlaw03_SpreadSeries.l0
      repeat' first
      | (with_reducible exact ih0 _ _ _ _ _ _ _ _)
      | (with_reducible exact ih1 _ _ _ _)
      | (with_reducible exact ih2 _ _ _ _ _)
      | (with_reducible exact ih3 _ _ _ _ _)
      | (with_reducible exact ih4 _ _ _ _ _ _ _)
      | (with_reducible exact ih5 _ _ _ _ _ _ _)
      | (with_reducible exact numnahlaw03_awake.mono _)
      | (with_reducible exact numnahref03_Turned.mono _ _ _ _)
      | (with_reducible exact numnahref03_Whole.mono _ _ _ _)
      | (with_reducible exact spread_Pairs.mono _ _ _)
      | (with_reducible exact spread_Series.mono _ _ _ _)
      | (with_reducible exact LeO.refl _)
      | (with_reducible exact LeO.none _)
      | (with_reducible refine LeO.ite ?_ ?_)
      | (with_reducible refine LeO.bind ?_ (fun _ => ?_))
      | exact ih0 _ _ _ _ _ _ _ _
      | exact ih1 _ _ _ _
      | exact ih2 _ _ _ _ _
      | exact ih3 _ _ _ _ _
      | exact ih4 _ _ _ _ _ _ _
      | exact ih5 _ _ _ _ _ _ _
      | exact numnahlaw03_awake.mono _
      | exact numnahref03_Turned.mono _ _ _ _
      | exact numnahref03_Whole.mono _ _ _ _
      | exact spread_Pairs.mono _ _ _
      | exact spread_Series.mono _ _ _ _
      | exact LeO.none _
      | refine LeO.ite ?_ ?_
      | refine LeO.bind ?_ (fun _ => ?_)
theorem numnahlaw03_SpreadSeries.mono : ∀ a0 a1 a2 k, LeO (numnahlaw03_SpreadSeries.f k a0 a1 a2) (numnahlaw03_SpreadSeries.f (k + 1) a0 a1 a2) := by
  intro a0 a1 a2 k
  obtain ⟨ih0, ih1, ih2, ih3, ih4, ih5⟩ := numnahlaw03_SpreadSeries.mono_l k
  unfold numnahlaw03_SpreadSeries.f
  repeat' first
      | (with_reducible exact ih0 _ _ _ _ _ _ _ _)
      | (with_reducible exact ih1 _ _ _ _)
      | (with_reducible exact ih2 _ _ _ _ _)
      | (with_reducible exact ih3 _ _ _ _ _)
      | (with_reducible exact ih4 _ _ _ _ _ _ _)
      | (with_reducible exact ih5 _ _ _ _ _ _ _)
      | (with_reducible exact numnahlaw03_awake.mono _)
      | (with_reducible exact numnahref03_Turned.mono _ _ _ _)
      | (with_reducible exact numnahref03_Whole.mono _ _ _ _)
      | (with_reducible exact spread_Pairs.mono _ _ _)
      | (with_reducible exact spread_Series.mono _ _ _ _)
      | (with_reducible exact LeO.refl _)
      | (with_reducible exact LeO.none _)
      | (with_reducible refine LeO.ite ?_ ?_)
      | (with_reducible refine LeO.bind ?_ (fun _ => ?_))
      | exact ih0 _ _ _ _ _ _ _ _
      | exact ih1 _ _ _ _
      | exact ih2 _ _ _ _ _
      | exact ih3 _ _ _ _ _
      | exact ih4 _ _ _ _ _ _ _
      | exact ih5 _ _ _ _ _ _ _
      | exact numnahlaw03_awake.mono _
      | exact numnahref03_Turned.mono _ _ _ _
      | exact numnahref03_Whole.mono _ _ _ _
      | exact spread_Pairs.mono _ _ _
      | exact spread_Series.mono _ _ _ _
      | exact LeO.none _
      | refine LeO.ite ?_ ?_
      | refine LeO.bind ?_ (fun _ => ?_)
set_option maxHeartbeats 8000000 in
set_option maxRecDepth 100000 in
theorem numnahlaw03_SpreadSeries.calls (k : Nat) (a0 : Int) (a1 : Int) (a2 : Int) (r : Bool) (w : World) (h : numnahlaw03_SpreadSeries.f k a0 a1 a2 = some r) :
    Calls Try.prog 5 #[.int .i64 a0, .int .i64 a1, .int .i64 a2] w fun e w' => e = .returned (.bool r) ∧ Below w.heap.size w w' := by
  have HB := Aside0.mk (Below.refl w.heap.size w)
  have H : ((spread_Series.f k a0 a1 a2).bind fun bt251 => ((spread_Pairs.f k a0 a1).bind fun bt255 => ((numnahref03_Whole.f k a0 a1 1000).bind fun t259 => (if a2 < 1 then (numnahlaw03_SpreadSeries.j0 k a0 a1 a2 bt251.1 bt251.2 bt255.1 bt255.2 true) else (if a2 > 60 then (numnahlaw03_SpreadSeries.j0 k a0 a1 a2 bt251.1 bt251.2 bt255.1 bt255.2 true) else (numnahlaw03_SpreadSeries.j0 k a0 a1 a2 bt251.1 bt251.2 bt255.1 bt255.2 (decide (a2 > t259)))))))) = some r := h
  clear h
  replace H := Option.bind_eq_some_iff.mp H
  obtain ⟨⟨t251, t252⟩, A40, H⟩ := H
  replace H : ((spread_Pairs.f k a0 a1).bind fun bt255 => ((numnahref03_Whole.f k a0 a1 1000).bind fun t259 => (if a2 < 1 then (numnahlaw03_SpreadSeries.j0 k a0 a1 a2 t251 t252 bt255.1 bt255.2 true) else (if a2 > 60 then (numnahlaw03_SpreadSeries.j0 k a0 a1 a2 t251 t252 bt255.1 bt255.2 true) else (numnahlaw03_SpreadSeries.j0 k a0 a1 a2 t251 t252 bt255.1 bt255.2 (decide (a2 > t259))))))) = some r := H
  have A4 := Aside0.mk A40
  clear A40
  replace H := Option.bind_eq_some_iff.mp H
  obtain ⟨⟨t255, t256⟩, A50, H⟩ := H
  replace H : ((numnahref03_Whole.f k a0 a1 1000).bind fun t259 => (if a2 < 1 then (numnahlaw03_SpreadSeries.j0 k a0 a1 a2 t251 t252 t255 t256 true) else (if a2 > 60 then (numnahlaw03_SpreadSeries.j0 k a0 a1 a2 t251 t252 t255 t256 true) else (numnahlaw03_SpreadSeries.j0 k a0 a1 a2 t251 t252 t255 t256 (decide (a2 > t259)))))) = some r := H
  have A5 := Aside0.mk A50
  clear A50
  replace H := Option.bind_eq_some_iff.mp H
  obtain ⟨t259, A60, H⟩ := H
  replace H : (if a2 < 1 then (numnahlaw03_SpreadSeries.j0 k a0 a1 a2 t251 t252 t255 t256 true) else (if a2 > 60 then (numnahlaw03_SpreadSeries.j0 k a0 a1 a2 t251 t252 t255 t256 true) else (numnahlaw03_SpreadSeries.j0 k a0 a1 a2 t251 t252 t255 t256 (decide (a2 > t259))))) = some r := H
  have A6 := Aside0.mk A60
  clear A60
  have HC7 := Aside0.mk H
  clear H
  go_enter Try.func5, Try.ntmps5
  go_upto_region 4 with (first | (go_at_call 29; (with_reducible refine (spread_Series.calls k a0 a1 a2 t251 t252 _ A4.out).mono ?_); rintro e w8 ⟨v253, rfl, ho0, hb⟩; have n0_ := Aside0.mk (Kd.R_lower ho0 (below_size (by repeat (first | (with_reducible first | exact HB.out | apply below_alloc | apply pw_below_drewN | apply below_drew1) | exact HB.out)))); have n1_ := Aside0.mk (below_step (by repeat (first | (with_reducible first | exact HB.out | apply below_alloc | apply pw_below_drewN | apply below_drew1) | exact HB.out)) hb); clear HB; have HO254 := n0_; have HB := n1_; clear n0_ n1_; (try clear hb); (try clear hb2); (try clear hk); (try clear hi); (try clear ho0)) | (go_at_call 30; (with_reducible refine (spread_Pairs.calls k a0 a1 t255 t256 _ A5.out).mono ?_); rintro e w9 ⟨v257, rfl, ho0, hb⟩; have n0_ := Aside0.mk (Kd.R_below (by (with_reducible repeat (first | apply Kd.R_alloc | apply Kd.R_drewN | apply Kd.R_drew)); exact HO254.out) hb); have n1_ := Aside0.mk (Kd.R_lower ho0 (below_size (by repeat (first | (with_reducible first | exact HB.out | apply below_alloc | apply pw_below_drewN | apply below_drew1) | exact HB.out)))); have n2_ := Aside0.mk (below_step (by repeat (first | (with_reducible first | exact HB.out | apply below_alloc | apply pw_below_drewN | apply below_drew1) | exact HB.out)) hb); clear HO254; clear HB; have HO254 := n0_; have HO258 := n1_; have HB := n2_; clear n0_ n1_ n2_; (try clear hb); (try clear hb2); (try clear hk); (try clear hi); (try clear ho0)) | (go_at_call 31; (with_reducible refine (numnahref03_Whole.calls k a0 a1 1000 t259 _ A6.out).mono ?_); rintro e w' ⟨rfl, ⟨nd, rfl⟩⟩; (try first | exact ⟨rfl, _, World.drewN_drewN _ _ _⟩ | exact ⟨rfl, _, Eq.trans (World.drewN_drewN _ _ _) (congrArg (World.drewN _) (Nat.add_assoc _ _ _))⟩)))
  repeat (go_quiet (first | (go_at_call 29; (with_reducible refine (spread_Series.calls k a0 a1 a2 t251 t252 _ A4.out).mono ?_); rintro e w8 ⟨v253, rfl, ho0, hb⟩; have n0_ := Aside0.mk (Kd.R_lower ho0 (below_size (by repeat (first | (with_reducible first | exact HB.out | apply below_alloc | apply pw_below_drewN | apply below_drew1) | exact HB.out)))); have n1_ := Aside0.mk (below_step (by repeat (first | (with_reducible first | exact HB.out | apply below_alloc | apply pw_below_drewN | apply below_drew1) | exact HB.out)) hb); clear HB; have HO254 := n0_; have HB := n1_; clear n0_ n1_; (try clear hb); (try clear hb2); (try clear hk); (try clear hi); (try clear ho0)) | (go_at_call 30; (with_reducible refine (spread_Pairs.calls k a0 a1 t255 t256 _ A5.out).mono ?_); rintro e w9 ⟨v257, rfl, ho0, hb⟩; have n0_ := Aside0.mk (Kd.R_below (by (with_reducible repeat (first | apply Kd.R_alloc | apply Kd.R_drewN | apply Kd.R_drew)); exact HO254.out) hb); have n1_ := Aside0.mk (Kd.R_lower ho0 (below_size (by repeat (first | (with_reducible first | exact HB.out | apply below_alloc | apply pw_below_drewN | apply below_drew1) | exact HB.out)))); have n2_ := Aside0.mk (below_step (by repeat (first | (with_reducible first | exact HB.out | apply below_alloc | apply pw_below_drewN | apply below_drew1) | exact HB.out)) hb); clear HO254; clear HB; have HO254 := n0_; have HO258 := n1_; have HB := n2_; clear n0_ n1_ n2_; (try clear hb); (try clear hb2); (try clear hk); (try clear hi); (try clear ho0)) | (go_at_call 31; (with_reducible refine (numnahref03_Whole.calls k a0 a1 1000 t259 _ A6.out).mono ?_); rintro e w' ⟨rfl, ⟨nd, rfl⟩⟩; (try first | exact ⟨rfl, _, World.drewN_drewN _ _ _⟩ | exact ⟨rfl, _, Eq.trans (World.drewN_drewN _ _ _) (congrArg (World.drewN _) (Nat.add_assoc _ _ _))⟩))); go_upto_region 4 with (first | (go_at_call 29; (with_reducible refine (spread_Series.calls k a0 a1 a2 t251 t252 _ A4.out).mono ?_); rintro e w8 ⟨v253, rfl, ho0, hb⟩; have n0_ := Aside0.mk (Kd.R_lower ho0 (below_size (by repeat (first | (with_reducible first | exact HB.out | apply below_alloc | apply pw_below_drewN | apply below_drew1) | exact HB.out)))); have n1_ := Aside0.mk (below_step (by repeat (first | (with_reducible first | exact HB.out | apply below_alloc | apply pw_below_drewN | apply below_drew1) | exact HB.out)) hb); clear HB; have HO254 := n0_; have HB := n1_; clear n0_ n1_; (try clear hb); (try clear hb2); (try clear hk); (try clear hi); (try clear ho0)) | (go_at_call 30; (with_reducible refine (spread_Pairs.calls k a0 a1 t255 t256 _ A5.out).mono ?_); rintro e w9 ⟨v257, rfl, ho0, hb⟩; have n0_ := Aside0.mk (Kd.R_below (by (with_reducible repeat (first | apply Kd.R_alloc | apply Kd.R_drewN | apply Kd.R_drew)); exact HO254.out) hb); have n1_ := Aside0.mk (Kd.R_lower ho0 (below_size (by repeat (first | (with_reducible first | exact HB.out | apply below_alloc | apply pw_below_drewN | apply below_drew1) | exact HB.out)))); have n2_ := Aside0.mk (below_step (by repeat (first | (with_reducible first | exact HB.out | apply below_alloc | apply pw_below_drewN | apply below_drew1) | exact HB.out)) hb); clear HO254; clear HB; have HO254 := n0_; have HO258 := n1_; have HB := n2_; clear n0_ n1_ n2_; (try clear hb); (try clear hb2); (try clear hk); (try clear hi); (try clear ho0)) | (go_at_call 31; (with_reducible refine (numnahref03_Whole.calls k a0 a1 1000 t259 _ A6.out).mono ?_); rintro e w' ⟨rfl, ⟨nd, rfl⟩⟩; (try first | exact ⟨rfl, _, World.drewN_drewN _ _ _⟩ | exact ⟨rfl, _, Eq.trans (World.drewN_drewN _ _ _) (congrArg (World.drewN _) (Nat.add_assoc _ _ _))⟩))))
  (try simp only [Act.put, List.setIfInBounds_toArray, List.set_cons_zero, List.set_cons_succ])
  go_cut [40] (fun v40 wc => ∃ (kq : Nat) (x40_6 : Bool), v40 = .bool x40_6 ∧ Aside0 (numnahlaw03_SpreadSeries.j0 kq a0 a1 a2 t251 t252 t255 t256 x40_6 = some r) ∧ Aside0 (kq ≤ k) ∧ Aside0 (Kd.R (Kd.int .i64) 3 wc w.heap.size (fun _ => True) v253 t251) ∧ Aside0 (Kd.R k50 50 wc w.heap.size (fun _ => True) v257 t255) ∧ Aside0 (Below w.heap.size w wc))
  case first =>
    have H := HC7.out
    clear HC7
    by_cases c10 : a2 < 1
    · rw [if_pos c10] at H
      have c10b0 : decide (a2 < 1) = true := decide_eq_true c10
      clear c10
      (first | rw [c10b0] | (simp only [i64_w, i32_w]; rw [c10b0]) | skip)
      have H' := Aside0.mk H
      clear H
      go_wp2
      repeat (go_quiet (fail); try go_wp2)
      go_meet
      case rel => exact ⟨_, (true), (by first | rfl | (simp; done) | (simp [*]; done)), H', ⟨by first | omega | exact Nat.le_refl _⟩, ⟨by (with_reducible repeat (first | apply Kd.R_alloc | apply Kd.R_drewN | apply Kd.R_drew)); exact HO254.out⟩, ⟨by (with_reducible repeat (first | apply Kd.R_alloc | apply Kd.R_drewN | apply Kd.R_drew)); exact HO258.out⟩, ⟨by repeat (first | (with_reducible first | exact HB.out | apply below_alloc | apply pw_below_drewN | apply below_drew1) | exact HB.out)⟩⟩
    · rw [if_neg c10] at H
      have c10b0 : decide (a2 < 1) = false := decide_eq_false c10
      clear c10
      (first | rw [c10b0] | (simp only [i64_w, i32_w]; rw [c10b0]) | skip)
      by_cases c11 : a2 > 60
      · rw [if_pos c11] at H
        have c11b0 : decide (60 < a2) = true := decide_eq_true c11
        clear c11
        have H' := Aside0.mk H
        clear H
        go_wp2
        repeat (go_quiet (fail); try go_wp2)
        go_meet
        case rel => exact ⟨_, (true), (by first | rfl | (simp; done) | (simp [*]; done)), H', ⟨by first | omega | exact Nat.le_refl _⟩, ⟨by (with_reducible repeat (first | apply Kd.R_alloc | apply Kd.R_drewN | apply Kd.R_drew)); exact HO254.out⟩, ⟨by (with_reducible repeat (first | apply Kd.R_alloc | apply Kd.R_drewN | apply Kd.R_drew)); exact HO258.out⟩, ⟨by repeat (first | (with_reducible first | exact HB.out | apply below_alloc | apply pw_below_drewN | apply below_drew1) | exact HB.out)⟩⟩
      · rw [if_neg c11] at H
        have c11b0 : decide (60 < a2) = false := decide_eq_false c11
        clear c11
        have H' := Aside0.mk H
        clear H
        go_wp2
        repeat (go_quiet (fail); try go_wp2)
        go_meet
        case rel => exact ⟨_, (decide (a2 > t259)), (by first | rfl | (simp; done) | (simp [*]; done)), H', ⟨by first | omega | exact Nat.le_refl _⟩, ⟨by (with_reducible repeat (first | apply Kd.R_alloc | apply Kd.R_drewN | apply Kd.R_drew)); exact HO254.out⟩, ⟨by (with_reducible repeat (first | apply Kd.R_alloc | apply Kd.R_drewN | apply Kd.R_drew)); exact HO258.out⟩, ⟨by repeat (first | (with_reducible first | exact HB.out | apply below_alloc | apply pw_below_drewN | apply below_drew1) | exact HB.out)⟩⟩
  case rest =>
    clear HC7
    try clear c1
    try clear p2
    try clear c5
    try clear c10
    try clear c10b0
    try clear c11
    try clear c11b0
    obtain ⟨kq, x40_6, rfl, HA, HJ6, HO_7, HO_9, HB⟩ := hcut
    cases kq with
    | zero => exact absurd HA.out (by simp [numnahlaw03_SpreadSeries.j0])
    | succ kj6 =>
      have H := HA.out
      clear HA
      simp only [numnahlaw03_SpreadSeries.j0] at H
      have HC12 := Aside0.mk H
      clear H
      go_upto_if 40 with (fail)
      repeat (go_quiet (fail); go_upto_if 40 with (fail))
      go_cut [] (fun wc => ∃ (kq : Nat), Aside0 (numnahlaw03_SpreadSeries.j3 kq a0 a1 t255 t256 = some r) ∧ Aside0 (kq ≤ kj6) ∧ Aside0 (Kd.R k50 50 wc w.heap.size (fun _ => True) v257 t255) ∧ Aside0 (Below w.heap.size w wc))
      case first =>
        have H := HC12.out
        clear HC12
        by_cases c13 : x40_6 = true
        · subst c13
          have H1 : (if (t251.length : Int) = 0 then (if t252 = 2 then (numnahlaw03_SpreadSeries.j3 kj6 a0 a1 t255 t256) else (some false)) else (some false)) = some r := by rw [if_pos rfl] at H; exact H
          clear H
          have H := H1
          clear H1
          by_cases c14 : (t251.length : Int) = 0
          · rw [if_pos c14] at H
            have c14b0 : ((t251.length : Int) == 0) = true := beq_iff_eq.mpr c14
            have c14b1 : ((t251.length : Int) != 0) = false := bne_eq_false_iff_eq.mpr c14
            clear c14
            (first | rw [c14b0] | (simp only [i64_w, i32_w]; rw [c14b0]) | skip)
            by_cases c15 : t252 = 2
            · rw [if_pos c15] at H
              have c15b0 : (t252 == 2) = true := beq_iff_eq.mpr c15
              have c15b1 : (t252 != 2) = false := bne_eq_false_iff_eq.mpr c15
              clear c15
              have H' := Aside0.mk H
              clear H
              obtain ⟨Ao16, co16, eo16⟩ := Kd.R_slice HO_7.out
              subst eo16
              go_wp2
              repeat (go_quiet (fail); try go_wp2)
              go_meet
              case rel => exact ⟨_, H', ⟨by have := HJ6.out; first | omega | exact Nat.le_refl _⟩, ⟨by (with_reducible repeat (first | apply Kd.R_alloc | apply Kd.R_drewN | apply Kd.R_drew)); exact HO_9.out⟩, ⟨by repeat (first | (with_reducible first | exact HB.out | apply below_alloc | apply pw_below_drewN | apply below_drew1) | exact HB.out)⟩⟩
            · rw [if_neg c15] at H
              have c15b0 : (t252 == 2) = false := beq_eq_false_iff_ne.mpr c15
              have c15b1 : (t252 != 2) = true := bne_iff_ne.mpr c15
              obtain rfl := Option.some.inj H
              obtain ⟨Ao17, co17, eo17⟩ := Kd.R_slice HO_7.out
              subst eo17
              go_wp2
              repeat (go_quiet (fail); try go_wp2)
              go_ret
              exact ⟨by first | rfl | (simp [errW_none, errW_some] <;> rfl) | (simp [*, errW_none, errW_some] <;> rfl), by repeat (first | (with_reducible first | exact HB.out | apply below_alloc | apply pw_below_drewN | apply below_drew1) | exact HB.out)⟩
          · rw [if_neg c14] at H
            have c14b0 : ((t251.length : Int) == 0) = false := beq_eq_false_iff_ne.mpr c14
            have c14b1 : ((t251.length : Int) != 0) = true := bne_iff_ne.mpr c14
            have c14b2 : ¬ (t251 = []) := fun h_ => c14 (by rw [h_]; rfl)
            (first | rw [c14b0] | (simp only [i64_w, i32_w]; rw [c14b0]) | skip)
            obtain rfl := Option.some.inj H
            obtain ⟨Ao18, co18, eo18⟩ := Kd.R_slice HO_7.out
            subst eo18
            go_wp2
            repeat (go_quiet (fail); try go_wp2)
            go_ret
            exact ⟨by first | rfl | (simp [errW_none, errW_some] <;> rfl) | (simp [*, errW_none, errW_some] <;> rfl), by repeat (first | (with_reducible first | exact HB.out | apply below_alloc | apply pw_below_drewN | apply below_drew1) | exact HB.out)⟩
        · replace c13 := Bool.eq_false_iff.mpr c13
          subst c13
          have H1 : (if (t251.length : Int) = a2 then (numnahlaw03_SpreadSeries.j1 kj6 a0 a1 a2 t251 t255 t256 (t252 != 0)) else (numnahlaw03_SpreadSeries.j1 kj6 a0 a1 a2 t251 t255 t256 true)) = some r := by rw [if_neg (show ¬ (false = true) by decide)] at H; exact H
          clear H
          have H := H1
          clear H1
          have HC19 := Aside0.mk H
          clear H
          go_upto_region 7 with (fail)
          repeat (go_quiet (fail); go_upto_region 7 with (fail))
          go_cut [55] (fun v55 wc => ∃ (kq : Nat) (x55_18 : Bool), v55 = .bool x55_18 ∧ Aside0 (numnahlaw03_SpreadSeries.j1 kq a0 a1 a2 t251 t255 t256 x55_18 = some r) ∧ Aside0 (kq ≤ kj6) ∧ Aside0 (Kd.R (Kd.int .i64) 3 wc w.heap.size (fun _ => True) v253 t251) ∧ Aside0 (Kd.R k50 50 wc w.heap.size (fun _ => True) v257 t255) ∧ Aside0 (Below w.heap.size w wc))
          case first =>
            have H := HC19.out
            clear HC19
            by_cases c20 : (t251.length : Int) = a2
            · rw [if_pos c20] at H
              have c20b0 : ((t251.length : Int) == a2) = true := beq_iff_eq.mpr c20
              have c20b1 : ((t251.length : Int) != a2) = false := bne_eq_false_iff_eq.mpr c20
              clear c20
              (first | rw [c20b0] | (simp only [i64_w, i32_w]; rw [c20b0]) | skip)
              have H' := Aside0.mk H
              clear H
              obtain ⟨Ao21, co21, eo21⟩ := Kd.R_slice HO_7.out
              subst eo21
              go_wp2
              repeat (go_quiet (fail); try go_wp2)
              go_meet
              case rel => exact ⟨_, ((t252 != 0)), (by first | rfl | (simp; done) | (simp [*]; done)), H', ⟨by have := HJ6.out; first | omega | exact Nat.le_refl _⟩, ⟨by (with_reducible repeat (first | apply Kd.R_alloc | apply Kd.R_drewN | apply Kd.R_drew)); exact HO_7.out⟩, ⟨by (with_reducible repeat (first | apply Kd.R_alloc | apply Kd.R_drewN | apply Kd.R_drew)); exact HO_9.out⟩, ⟨by repeat (first | (with_reducible first | exact HB.out | apply below_alloc | apply pw_below_drewN | apply below_drew1) | exact HB.out)⟩⟩
            · rw [if_neg c20] at H
              have c20b0 : ((t251.length : Int) == a2) = false := beq_eq_false_iff_ne.mpr c20
              have c20b1 : ((t251.length : Int) != a2) = true := bne_iff_ne.mpr c20
              (first | rw [c20b0] | (simp only [i64_w, i32_w]; rw [c20b0]) | skip)
              have H' := Aside0.mk H
              clear H
              obtain ⟨Ao22, co22, eo22⟩ := Kd.R_slice HO_7.out
              subst eo22
              go_wp2
              repeat (go_quiet (fail); try go_wp2)
              go_meet
              case rel => exact ⟨_, (true), (by first | rfl | (simp; done) | (simp [*]; done)), H', ⟨by have := HJ6.out; first | omega | exact Nat.le_refl _⟩, ⟨by (with_reducible repeat (first | apply Kd.R_alloc | apply Kd.R_drewN | apply Kd.R_drew)); exact HO_7.out⟩, ⟨by (with_reducible repeat (first | apply Kd.R_alloc | apply Kd.R_drewN | apply Kd.R_drew)); exact HO_9.out⟩, ⟨by repeat (first | (with_reducible first | exact HB.out | apply below_alloc | apply pw_below_drewN | apply below_drew1) | exact HB.out)⟩⟩
          case rest =>
            clear HC19
            try clear c1
            try clear c2
            try clear p2
            try clear c5
            try clear c10
            try clear c10b0
            try clear c11
            try clear c11b0
            try clear c13
            try clear c14
            try clear c14b0
            try clear c14b1
            try clear c14b2
            try clear c15
            try clear c15b0
            try clear c15b1
            try clear c20
            try clear c20b0
            try clear c20b1
            try clear p2
            obtain ⟨kq, x55_18, rfl, HA, HJ18, HO_7, HO_9, HB⟩ := hcut
            cases kq with
            | zero => exact absurd HA.out (by simp [numnahlaw03_SpreadSeries.j1])
            | succ kj18 =>
              have H := HA.out
              clear HA
              simp only [numnahlaw03_SpreadSeries.j1] at H
              by_cases c23 : x55_18 = true
              · subst c23
                have H1 : (some false) = some r := by rw [if_pos rfl] at H; exact H
                clear H
                have H := H1
                clear H1
                obtain rfl := Option.some.inj H
                go_wp2
                repeat (go_quiet (fail); try go_wp2)
                go_ret
                exact ⟨by first | rfl | (simp [errW_none, errW_some] <;> rfl) | (simp [*, errW_none, errW_some] <;> rfl), by repeat (first | (with_reducible first | exact HB.out | apply below_alloc | apply pw_below_drewN | apply below_drew1) | exact HB.out)⟩
              · replace c23 := Bool.eq_false_iff.mpr c23
                subst c23
                have H1 : (numnahlaw03_SpreadSeries.l0 kj18 a0 a1 a2 t251 t255 t256 0) = some r := by rw [if_neg (show ¬ (false = true) by decide)] at H; exact H
                clear H
                have H := H1
                clear H1
                have H' := Aside0.mk H
                clear H
                go_wp2
                repeat (go_quiet (fail); try go_wp2)
                go_loopg [12] kj18 (fun kq v12 w' => ∃ (x12_3 : Int), v12 = .int .i64 x12_3 ∧ Aside0 (numnahlaw03_SpreadSeries.l0 kq a0 a1 a2 t251 t255 t256 x12_3 = some r) ∧ Aside0 (kq ≤ kj18) ∧ Aside0 (Kd.R (Kd.int .i64) 3 w' w.heap.size (fun _ => True) v253 t251) ∧ Aside0 (Kd.R k50 50 w' w.heap.size (fun _ => True) v257 t255) ∧ Aside0 (Below w.heap.size w w'))
                case atStart => exact ⟨(0), (by first | rfl | (simp; done) | (simp [*]; done)), H', ⟨Nat.le_refl _⟩, ⟨by (with_reducible repeat (first | apply Kd.R_alloc | apply Kd.R_drewN | apply Kd.R_drew)); exact HO_7.out⟩, ⟨by (with_reducible repeat (first | apply Kd.R_alloc | apply Kd.R_drewN | apply Kd.R_drew)); exact HO_9.out⟩, ⟨by repeat (first | (with_reducible first | exact HB.out | apply below_alloc | apply pw_below_drewN | apply below_drew1) | exact HB.out)⟩⟩
                case round =>
                  clear H'
                  try clear c1
                  try clear c2
                  try clear p2
                  try clear c5
                  try clear c10
                  try clear c10b0
                  try clear c11
                  try clear c11b0
                  try clear c13
                  try clear c14
                  try clear c14b0
                  try clear c14b1
                  try clear c14b2
                  try clear c15
                  try clear c15b0
                  try clear c15b1
                  try clear c20
                  try clear c20b0
                  try clear c20b1
                  try clear c23
                  try clear p2
                  obtain ⟨x12_3, rfl, HA, HK3, HO_7, HO_9, HB⟩ := hrel
                  cases gk with
                  | zero => exact absurd HA.out (by simp [numnahlaw03_SpreadSeries.l0])
                  | succ k3 =>
                    have H := HA.out
                    clear HA
                    simp only [numnahlaw03_SpreadSeries.l0] at H
                    by_cases c24 : x12_3 < a2
                    · rw [if_pos c24] at H
                      have c24b0 : decide (x12_3 < a2) = true := decide_eq_true c24
                      clear c24
                      by_cases c25 : 0 ≤ x12_3
                      · rw [if_pos c25] at H
                        have c25b0 : decide (0 ≤ x12_3) = true := decide_eq_true c25
                        clear c25
                        by_cases c26 : x12_3 < (t251.length : Int)
                        · rw [if_pos c26] at H
                          have c26b0 : decide (x12_3 < (t251.length : Int)) = true := decide_eq_true c26
                          clear c26
                          replace H := Option.bind_eq_some_iff.mp H
                          obtain ⟨t261, A270, H⟩ := H
                          replace H : (if (rd t251 x12_3) = t261 then (numnahlaw03_SpreadSeries.l0 k3 a0 a1 a2 t251 t255 t256 (wrap64 (x12_3 + 1))) else (some false)) = some r := H
                          have A27 := Aside0.mk A270
                          clear A270
                          by_cases c28 : (rd t251 x12_3) = t261
                          · rw [if_pos c28] at H
                            have c28b0 : ((rd t251 x12_3) == t261) = true := beq_iff_eq.mpr c28
                            have c28b1 : ((rd t251 x12_3) != t261) = false := bne_eq_false_iff_eq.mpr c28
                            clear c28
                            have H' := Aside0.mk H
                            clear H
                            obtain ⟨Ao29, co29, eo29⟩ := Kd.R_slice HO_7.out
                            subst eo29
                            have p260 : 0 ≤ (x12_3 : Int) := of_decide_eq_true (by first | (with_reducible assumption) | assumption)
                            have q260 : x12_3 < (t251.length : Int) := of_decide_eq_true (by first | (with_reducible assumption) | assumption)
                            obtain ⟨ad260, e260, hx260_0⟩ := Kd.at_int (Kd.R_reads' HO_7.out).2.2 x12_3 p260 q260
                            cases e260
                            replace p260 := eq_true p260
                            replace q260 := eq_true q260
                            go_wp2_with (first | (go_at_call 32; (with_reducible refine (numnahref03_Turned.calls k3 a0 a1 x12_3 t261 _ A27.out).mono ?_); rintro e w' ⟨rfl, ⟨nd, rfl⟩⟩; (try first | exact ⟨rfl, _, World.drewN_drewN _ _ _⟩ | exact ⟨rfl, _, Eq.trans (World.drewN_drewN _ _ _) (congrArg (World.drewN _) (Nat.add_assoc _ _ _))⟩)))
                            repeat (go_quiet (first | (go_at_call 32; (with_reducible refine (numnahref03_Turned.calls k3 a0 a1 x12_3 t261 _ A27.out).mono ?_); rintro e w' ⟨rfl, ⟨nd, rfl⟩⟩; (try first | exact ⟨rfl, _, World.drewN_drewN _ _ _⟩ | exact ⟨rfl, _, Eq.trans (World.drewN_drewN _ _ _) (congrArg (World.drewN _) (Nat.add_assoc _ _ _))⟩))); try go_wp2_with (first | (go_at_call 32; (with_reducible refine (numnahref03_Turned.calls k3 a0 a1 x12_3 t261 _ A27.out).mono ?_); rintro e w' ⟨rfl, ⟨nd, rfl⟩⟩; (try first | exact ⟨rfl, _, World.drewN_drewN _ _ _⟩ | exact ⟨rfl, _, Eq.trans (World.drewN_drewN _ _ _) (congrArg (World.drewN _) (Nat.add_assoc _ _ _))⟩))))
                            go_roundg k3
                            case measure => have := HJ6.out; have := HJ18.out; have := HK3.out; omega
                            case rel => exact ⟨(wrap64 (x12_3 + 1)), (by first | rfl | (simp; done) | (simp [*]; done)), H', ⟨by have := HJ6.out; have := HJ18.out; have := HK3.out; omega⟩, ⟨by (with_reducible repeat (first | apply Kd.R_alloc | apply Kd.R_drewN | apply Kd.R_drew)); exact HO_7.out⟩, ⟨by (with_reducible repeat (first | apply Kd.R_alloc | apply Kd.R_drewN | apply Kd.R_drew)); exact HO_9.out⟩, ⟨by repeat (first | (with_reducible first | exact HB.out | apply below_alloc | apply pw_below_drewN | apply below_drew1) | exact HB.out)⟩⟩
                          · rw [if_neg c28] at H
                            have c28b0 : ((rd t251 x12_3) == t261) = false := beq_eq_false_iff_ne.mpr c28
                            have c28b1 : ((rd t251 x12_3) != t261) = true := bne_iff_ne.mpr c28
                            obtain rfl := Option.some.inj H
                            obtain ⟨Ao30, co30, eo30⟩ := Kd.R_slice HO_7.out
                            subst eo30
                            have p260 : 0 ≤ (x12_3 : Int) := of_decide_eq_true (by first | (with_reducible assumption) | assumption)
                            have q260 : x12_3 < (t251.length : Int) := of_decide_eq_true (by first | (with_reducible assumption) | assumption)
                            obtain ⟨ad260, e260, hx260_0⟩ := Kd.at_int (Kd.R_reads' HO_7.out).2.2 x12_3 p260 q260
                            cases e260
                            replace p260 := eq_true p260
                            replace q260 := eq_true q260
                            go_wp2_with (first | (go_at_call 32; (with_reducible refine (numnahref03_Turned.calls k3 a0 a1 x12_3 t261 _ A27.out).mono ?_); rintro e w' ⟨rfl, ⟨nd, rfl⟩⟩; (try first | exact ⟨rfl, _, World.drewN_drewN _ _ _⟩ | exact ⟨rfl, _, Eq.trans (World.drewN_drewN _ _ _) (congrArg (World.drewN _) (Nat.add_assoc _ _ _))⟩)))
                            repeat (go_quiet (first | (go_at_call 32; (with_reducible refine (numnahref03_Turned.calls k3 a0 a1 x12_3 t261 _ A27.out).mono ?_); rintro e w' ⟨rfl, ⟨nd, rfl⟩⟩; (try first | exact ⟨rfl, _, World.drewN_drewN _ _ _⟩ | exact ⟨rfl, _, Eq.trans (World.drewN_drewN _ _ _) (congrArg (World.drewN _) (Nat.add_assoc _ _ _))⟩))); try go_wp2_with (first | (go_at_call 32; (with_reducible refine (numnahref03_Turned.calls k3 a0 a1 x12_3 t261 _ A27.out).mono ?_); rintro e w' ⟨rfl, ⟨nd, rfl⟩⟩; (try first | exact ⟨rfl, _, World.drewN_drewN _ _ _⟩ | exact ⟨rfl, _, Eq.trans (World.drewN_drewN _ _ _) (congrArg (World.drewN _) (Nat.add_assoc _ _ _))⟩))))
                            go_ret
                            exact ⟨by first | rfl | (simp [errW_none, errW_some] <;> rfl) | (simp [*, errW_none, errW_some] <;> rfl), by repeat (first | (with_reducible first | exact HB.out | apply below_alloc | apply pw_below_drewN | apply below_drew1) | exact HB.out)⟩
                        · rw [if_neg c26] at H
                          exact absurd H (by simp)
                      · rw [if_neg c25] at H
                        exact absurd H (by simp)
                    · rw [if_neg c24] at H
                      have c24b0 : decide (x12_3 < a2) = false := decide_eq_false c24
                      clear c24
                      have H' := Aside0.mk H
                      clear H
                      go_wp2
                      repeat (go_quiet (fail); try go_wp2)
                      go_meet
                      case rel => exact ⟨_, H', ⟨by have := HJ6.out; have := HJ18.out; have := HK3.out; first | omega | exact Nat.le_refl _⟩, ⟨by (with_reducible repeat (first | apply Kd.R_alloc | apply Kd.R_drewN | apply Kd.R_drew)); exact HO_9.out⟩, ⟨by repeat (first | (with_reducible first | exact HB.out | apply below_alloc | apply pw_below_drewN | apply below_drew1) | exact HB.out)⟩⟩
      case rest =>
        clear HC12
        try clear c1
        try clear c2
        try clear p2
        try clear q2
        try clear hx2
        try clear c5
        try clear p6
        try clear c10
        try clear c10b0
        try clear c11
        try clear c11b0
        try clear c13
        try clear c14
        try clear c14b0
        try clear c14b1
        try clear c14b2
        try clear c15
        try clear c15b0
        try clear c15b1
        try clear c20
        try clear c20b0
        try clear c20b1
        try clear c23
        try clear c24
        try clear c24b0
        try clear c25
        try clear c25b0
        try clear c26
        try clear c26b0
        try clear p26
        try clear q26
        try clear hx26
        try clear c28
        try clear c28b0
        try clear c28b1
        try clear hx260_0
        try clear p2
        try clear p260
        try clear q260
        obtain ⟨kq, HA, HJ11, HO_9, HB⟩ := hcut
        cases kq with
        | zero => exact absurd HA.out (by simp [numnahlaw03_SpreadSeries.j3])
        | succ kj11 =>
          have H := HA.out
          clear HA
          simp only [numnahlaw03_SpreadSeries.j3] at H
          replace H := Option.bind_eq_some_iff.mp H
          obtain ⟨t262, A310, H⟩ := H
          replace H : (if t262 = 0 then (if (t255.length : Int) = 0 then (if t256 = 2 then ((numnahlaw03_awake.f kj11).bind fun t263 => (some t263)) else (some false)) else (some false)) else (if (t255.length : Int) = t262 then (numnahlaw03_SpreadSeries.j4 kj11 a0 a1 t255 t262 (t256 != 0)) else (numnahlaw03_SpreadSeries.j4 kj11 a0 a1 t255 t262 true))) = some r := H
          have A31 := Aside0.mk A310
          clear A310
          by_cases c32 : t262 = 0
          · rw [if_pos c32] at H
            have c32b0 : (t262 == 0) = true := beq_iff_eq.mpr c32
            have c32b1 : (t262 != 0) = false := bne_eq_false_iff_eq.mpr c32
            clear c32
            by_cases c33 : (t255.length : Int) = 0
            · rw [if_pos c33] at H
              have c33b0 : ((t255.length : Int) == 0) = true := beq_iff_eq.mpr c33
              have c33b1 : ((t255.length : Int) != 0) = false := bne_eq_false_iff_eq.mpr c33
              clear c33
              by_cases c34 : t256 = 2
              · rw [if_pos c34] at H
                have c34b0 : (t256 == 2) = true := beq_iff_eq.mpr c34
                have c34b1 : (t256 != 2) = false := bne_eq_false_iff_eq.mpr c34
                clear c34
                replace H := Option.bind_eq_some_iff.mp H
                obtain ⟨t263, A350, H⟩ := H
                replace H : (some t263) = some r := H
                have A35 := Aside0.mk A350
                clear A350
                obtain rfl := Option.some.inj H
                go_wp2_with (first | (go_at_call 31; (with_reducible refine (numnahref03_Whole.calls kj11 a0 a1 60 t262 _ A31.out).mono ?_); rintro e w' ⟨rfl, ⟨nd, rfl⟩⟩; (try first | exact ⟨rfl, _, World.drewN_drewN _ _ _⟩ | exact ⟨rfl, _, Eq.trans (World.drewN_drewN _ _ _) (congrArg (World.drewN _) (Nat.add_assoc _ _ _))⟩); obtain ⟨Ao36, co36, eo36⟩ := Kd.R_slice HO_9.out; subst eo36) | (go_at_call 22; (with_reducible refine (numnahlaw03_awake.calls kj11  t263 _ A35.out).mono ?_); rintro e w37 ⟨rfl, hb⟩; have n0_ := Aside0.mk (Kd.R_below (by (with_reducible repeat (first | apply Kd.R_alloc | apply Kd.R_drewN | apply Kd.R_drew)); exact HO_9.out) hb); have n1_ := Aside0.mk (below_step (by repeat (first | (with_reducible first | exact HB.out | apply below_alloc | apply pw_below_drewN | apply below_drew1) | exact HB.out)) hb); clear HO_9; clear HB; have HO_9 := n0_; have HB := n1_; clear n0_ n1_; (try clear hb); (try clear hb2); (try clear hk); (try clear hi)))
                repeat (go_quiet (first | (go_at_call 31; (with_reducible refine (numnahref03_Whole.calls kj11 a0 a1 60 t262 _ A31.out).mono ?_); rintro e w' ⟨rfl, ⟨nd, rfl⟩⟩; (try first | exact ⟨rfl, _, World.drewN_drewN _ _ _⟩ | exact ⟨rfl, _, Eq.trans (World.drewN_drewN _ _ _) (congrArg (World.drewN _) (Nat.add_assoc _ _ _))⟩); obtain ⟨Ao36, co36, eo36⟩ := Kd.R_slice HO_9.out; subst eo36) | (go_at_call 22; (with_reducible refine (numnahlaw03_awake.calls kj11  t263 _ A35.out).mono ?_); rintro e w37 ⟨rfl, hb⟩; have n0_ := Aside0.mk (Kd.R_below (by (with_reducible repeat (first | apply Kd.R_alloc | apply Kd.R_drewN | apply Kd.R_drew)); exact HO_9.out) hb); have n1_ := Aside0.mk (below_step (by repeat (first | (with_reducible first | exact HB.out | apply below_alloc | apply pw_below_drewN | apply below_drew1) | exact HB.out)) hb); clear HO_9; clear HB; have HO_9 := n0_; have HB := n1_; clear n0_ n1_; (try clear hb); (try clear hb2); (try clear hk); (try clear hi))); try go_wp2_with (first | (go_at_call 31; (with_reducible refine (numnahref03_Whole.calls kj11 a0 a1 60 t262 _ A31.out).mono ?_); rintro e w' ⟨rfl, ⟨nd, rfl⟩⟩; (try first | exact ⟨rfl, _, World.drewN_drewN _ _ _⟩ | exact ⟨rfl, _, Eq.trans (World.drewN_drewN _ _ _) (congrArg (World.drewN _) (Nat.add_assoc _ _ _))⟩); obtain ⟨Ao36, co36, eo36⟩ := Kd.R_slice HO_9.out; subst eo36) | (go_at_call 22; (with_reducible refine (numnahlaw03_awake.calls kj11  t263 _ A35.out).mono ?_); rintro e w37 ⟨rfl, hb⟩; have n0_ := Aside0.mk (Kd.R_below (by (with_reducible repeat (first | apply Kd.R_alloc | apply Kd.R_drewN | apply Kd.R_drew)); exact HO_9.out) hb); have n1_ := Aside0.mk (below_step (by repeat (first | (with_reducible first | exact HB.out | apply below_alloc | apply pw_below_drewN | apply below_drew1) | exact HB.out)) hb); clear HO_9; clear HB; have HO_9 := n0_; have HB := n1_; clear n0_ n1_; (try clear hb); (try clear hb2); (try clear hk); (try clear hi))))
                go_ret
                exact ⟨by first | rfl | (simp [errW_none, errW_some] <;> rfl) | (simp [*, errW_none, errW_some] <;> rfl), by repeat (first | (with_reducible first | exact HB.out | apply below_alloc | apply pw_below_drewN | apply below_drew1) | exact HB.out)⟩
              · rw [if_neg c34] at H
                have c34b0 : (t256 == 2) = false := beq_eq_false_iff_ne.mpr c34
                have c34b1 : (t256 != 2) = true := bne_iff_ne.mpr c34
                obtain rfl := Option.some.inj H
                go_wp2_with (first | (go_at_call 31; (with_reducible refine (numnahref03_Whole.calls kj11 a0 a1 60 t262 _ A31.out).mono ?_); rintro e w' ⟨rfl, ⟨nd, rfl⟩⟩; (try first | exact ⟨rfl, _, World.drewN_drewN _ _ _⟩ | exact ⟨rfl, _, Eq.trans (World.drewN_drewN _ _ _) (congrArg (World.drewN _) (Nat.add_assoc _ _ _))⟩); obtain ⟨Ao38, co38, eo38⟩ := Kd.R_slice HO_9.out; subst eo38))
                repeat (go_quiet (first | (go_at_call 31; (with_reducible refine (numnahref03_Whole.calls kj11 a0 a1 60 t262 _ A31.out).mono ?_); rintro e w' ⟨rfl, ⟨nd, rfl⟩⟩; (try first | exact ⟨rfl, _, World.drewN_drewN _ _ _⟩ | exact ⟨rfl, _, Eq.trans (World.drewN_drewN _ _ _) (congrArg (World.drewN _) (Nat.add_assoc _ _ _))⟩); obtain ⟨Ao38, co38, eo38⟩ := Kd.R_slice HO_9.out; subst eo38)); try go_wp2_with (first | (go_at_call 31; (with_reducible refine (numnahref03_Whole.calls kj11 a0 a1 60 t262 _ A31.out).mono ?_); rintro e w' ⟨rfl, ⟨nd, rfl⟩⟩; (try first | exact ⟨rfl, _, World.drewN_drewN _ _ _⟩ | exact ⟨rfl, _, Eq.trans (World.drewN_drewN _ _ _) (congrArg (World.drewN _) (Nat.add_assoc _ _ _))⟩); obtain ⟨Ao38, co38, eo38⟩ := Kd.R_slice HO_9.out; subst eo38)))
                go_ret
                exact ⟨by first | rfl | (simp [errW_none, errW_some] <;> rfl) | (simp [*, errW_none, errW_some] <;> rfl), by repeat (first | (with_reducible first | exact HB.out | apply below_alloc | apply pw_below_drewN | apply below_drew1) | exact HB.out)⟩
            · rw [if_neg c33] at H
              have c33b0 : ((t255.length : Int) == 0) = false := beq_eq_false_iff_ne.mpr c33
              have c33b1 : ((t255.length : Int) != 0) = true := bne_iff_ne.mpr c33
              have c33b2 : ¬ (t255 = []) := fun h_ => c33 (by rw [h_]; rfl)
              obtain rfl := Option.some.inj H
              go_wp2_with (first | (go_at_call 31; (with_reducible refine (numnahref03_Whole.calls kj11 a0 a1 60 t262 _ A31.out).mono ?_); rintro e w' ⟨rfl, ⟨nd, rfl⟩⟩; (try first | exact ⟨rfl, _, World.drewN_drewN _ _ _⟩ | exact ⟨rfl, _, Eq.trans (World.drewN_drewN _ _ _) (congrArg (World.drewN _) (Nat.add_assoc _ _ _))⟩); obtain ⟨Ao39, co39, eo39⟩ := Kd.R_slice HO_9.out; subst eo39))
              repeat (go_quiet (first | (go_at_call 31; (with_reducible refine (numnahref03_Whole.calls kj11 a0 a1 60 t262 _ A31.out).mono ?_); rintro e w' ⟨rfl, ⟨nd, rfl⟩⟩; (try first | exact ⟨rfl, _, World.drewN_drewN _ _ _⟩ | exact ⟨rfl, _, Eq.trans (World.drewN_drewN _ _ _) (congrArg (World.drewN _) (Nat.add_assoc _ _ _))⟩); obtain ⟨Ao39, co39, eo39⟩ := Kd.R_slice HO_9.out; subst eo39)); try go_wp2_with (first | (go_at_call 31; (with_reducible refine (numnahref03_Whole.calls kj11 a0 a1 60 t262 _ A31.out).mono ?_); rintro e w' ⟨rfl, ⟨nd, rfl⟩⟩; (try first | exact ⟨rfl, _, World.drewN_drewN _ _ _⟩ | exact ⟨rfl, _, Eq.trans (World.drewN_drewN _ _ _) (congrArg (World.drewN _) (Nat.add_assoc _ _ _))⟩); obtain ⟨Ao39, co39, eo39⟩ := Kd.R_slice HO_9.out; subst eo39)))
              go_ret
              exact ⟨by first | rfl | (simp [errW_none, errW_some] <;> rfl) | (simp [*, errW_none, errW_some] <;> rfl), by repeat (first | (with_reducible first | exact HB.out | apply below_alloc | apply pw_below_drewN | apply below_drew1) | exact HB.out)⟩
          · rw [if_neg c32] at H
            have c32b0 : (t262 == 0) = false := beq_eq_false_iff_ne.mpr c32
            have c32b1 : (t262 != 0) = true := bne_iff_ne.mpr c32
            have HC40 := Aside0.mk H
            clear H
            go_upto_region 17 with (first | (go_at_call 31; (with_reducible refine (numnahref03_Whole.calls kj11 a0 a1 60 t262 _ A31.out).mono ?_); rintro e w' ⟨rfl, ⟨nd, rfl⟩⟩; (try first | exact ⟨rfl, _, World.drewN_drewN _ _ _⟩ | exact ⟨rfl, _, Eq.trans (World.drewN_drewN _ _ _) (congrArg (World.drewN _) (Nat.add_assoc _ _ _))⟩)))
            repeat (go_quiet (first | (go_at_call 31; (with_reducible refine (numnahref03_Whole.calls kj11 a0 a1 60 t262 _ A31.out).mono ?_); rintro e w' ⟨rfl, ⟨nd, rfl⟩⟩; (try first | exact ⟨rfl, _, World.drewN_drewN _ _ _⟩ | exact ⟨rfl, _, Eq.trans (World.drewN_drewN _ _ _) (congrArg (World.drewN _) (Nat.add_assoc _ _ _))⟩))); go_upto_region 17 with (first | (go_at_call 31; (with_reducible refine (numnahref03_Whole.calls kj11 a0 a1 60 t262 _ A31.out).mono ?_); rintro e w' ⟨rfl, ⟨nd, rfl⟩⟩; (try first | exact ⟨rfl, _, World.drewN_drewN _ _ _⟩ | exact ⟨rfl, _, Eq.trans (World.drewN_drewN _ _ _) (congrArg (World.drewN _) (Nat.add_assoc _ _ _))⟩))))
            (try simp only [Act.put, List.setIfInBounds_toArray, List.set_cons_zero, List.set_cons_succ])
            go_cut [92] (fun v92 wc => ∃ (kq : Nat) (x92_39 : Bool), v92 = .bool x92_39 ∧ Aside0 (numnahlaw03_SpreadSeries.j4 kq a0 a1 t255 t262 x92_39 = some r) ∧ Aside0 (kq ≤ kj11) ∧ Aside0 (Kd.R k50 50 wc w.heap.size (fun _ => True) v257 t255) ∧ Aside0 (Below w.heap.size w wc))
            case first =>
              have H := HC40.out
              clear HC40
              by_cases c41 : (t255.length : Int) = t262
              · rw [if_pos c41] at H
                have c41b0 : ((t255.length : Int) == t262) = true := beq_iff_eq.mpr c41
                have c41b1 : ((t255.length : Int) != t262) = false := bne_eq_false_iff_eq.mpr c41
                clear c41
                (first | rw [c41b0] | (simp only [i64_w, i32_w]; rw [c41b0]) | skip)
                have H' := Aside0.mk H
                clear H
                obtain ⟨Ao42, co42, eo42⟩ := Kd.R_slice HO_9.out
                subst eo42
                go_wp2
                repeat (go_quiet (fail); try go_wp2)
                go_meet
                case rel => exact ⟨_, ((t256 != 0)), (by first | rfl | (simp; done) | (simp [*]; done)), H', ⟨by have := HJ6.out; have := HJ11.out; first | omega | exact Nat.le_refl _⟩, ⟨by (with_reducible repeat (first | apply Kd.R_alloc | apply Kd.R_drewN | apply Kd.R_drew)); exact HO_9.out⟩, ⟨by repeat (first | (with_reducible first | exact HB.out | apply below_alloc | apply pw_below_drewN | apply below_drew1) | exact HB.out)⟩⟩
              · rw [if_neg c41] at H
                have c41b0 : ((t255.length : Int) == t262) = false := beq_eq_false_iff_ne.mpr c41
                have c41b1 : ((t255.length : Int) != t262) = true := bne_iff_ne.mpr c41
                (first | rw [c41b0] | (simp only [i64_w, i32_w]; rw [c41b0]) | skip)
                have H' := Aside0.mk H
                clear H
                obtain ⟨Ao43, co43, eo43⟩ := Kd.R_slice HO_9.out
                subst eo43
                go_wp2
                repeat (go_quiet (fail); try go_wp2)
                go_meet
                case rel => exact ⟨_, (true), (by first | rfl | (simp; done) | (simp [*]; done)), H', ⟨by have := HJ6.out; have := HJ11.out; first | omega | exact Nat.le_refl _⟩, ⟨by (with_reducible repeat (first | apply Kd.R_alloc | apply Kd.R_drewN | apply Kd.R_drew)); exact HO_9.out⟩, ⟨by repeat (first | (with_reducible first | exact HB.out | apply below_alloc | apply pw_below_drewN | apply below_drew1) | exact HB.out)⟩⟩
            case rest =>
              clear HC40
              try clear c1
              try clear c2
              try clear p2
              try clear q2
              try clear hx2
              try clear c3
              try clear c4
              try clear c5
              try clear p6
              try clear c10
              try clear c10b0
              try clear c11
              try clear c11b0
              try clear c13
              try clear c14
              try clear c14b0
              try clear c14b1
              try clear c14b2
              try clear c15
              try clear c15b0
              try clear c15b1
              try clear c20
              try clear c20b0
              try clear c20b1
              try clear c23
              try clear c24
              try clear c24b0
              try clear c25
              try clear c25b0
              try clear c26
              try clear c26b0
              try clear p26
              try clear q26
              try clear hx26
              try clear c28
              try clear c28b0
              try clear c28b1
              try clear c32
              try clear c32b0
              try clear c32b1
              try clear c33
              try clear c33b0
              try clear c33b1
              try clear c33b2
              try clear c34
              try clear c34b0
              try clear c34b1
              try clear c41
              try clear c41b0
              try clear c41b1
              try clear hx260_0
              try clear p2
              try clear p26
              try clear p260
              try clear p6
              try clear q2
              try clear q26
              try clear q260
              obtain ⟨kq, x92_39, rfl, HA, HJ39, HO_9, HB⟩ := hcut
              cases kq with
              | zero => exact absurd HA.out (by simp [numnahlaw03_SpreadSeries.j4])
              | succ kj39 =>
                have H := HA.out
                clear HA
                simp only [numnahlaw03_SpreadSeries.j4] at H
                by_cases c44 : x92_39 = true
                · subst c44
                  have H1 : (some false) = some r := by rw [if_pos rfl] at H; exact H
                  clear H
                  have H := H1
                  clear H1
                  obtain rfl := Option.some.inj H
                  go_wp2
                  repeat (go_quiet (fail); try go_wp2)
                  go_ret
                  exact ⟨by first | rfl | (simp [errW_none, errW_some] <;> rfl) | (simp [*, errW_none, errW_some] <;> rfl), by repeat (first | (with_reducible first | exact HB.out | apply below_alloc | apply pw_below_drewN | apply below_drew1) | exact HB.out)⟩
                · replace c44 := Bool.eq_false_iff.mpr c44
                  subst c44
                  have H1 : (numnahlaw03_SpreadSeries.l1 kj39 a0 a1 t255 t262 0) = some r := by rw [if_neg (show ¬ (false = true) by decide)] at H; exact H
                  clear H
                  have H := H1
                  clear H1
                  have H' := Aside0.mk H
                  clear H
                  go_wp2
                  repeat (go_quiet (fail); try go_wp2)
                  go_loopg [13] kj39 (fun kq v13 w' => ∃ (x13_4 : Int), v13 = .int .i64 x13_4 ∧ Aside0 (numnahlaw03_SpreadSeries.l1 kq a0 a1 t255 t262 x13_4 = some r) ∧ Aside0 (kq ≤ kj39) ∧ Aside0 (Kd.R k50 50 w' w.heap.size (fun _ => True) v257 t255) ∧ Aside0 (Below w.heap.size w w'))
                  case atStart => exact ⟨(0), (by first | rfl | (simp; done) | (simp [*]; done)), H', ⟨Nat.le_refl _⟩, ⟨by (with_reducible repeat (first | apply Kd.R_alloc | apply Kd.R_drewN | apply Kd.R_drew)); exact HO_9.out⟩, ⟨by repeat (first | (with_reducible first | exact HB.out | apply below_alloc | apply pw_below_drewN | apply below_drew1) | exact HB.out)⟩⟩
                  case round =>
                    clear H'
                    try clear c1
                    try clear c2
                    try clear p2
                    try clear q2
                    try clear hx2
                    try clear c3
                    try clear c4
                    try clear c5
                    try clear p6
                    try clear c10
                    try clear c10b0
                    try clear c11
                    try clear c11b0
                    try clear c13
                    try clear c14
                    try clear c14b0
                    try clear c14b1
                    try clear c14b2
                    try clear c15
                    try clear c15b0
                    try clear c15b1
                    try clear c20
                    try clear c20b0
                    try clear c20b1
                    try clear c23
                    try clear c24
                    try clear c24b0
                    try clear c25
                    try clear c25b0
                    try clear c26
                    try clear c26b0
                    try clear p26
                    try clear q26
                    try clear hx26
                    try clear c28
                    try clear c28b0
                    try clear c28b1
                    try clear c32
                    try clear c32b0
                    try clear c32b1
                    try clear c33
                    try clear c33b0
                    try clear c33b1
                    try clear c33b2
                    try clear c34
                    try clear c34b0
                    try clear c34b1
                    try clear c41
                    try clear c41b0
                    try clear c41b1
                    try clear c44
                    try clear hx260_0
                    try clear p2
                    try clear p26
                    try clear p260
                    try clear p6
                    try clear q2
                    try clear q26
                    try clear q260
                    obtain ⟨x13_4, rfl, HA, HK4, HO_9, HB⟩ := hrel
                    cases gk with
                    | zero => exact absurd HA.out (by simp [numnahlaw03_SpreadSeries.l1])
                    | succ k4 =>
                      have H := HA.out
                      clear HA
                      simp only [numnahlaw03_SpreadSeries.l1] at H
                      by_cases c45 : x13_4 < t262
                      · rw [if_pos c45] at H
                        have c45b0 : decide (x13_4 < t262) = true := decide_eq_true c45
                        clear c45
                        by_cases c46 : 0 ≤ x13_4
                        · rw [if_pos c46] at H
                          have c46b0 : decide (0 ≤ x13_4) = true := decide_eq_true c46
                          clear c46
                          by_cases c47 : x13_4 < (t255.length : Int)
                          · rw [if_pos c47] at H
                            have c47b0 : decide (x13_4 < (t255.length : Int)) = true := decide_eq_true c47
                            clear c47
                            by_cases c48 : ((rd_T50 t255 x13_4).f0) = x13_4
                            · rw [if_pos c48] at H
                              have c48b0 : (((rd_T50 t255 x13_4).f0) == x13_4) = true := beq_iff_eq.mpr c48
                              have c48b1 : (((rd_T50 t255 x13_4).f0) != x13_4) = false := bne_eq_false_iff_eq.mpr c48
                              clear c48
                              replace H := Option.bind_eq_some_iff.mp H
                              obtain ⟨t266, A490, H⟩ := H
                              replace H : (if ((rd_T50 t255 x13_4).f1) = t266 then (numnahlaw03_SpreadSeries.l1 k4 a0 a1 t255 t262 (wrap64 (x13_4 + 1))) else (some false)) = some r := H
                              have A49 := Aside0.mk A490
                              clear A490
                              by_cases c50 : ((rd_T50 t255 x13_4).f1) = t266
                              · rw [if_pos c50] at H
                                have c50b0 : (((rd_T50 t255 x13_4).f1) == t266) = true := beq_iff_eq.mpr c50
                                have c50b1 : (((rd_T50 t255 x13_4).f1) != t266) = false := bne_eq_false_iff_eq.mpr c50
                                clear c50
                                have H' := Aside0.mk H
                                clear H
                                obtain ⟨Ao51, co51, eo51⟩ := Kd.R_slice HO_9.out
                                subst eo51
                                have p264 : 0 ≤ (x13_4 : Int) := of_decide_eq_true (by first | (with_reducible assumption) | assumption)
                                have q264 : x13_4 < (t255.length : Int) := of_decide_eq_true (by first | (with_reducible assumption) | assumption)
                                obtain ⟨ad264, e264, hx264_0, hx264_1⟩ := at_T50 (Kd.R_reads' HO_9.out).2.2 x13_4 p264 q264
                                cases e264
                                replace p264 := eq_true p264
                                replace q264 := eq_true q264
                                have p265 : 0 ≤ (x13_4 : Int) := of_decide_eq_true (by first | (with_reducible assumption) | assumption)
                                have q265 : x13_4 < (t255.length : Int) := of_decide_eq_true (by first | (with_reducible assumption) | assumption)
                                obtain ⟨ad265, e265, hx265_0, hx265_1⟩ := at_T50 (Kd.R_reads' HO_9.out).2.2 x13_4 p265 q265
                                obtain rfl : ad264 = ad265 := (by injection e265)
                                replace p265 := eq_true p265
                                replace q265 := eq_true q265
                                go_wp2_with (first | (go_at_call 32; (with_reducible refine (numnahref03_Turned.calls k4 a0 a1 x13_4 t266 _ A49.out).mono ?_); rintro e w' ⟨rfl, ⟨nd, rfl⟩⟩; (try first | exact ⟨rfl, _, World.drewN_drewN _ _ _⟩ | exact ⟨rfl, _, Eq.trans (World.drewN_drewN _ _ _) (congrArg (World.drewN _) (Nat.add_assoc _ _ _))⟩)))
                                repeat (go_quiet (first | (go_at_call 32; (with_reducible refine (numnahref03_Turned.calls k4 a0 a1 x13_4 t266 _ A49.out).mono ?_); rintro e w' ⟨rfl, ⟨nd, rfl⟩⟩; (try first | exact ⟨rfl, _, World.drewN_drewN _ _ _⟩ | exact ⟨rfl, _, Eq.trans (World.drewN_drewN _ _ _) (congrArg (World.drewN _) (Nat.add_assoc _ _ _))⟩))); try go_wp2_with (first | (go_at_call 32; (with_reducible refine (numnahref03_Turned.calls k4 a0 a1 x13_4 t266 _ A49.out).mono ?_); rintro e w' ⟨rfl, ⟨nd, rfl⟩⟩; (try first | exact ⟨rfl, _, World.drewN_drewN _ _ _⟩ | exact ⟨rfl, _, Eq.trans (World.drewN_drewN _ _ _) (congrArg (World.drewN _) (Nat.add_assoc _ _ _))⟩))))
                                go_roundg k4
                                case measure => have := HJ6.out; have := HJ11.out; have := HJ39.out; have := HK4.out; omega
                                case rel => exact ⟨(wrap64 (x13_4 + 1)), (by first | rfl | (simp; done) | (simp [*]; done)), H', ⟨by have := HJ6.out; have := HJ11.out; have := HJ39.out; have := HK4.out; omega⟩, ⟨by (with_reducible repeat (first | apply Kd.R_alloc | apply Kd.R_drewN | apply Kd.R_drew)); exact HO_9.out⟩, ⟨by repeat (first | (with_reducible first | exact HB.out | apply below_alloc | apply pw_below_drewN | apply below_drew1) | exact HB.out)⟩⟩
                              · rw [if_neg c50] at H
                                have c50b0 : (((rd_T50 t255 x13_4).f1) == t266) = false := beq_eq_false_iff_ne.mpr c50
                                have c50b1 : (((rd_T50 t255 x13_4).f1) != t266) = true := bne_iff_ne.mpr c50
                                obtain rfl := Option.some.inj H
                                obtain ⟨Ao52, co52, eo52⟩ := Kd.R_slice HO_9.out
                                subst eo52
                                have p264 : 0 ≤ (x13_4 : Int) := of_decide_eq_true (by first | (with_reducible assumption) | assumption)
                                have q264 : x13_4 < (t255.length : Int) := of_decide_eq_true (by first | (with_reducible assumption) | assumption)
                                obtain ⟨ad264, e264, hx264_0, hx264_1⟩ := at_T50 (Kd.R_reads' HO_9.out).2.2 x13_4 p264 q264
                                cases e264
                                replace p264 := eq_true p264
                                replace q264 := eq_true q264
                                have p265 : 0 ≤ (x13_4 : Int) := of_decide_eq_true (by first | (with_reducible assumption) | assumption)
                                have q265 : x13_4 < (t255.length : Int) := of_decide_eq_true (by first | (with_reducible assumption) | assumption)
                                obtain ⟨ad265, e265, hx265_0, hx265_1⟩ := at_T50 (Kd.R_reads' HO_9.out).2.2 x13_4 p265 q265
                                obtain rfl : ad264 = ad265 := (by injection e265)
                                replace p265 := eq_true p265
                                replace q265 := eq_true q265
                                go_wp2_with (first | (go_at_call 32; (with_reducible refine (numnahref03_Turned.calls k4 a0 a1 x13_4 t266 _ A49.out).mono ?_); rintro e w' ⟨rfl, ⟨nd, rfl⟩⟩; (try first | exact ⟨rfl, _, World.drewN_drewN _ _ _⟩ | exact ⟨rfl, _, Eq.trans (World.drewN_drewN _ _ _) (congrArg (World.drewN _) (Nat.add_assoc _ _ _))⟩)))
                                repeat (go_quiet (first | (go_at_call 32; (with_reducible refine (numnahref03_Turned.calls k4 a0 a1 x13_4 t266 _ A49.out).mono ?_); rintro e w' ⟨rfl, ⟨nd, rfl⟩⟩; (try first | exact ⟨rfl, _, World.drewN_drewN _ _ _⟩ | exact ⟨rfl, _, Eq.trans (World.drewN_drewN _ _ _) (congrArg (World.drewN _) (Nat.add_assoc _ _ _))⟩))); try go_wp2_with (first | (go_at_call 32; (with_reducible refine (numnahref03_Turned.calls k4 a0 a1 x13_4 t266 _ A49.out).mono ?_); rintro e w' ⟨rfl, ⟨nd, rfl⟩⟩; (try first | exact ⟨rfl, _, World.drewN_drewN _ _ _⟩ | exact ⟨rfl, _, Eq.trans (World.drewN_drewN _ _ _) (congrArg (World.drewN _) (Nat.add_assoc _ _ _))⟩))))
                                go_ret
                                exact ⟨by first | rfl | (simp [errW_none, errW_some] <;> rfl) | (simp [*, errW_none, errW_some] <;> rfl), by repeat (first | (with_reducible first | exact HB.out | apply below_alloc | apply pw_below_drewN | apply below_drew1) | exact HB.out)⟩
                            · rw [if_neg c48] at H
                              have c48b0 : (((rd_T50 t255 x13_4).f0) == x13_4) = false := beq_eq_false_iff_ne.mpr c48
                              have c48b1 : (((rd_T50 t255 x13_4).f0) != x13_4) = true := bne_iff_ne.mpr c48
                              obtain rfl := Option.some.inj H
                              obtain ⟨Ao53, co53, eo53⟩ := Kd.R_slice HO_9.out
                              subst eo53
                              have p264 : 0 ≤ (x13_4 : Int) := of_decide_eq_true (by first | (with_reducible assumption) | assumption)
                              have q264 : x13_4 < (t255.length : Int) := of_decide_eq_true (by first | (with_reducible assumption) | assumption)
                              obtain ⟨ad264, e264, hx264_0, hx264_1⟩ := at_T50 (Kd.R_reads' HO_9.out).2.2 x13_4 p264 q264
                              cases e264
                              replace p264 := eq_true p264
                              replace q264 := eq_true q264
                              go_wp2
                              repeat (go_quiet (fail); try go_wp2)
                              go_ret
                              exact ⟨by first | rfl | (simp [errW_none, errW_some] <;> rfl) | (simp [*, errW_none, errW_some] <;> rfl), by repeat (first | (with_reducible first | exact HB.out | apply below_alloc | apply pw_below_drewN | apply below_drew1) | exact HB.out)⟩
                          · rw [if_neg c47] at H
                            exact absurd H (by simp)
                        · rw [if_neg c46] at H
                          exact absurd H (by simp)
                      · rw [if_neg c45] at H
                        have c45b0 : decide (x13_4 < t262) = false := decide_eq_false c45
                        clear c45
                        replace H := Option.bind_eq_some_iff.mp H
                        obtain ⟨t267, A540, H⟩ := H
                        replace H : (some t267) = some r := H
                        have A54 := Aside0.mk A540
                        clear A540
                        obtain rfl := Option.some.inj H
                        go_wp2_with (first | (go_at_call 22; (with_reducible refine (numnahlaw03_awake.calls k4  t267 _ A54.out).mono ?_); rintro e w55 ⟨rfl, hb⟩; have n0_ := Aside0.mk (Kd.R_below (by (with_reducible repeat (first | apply Kd.R_alloc | apply Kd.R_drewN | apply Kd.R_drew)); exact HO_9.out) hb); have n1_ := Aside0.mk (below_step (by repeat (first | (with_reducible first | exact HB.out | apply below_alloc | apply pw_below_drewN | apply below_drew1) | exact HB.out)) hb); clear HO_9; clear HB; have HO_9 := n0_; have HB := n1_; clear n0_ n1_; (try clear hb); (try clear hb2); (try clear hk); (try clear hi)))
                        repeat (go_quiet (first | (go_at_call 22; (with_reducible refine (numnahlaw03_awake.calls k4  t267 _ A54.out).mono ?_); rintro e w55 ⟨rfl, hb⟩; have n0_ := Aside0.mk (Kd.R_below (by (with_reducible repeat (first | apply Kd.R_alloc | apply Kd.R_drewN | apply Kd.R_drew)); exact HO_9.out) hb); have n1_ := Aside0.mk (below_step (by repeat (first | (with_reducible first | exact HB.out | apply below_alloc | apply pw_below_drewN | apply below_drew1) | exact HB.out)) hb); clear HO_9; clear HB; have HO_9 := n0_; have HB := n1_; clear n0_ n1_; (try clear hb); (try clear hb2); (try clear hk); (try clear hi))); try go_wp2_with (first | (go_at_call 22; (with_reducible refine (numnahlaw03_awake.calls k4  t267 _ A54.out).mono ?_); rintro e w55 ⟨rfl, hb⟩; have n0_ := Aside0.mk (Kd.R_below (by (with_reducible repeat (first | apply Kd.R_alloc | apply Kd.R_drewN | apply Kd.R_drew)); exact HO_9.out) hb); have n1_ := Aside0.mk (below_step (by repeat (first | (with_reducible first | exact HB.out | apply below_alloc | apply pw_below_drewN | apply below_drew1) | exact HB.out)) hb); clear HO_9; clear HB; have HO_9 := n0_; have HB := n1_; clear n0_ n1_; (try clear hb); (try clear hb2); (try clear hk); (try clear hi))))
                        go_ret
                        exact ⟨by first | rfl | (simp [errW_none, errW_some] <;> rfl) | (simp [*, errW_none, errW_some] <;> rfl), by repeat (first | (with_reducible first | exact HB.out | apply below_alloc | apply pw_below_drewN | apply below_drew1) | exact HB.out)⟩

/-- THE ONE PURE STATEMENT of numnahlaw03_SpreadSeries: yours. -/
def numnahlaw03_SpreadSeries.Pure : Prop := ∀ (a0 : Int) (a1 : Int) (a2 : Int), (Lit.int .i64 a0).wf = true → (Lit.int .i64 a1).wf = true → (Lit.int .i64 a2).wf = true → ∃ k, numnahlaw03_SpreadSeries.f k a0 a1 a2 = some true
theorem numnahlaw03_SpreadSeries.walk (P : numnahlaw03_SpreadSeries.Pure) (a0 : Int) (a1 : Int) (a2 : Int) (w : World) (w0 : (Lit.int .i64 a0).wf = true) (w1 : (Lit.int .i64 a1).wf = true) (w2 : (Lit.int .i64 a2).wf = true) :
    Calls Try.prog 5 #[.int .i64 a0, .int .i64 a1, .int .i64 a2] w fun e w' => e = .returned (.bool true) ∧ Below w.heap.size w w' := by
  obtain ⟨k, h⟩ := P a0 a1 a2 w0 w1 w2
  refine (numnahlaw03_SpreadSeries.calls k a0 a1 a2 true w h).mono ?_
  rintro e w' ⟨rfl, hd⟩
  exact ⟨rfl, hd⟩

end Go.Proofs.Ythngclneffngbaa.Pr
