-- Laid by wip/tools/inj.py of this project, which drives the kit's printer. Lean checks it.
import Derived.Test.YthngclneffngbaaPr0
import Derived.Test.YthngclneffngbaaHAdd
import Derived.Test.YthngclneffngbaaPrA1
import Derived.Test.YthngclneffngbaaPrA5
import Derived.Test.YthngclneffngbaaPrB1
import Derived.Test.YthngclneffngbaaPrEq1
namespace Go.Proofs.Ythngclneffngbaa.Pr
open Go.RowKit Go.Proofs.YthngclneffngbaaW.PrintWords Go.Proofs.YthngclneffngbaaW.PrintLast Go.Proofs.YthngclneffngbaaW.PrintMore
attribute [local go_sem] max2_int min2_int max_two min_two max_three min_three max_four min_four   -- for this text's walks alone
set_option linter.unusedVariables false
set_option linter.unusedSimpArgs false

attribute [local go_sem high] eqA26
/-! ### numnahlaw03_SpreadBests: function 6 -/
mutual
def numnahlaw03_SpreadBests.j0 : Nat → Int → List Int → Int → Int → Bool → Int → Int → Int → Int → Int → Int → Int → Int → Option (Bool)
  | 0, _, _, _, _, _, _, _, _, _, _, _, _, _ => none
  | k + 1, x0, x8, x9, x11, x32, x284000, x284001, x285000, x285001, x292000, x292001, x296000, x296001 => if x32 = true then (if (!(x296000 == 0) || (!(x296001 == 0))) = true then (some false) else (if x11 = 2 then (numnahlaw03_SpreadBests.j1 k x0 x8 x9 x292000 x292001) else (some false))) else ((numnahref03_Add.f k x284000 x284001 x285000 x285001).bind fun bt298 => (if (!(x296000 == bt298.1) || (!(x296001 == bt298.2))) = true then (some false) else (if x11 = 0 then (numnahlaw03_SpreadBests.j1 k x0 x8 x9 x292000 x292001) else (some false))))
def numnahlaw03_SpreadBests.j1 : Nat → Int → List Int → Int → Int → Int → Option (Bool)
  | 0, _, _, _, _, _ => none
  | k + 1, x0, x8, x9, x292000, x292001 => if x0 < 1 then (numnahlaw03_SpreadBests.j2 k x0 x8 x9 true x292000 x292001) else (numnahlaw03_SpreadBests.j2 k x0 x8 x9 (decide (x0 > 60)) x292000 x292001)
def numnahlaw03_SpreadBests.j2 : Nat → Int → List Int → Int → Bool → Int → Int → Option (Bool)
  | 0, _, _, _, _, _, _ => none
  | k + 1, x0, x8, x9, x54, x292000, x292001 => if x54 = true then (if (x292000 == 0 && (x292001 == 0)) = true then (if (x8.length : Int) = 0 then (if x9 = 2 then ((numnahlaw03_awake.f k).bind fun t300 => (some t300)) else (some false)) else (some false)) else (some false)) else (if (!(x292000 == 1) || (!(x292001 == (wrap64 (2 * x0))))) = true then (numnahlaw03_SpreadBests.j3 k x0 x8 true) else (if (x8.length : Int) = x0 then (numnahlaw03_SpreadBests.j3 k x0 x8 (x9 != 0)) else (numnahlaw03_SpreadBests.j3 k x0 x8 true)))
def numnahlaw03_SpreadBests.j3 : Nat → Int → List Int → Bool → Option (Bool)
  | 0, _, _, _ => none
  | k + 1, x0, x8, x84 => if x84 = true then (some false) else (numnahlaw03_SpreadBests.l0 k x0 x8 0)
def numnahlaw03_SpreadBests.l0 : Nat → Int → List Int → Int → Option (Bool)
  | 0, _, _, _ => none
  | k + 1, x0, x8, x12 => if x12 < x0 then (if 0 ≤ x12 then (if x12 < (x8.length : Int) then (if (rd x8 x12) = (wrap64 ((wrap64 (2 * x12)) + 1)) then (numnahlaw03_SpreadBests.l0 k x0 x8 (wrap64 (x12 + 1))) else (some false)) else (none)) else (none)) else ((numnahlaw03_awake.f k).bind fun t302 => (some t302))
end
def numnahlaw03_SpreadBests.f (k : Nat) (a0 : Int) (a1_0 : Int) (a1_1 : Int) (a2_0 : Int) (a2_1 : Int) : Option (Bool) := (spread_Best.f k a0).bind fun bt285 => ((spread_Add.f a1_0 a1_1 a2_0 a2_1).bind fun bt292 => ((numnahref03_Small.f k a1_0 a1_1).bind fun t296 => (if t296 = true then ((numnahref03_Small.f k a2_0 a2_1).bind fun t297 => (numnahlaw03_SpreadBests.j0 k a0 bt285.2.2.1 bt285.2.2.2 bt292.2.2 (!t297) a1_0 a1_1 a2_0 a2_1 bt285.1 bt285.2.1 bt292.1 bt292.2.1)) else (numnahlaw03_SpreadBests.j0 k a0 bt285.2.2.1 bt285.2.2.2 bt292.2.2 true a1_0 a1_1 a2_0 a2_1 bt285.1 bt285.2.1 bt292.1 bt292.2.1))))
theorem numnahlaw03_SpreadBests.mono_l : ∀ k, (∀ y0 y1 y2 y3 y4 y5 y6 y7 y8 y9 y10 y11 y12, LeO (numnahlaw03_SpreadBests.j0 k y0 y1 y2 y3 y4 y5 y6 y7 y8 y9 y10 y11 y12) (numnahlaw03_SpreadBests.j0 (k + 1) y0 y1 y2 y3 y4 y5 y6 y7 y8 y9 y10 y11 y12)) ∧ (∀ y0 y1 y2 y3 y4, LeO (numnahlaw03_SpreadBests.j1 k y0 y1 y2 y3 y4) (numnahlaw03_SpreadBests.j1 (k + 1) y0 y1 y2 y3 y4)) ∧ (∀ y0 y1 y2 y3 y4 y5, LeO (numnahlaw03_SpreadBests.j2 k y0 y1 y2 y3 y4 y5) (numnahlaw03_SpreadBests.j2 (k + 1) y0 y1 y2 y3 y4 y5)) ∧ (∀ y0 y1 y2, LeO (numnahlaw03_SpreadBests.j3 k y0 y1 y2) (numnahlaw03_SpreadBests.j3 (k + 1) y0 y1 y2)) ∧ (∀ y0 y1 y2, LeO (numnahlaw03_SpreadBests.l0 k y0 y1 y2) (numnahlaw03_SpreadBests.l0 (k + 1) y0 y1 y2))
  | 0 => ⟨fun _ _ _ _ _ _ _ _ _ _ _ _ _ r h => by simp [numnahlaw03_SpreadBests.j0] at h, fun _ _ _ _ _ r h => by simp [numnahlaw03_SpreadBests.j1] at h, fun _ _ _ _ _ _ r h => by simp [numnahlaw03_SpreadBests.j2] at h, fun _ _ _ r h => by simp [numnahlaw03_SpreadBests.j3] at h, fun _ _ _ r h => by simp [numnahlaw03_SpreadBests.l0] at h⟩
  | k + 1 => by
    obtain ⟨ih0, ih1, ih2, ih3, ih4⟩ := numnahlaw03_SpreadBests.mono_l k
    refine ⟨?_, ?_, ?_, ?_, ?_⟩
    · intro y0 y1 y2 y3 y4 y5 y6 y7 y8 y9 y10 y11 y12
      unfold numnahlaw03_SpreadBests.j0
      repeat' first
      | (with_reducible exact ih0 _ _ _ _ _ _ _ _ _ _ _ _ _)
      | (with_reducible exact ih1 _ _ _ _ _)
      | (with_reducible exact ih2 _ _ _ _ _ _)
      | (with_reducible exact ih3 _ _ _)
      | (with_reducible exact ih4 _ _ _)
      | (with_reducible exact numnahlaw03_awake.mono _)
      | (with_reducible exact numnahref03_Add.mono _ _ _ _ _)
      | (with_reducible exact numnahref03_Small.mono _ _ _)
      | (with_reducible exact spread_Best.mono _ _)
      | (with_reducible exact LeO.refl _)
      | (with_reducible exact LeO.none _)
      | (with_reducible refine LeO.ite ?_ ?_)
      | (with_reducible refine LeO.bind ?_ (fun _ => ?_))
      | exact ih0 _ _ _ _ _ _ _ _ _ _ _ _ _
      | exact ih1 _ _ _ _ _
      | exact ih2 _ _ _ _ _ _
      | exact ih3 _ _ _
      | exact ih4 _ _ _
      | exact numnahlaw03_awake.mono _
      | exact numnahref03_Add.mono _ _ _ _ _
      | exact numnahref03_Small.mono _ _ _
      | exact spread_Best.mono _ _
      | exact LeO.none _
      | refine LeO.ite ?_ ?_
      | refine LeO.bind ?_ (fun _ => ?_)
    · intro y0 y1 y2 y3 y4
      unfold numnahlaw03_SpreadBests.j1
      repeat' first
      | (with_reducible exact ih0 _ _ _ _ _ _ _ _ _ _ _ _ _)
      | (with_reducible exact ih1 _ _ _ _ _)
      | (with_reducible exact ih2 _ _ _ _ _ _)
      | (with_reducible exact ih3 _ _ _)
      | (with_reducible exact ih4 _ _ _)
      | (with_reducible exact numnahlaw03_awake.mono _)
      | (with_reducible exact numnahref03_Add.mono _ _ _ _ _)
      | (with_reducible exact numnahref03_Small.mono _ _ _)
      | (with_reducible exact spread_Best.mono _ _)
      | (with_reducible exact LeO.refl _)
      | (with_reducible exact LeO.none _)
      | (with_reducible refine LeO.ite ?_ ?_)
      | (with_reducible refine LeO.bind ?_ (fun _ => ?_))
      | exact ih0 _ _ _ _ _ _ _ _ _ _ _ _ _
      | exact ih1 _ _ _ _ _
      | exact ih2 _ _ _ _ _ _
      | exact ih3 _ _ _
      | exact ih4 _ _ _
      | exact numnahlaw03_awake.mono _
      | exact numnahref03_Add.mono _ _ _ _ _
      | exact numnahref03_Small.mono _ _ _
      | exact spread_Best.mono _ _
      | exact LeO.none _
      | refine LeO.ite ?_ ?_
      | refine LeO.bind ?_ (fun _ => ?_)
    · intro y0 y1 y2 y3 y4 y5
      unfold numnahlaw03_SpreadBests.j2
      repeat' first
      | (with_reducible exact ih0 _ _ _ _ _ _ _ _ _ _ _ _ _)
      | (with_reducible exact ih1 _ _ _ _ _)
      | (with_reducible exact ih2 _ _ _ _ _ _)
      | (with_reducible exact ih3 _ _ _)
      | (with_reducible exact ih4 _ _ _)
      | (with_reducible exact numnahlaw03_awake.mono _)
      | (with_reducible exact numnahref03_Add.mono _ _ _ _ _)
      | (with_reducible exact numnahref03_Small.mono _ _ _)
      | (with_reducible exact spread_Best.mono _ _)
      | (with_reducible exact LeO.refl _)
      | (with_reducible exact LeO.none _)
      | (with_reducible refine LeO.ite ?_ ?_)
      | (with_reducible refine LeO.bind ?_ (fun _ => ?_))
      | exact ih0 _ _ _ _ _ _ _ _ _ _ _ _ _
      | exact ih1 _ _ _ _ _
      | exact ih2 _ _ _ _ _ _
      | exact ih3 _ _ _
      | exact ih4 _ _ _
      | exact numnahlaw03_awake.mono _
      | exact numnahref03_Add.mono _ _ _ _ _
      | exact numnahref03_Small.mono _ _ _
      | exact spread_Best.mono _ _
      | exact LeO.none _
      | refine LeO.ite ?_ ?_
      | refine LeO.bind ?_ (fun _ => ?_)
    · intro y0 y1 y2
      unfold numnahlaw03_SpreadBests.j3
      repeat' first
      | (with_reducible exact ih0 _ _ _ _ _ _ _ _ _ _ _ _ _)
      | (with_reducible exact ih1 _ _ _ _ _)
      | (with_reducible exact ih2 _ _ _ _ _ _)
      | (with_reducible exact ih3 _ _ _)
      | (with_reducible exact ih4 _ _ _)
      | (with_reducible exact numnahlaw03_awake.mono _)
      | (with_reducible exact numnahref03_Add.mono _ _ _ _ _)
      | (with_reducible exact numnahref03_Small.mono _ _ _)
      | (with_reducible exact spread_Best.mono _ _)
      | (with_reducible exact LeO.refl _)
      | (with_reducible exact LeO.none _)
      | (with_reducible refine LeO.ite ?_ ?_)
      | (with_reducible refine LeO.bind ?_ (fun _ => ?_))
      | exact ih0 _ _ _ _ _ _ _ _ _ _ _ _ _
      | exact ih1 _ _ _ _ _
      | exact ih2 _ _ _ _ _ _
      | exact ih3 _ _ _
      | exact ih4 _ _ _
      | exact numnahlaw03_awake.mono _
      | exact numnahref03_Add.mono _ _ _ _ _
      | exact numnahref03_Small.mono _ _ _
      | exact spread_Best.mono _ _
      | exact LeO.none _
      | refine LeO.ite ?_ ?_
      | refine LeO.bind ?_ (fun _ => ?_)
    · intro y0 y1 y2
      unfold numnahlaw03_SpreadBests.l0
      repeat' first
      | (with_reducible exact ih0 _ _ _ _ _ _ _ _ _ _ _ _ _)
      | (with_reducible exact ih1 _ _ _ _ _)
      | (with_reducible exact ih2 _ _ _ _ _ _)
      | (with_reducible exact ih3 _ _ _)
      | (with_reducible exact ih4 _ _ _)
      | (with_reducible exact numnahlaw03_awake.mono _)
      | (with_reducible exact numnahref03_Add.mono _ _ _ _ _)
      | (with_reducible exact numnahref03_Small.mono _ _ _)
      | (with_reducible exact spread_Best.mono _ _)
      | (with_reducible exact LeO.refl _)
      | (with_reducible exact LeO.none _)
      | (with_reducible refine LeO.ite ?_ ?_)
      | (with_reducible refine LeO.bind ?_ (fun _ => ?_))
      | exact ih0 _ _ _ _ _ _ _ _ _ _ _ _ _
      | exact ih1 _ _ _ _ _
      | exact ih2 _ _ _ _ _ _
      | exact ih3 _ _ _
      | exact ih4 _ _ _
      | exact numnahlaw03_awake.mono _
      | exact numnahref03_Add.mono _ _ _ _ _
      | exact numnahref03_Small.mono _ _ _
      | exact spread_Best.mono _ _
      | exact LeO.none _
      | refine LeO.ite ?_ ?_
      | refine LeO.bind ?_ (fun _ => ?_)
theorem numnahlaw03_SpreadBests.mono : ∀ a0 a1 a2 a3 a4 k, LeO (numnahlaw03_SpreadBests.f k a0 a1 a2 a3 a4) (numnahlaw03_SpreadBests.f (k + 1) a0 a1 a2 a3 a4) := by
  intro a0 a1 a2 a3 a4 k
  obtain ⟨ih0, ih1, ih2, ih3, ih4⟩ := numnahlaw03_SpreadBests.mono_l k
  unfold numnahlaw03_SpreadBests.f
  repeat' first
      | (with_reducible exact ih0 _ _ _ _ _ _ _ _ _ _ _ _ _)
      | (with_reducible exact ih1 _ _ _ _ _)
      | (with_reducible exact ih2 _ _ _ _ _ _)
      | (with_reducible exact ih3 _ _ _)
      | (with_reducible exact ih4 _ _ _)
      | (with_reducible exact numnahlaw03_awake.mono _)
      | (with_reducible exact numnahref03_Add.mono _ _ _ _ _)
      | (with_reducible exact numnahref03_Small.mono _ _ _)
      | (with_reducible exact spread_Best.mono _ _)
      | (with_reducible exact LeO.refl _)
      | (with_reducible exact LeO.none _)
      | (with_reducible refine LeO.ite ?_ ?_)
      | (with_reducible refine LeO.bind ?_ (fun _ => ?_))
      | exact ih0 _ _ _ _ _ _ _ _ _ _ _ _ _
      | exact ih1 _ _ _ _ _
      | exact ih2 _ _ _ _ _ _
      | exact ih3 _ _ _
      | exact ih4 _ _ _
      | exact numnahlaw03_awake.mono _
      | exact numnahref03_Add.mono _ _ _ _ _
      | exact numnahref03_Small.mono _ _ _
      | exact spread_Best.mono _ _
      | exact LeO.none _
      | refine LeO.ite ?_ ?_
      | refine LeO.bind ?_ (fun _ => ?_)
def numnahlaw03_SpreadBests.T6 : Bool × List (List Nat × List Nat) := (true, [([], []), ([], []), ([], []), ([1, 2], [1, 2]), ([0, 3], [0, 3]), ([4, 3], [4]), ([5], [5]), ([6, 5], [5, 6]), ([5, 7], [5, 7])])
def numnahlaw03_SpreadBests.B6 : List Nat := [0, 0, 0, 6, 15, 31, 63, 127, 255]
theorem numnahlaw03_SpreadBests.tab6 : rtab .any (opsOf Try.f6 6) = numnahlaw03_SpreadBests.T6 := by kernel_rfl
theorem numnahlaw03_SpreadBests.bits6 : waitsOk numnahlaw03_SpreadBests.T6.2 numnahlaw03_SpreadBests.B6 = true := by kernel_rfl
set_option maxHeartbeats 8000000 in
set_option maxRecDepth 100000 in
theorem numnahlaw03_SpreadBests.calls (k : Nat) (a0 : Int) (a1_0 : Int) (a1_1 : Int) (a2_0 : Int) (a2_1 : Int) (r : Bool) (w : World) (h : numnahlaw03_SpreadBests.f k a0 a1_0 a1_1 a2_0 a2_1 = some r) :
    Calls Try.prog 6 #[.int .i64 a0, .agg #[.int .i64 a1_0, .int .i64 a1_1], .agg #[.int .i64 a2_0, .int .i64 a2_1]] w fun e w' => e = .returned (.bool r) ∧ Below w.heap.size w w' := by
  have hu26 := Try.underlying26
  have HB := Aside0.mk (Below.refl w.heap.size w)
  have H : ((spread_Best.f k a0).bind fun bt285 => ((spread_Add.f a1_0 a1_1 a2_0 a2_1).bind fun bt292 => ((numnahref03_Small.f k a1_0 a1_1).bind fun t296 => (if t296 = true then ((numnahref03_Small.f k a2_0 a2_1).bind fun t297 => (numnahlaw03_SpreadBests.j0 k a0 bt285.2.2.1 bt285.2.2.2 bt292.2.2 (!t297) a1_0 a1_1 a2_0 a2_1 bt285.1 bt285.2.1 bt292.1 bt292.2.1)) else (numnahlaw03_SpreadBests.j0 k a0 bt285.2.2.1 bt285.2.2.2 bt292.2.2 true a1_0 a1_1 a2_0 a2_1 bt285.1 bt285.2.1 bt292.1 bt292.2.1))))) = some r := h
  clear h
  replace H := Option.bind_eq_some_iff.mp H
  obtain ⟨⟨t285, t286, t287, t290⟩, A40, H⟩ := H
  replace H : ((spread_Add.f a1_0 a1_1 a2_0 a2_1).bind fun bt292 => ((numnahref03_Small.f k a1_0 a1_1).bind fun t296 => (if t296 = true then ((numnahref03_Small.f k a2_0 a2_1).bind fun t297 => (numnahlaw03_SpreadBests.j0 k a0 t287 t290 bt292.2.2 (!t297) a1_0 a1_1 a2_0 a2_1 t285 t286 bt292.1 bt292.2.1)) else (numnahlaw03_SpreadBests.j0 k a0 t287 t290 bt292.2.2 true a1_0 a1_1 a2_0 a2_1 t285 t286 bt292.1 bt292.2.1)))) = some r := H
  have A4 := Aside0.mk A40
  clear A40
  replace H := Option.bind_eq_some_iff.mp H
  obtain ⟨⟨t292, t293, t294⟩, A50, H⟩ := H
  replace H : ((numnahref03_Small.f k a1_0 a1_1).bind fun t296 => (if t296 = true then ((numnahref03_Small.f k a2_0 a2_1).bind fun t297 => (numnahlaw03_SpreadBests.j0 k a0 t287 t290 t294 (!t297) a1_0 a1_1 a2_0 a2_1 t285 t286 t292 t293)) else (numnahlaw03_SpreadBests.j0 k a0 t287 t290 t294 true a1_0 a1_1 a2_0 a2_1 t285 t286 t292 t293))) = some r := H
  have A5 := Aside0.mk A50
  clear A50
  have HC6 := Aside0.mk H
  clear H
  go_enter Try.func6, Try.ntmps6
  go_upto_region 3 with (first | ((with_reducible refine gate_dst (N := 4) rfl ?_); (try (refine gate_guard (by rfl) ?_; dsimp only)); refine box_event ?hg (N := 4) ?hd (cs := #[.int .i64 a1_0, .int .i64 a1_1]) (t := 26) ?hr ?_; (case hd => rfl); (case hg => rfl); (case hr => first | (go_simp; done) | (go_simp; rfl)); intro gb283 hg w7 hbox hb; have n0_ := Aside0.mk (below_step (by repeat (first | (with_reducible first | exact HB.out | apply below_alloc | apply pw_below_drewN | apply below_drew1) | exact HB.out)) hb); have n1_ := Aside0.mk (hbox); have n2_ := Aside0.mk ((by rw [hg]; exact (below_size (by repeat (first | (with_reducible first | exact HB.out | apply below_alloc | apply pw_below_drewN | apply below_drew1) | exact HB.out))) : w.heap.size ≤ gb283)); have n3_ := Aside0.mk ((by rw [hg]; exact (below_size (by repeat (first | (with_reducible first | exact HB.out | apply below_alloc | apply pw_below_drewN | apply below_drew1) | exact HB.out))) : w.heap.size ≤ gb283)); clear HB; have HB := n0_; have BK283 := n1_; have GW283 := n2_; have GE283 := n3_; clear n0_ n1_ n2_ n3_; clear hb hbox hg) | ((with_reducible refine gate_dst (N := 5) rfl ?_); (try (refine gate_guard (by rfl) ?_; dsimp only)); refine box_event ?hg (N := 5) ?hd (cs := #[.int .i64 a2_0, .int .i64 a2_1]) (t := 26) ?hr ?_; (case hd => rfl); (case hg => rfl); (case hr => first | (go_simp; done) | (go_simp; rfl)); intro gb284 hg w8 hbox hb; have n0_ := Aside0.mk (blk_below (g := gb283) (o := .cells #[.int .i64 a1_0, .int .i64 a1_1] 26 (0, 0)) (by (with_reducible repeat (first | refine blk_drewN ?_ _ | refine blk_drew ?_ | refine blk_alloc ?_ _)); exact BK283.out) hb); have n1_ := Aside0.mk (below_step (by repeat (first | (with_reducible first | exact HB.out | apply below_alloc | apply pw_below_drewN | apply below_drew1 | refine below_set ?_ GE283.out) | exact HB.out)) hb); have n2_ := Aside0.mk (hbox); have n3_ := Aside0.mk ((by rw [hg]; exact (below_size (by repeat (first | (with_reducible first | exact HB.out | apply below_alloc | apply pw_below_drewN | apply below_drew1 | refine below_set ?_ GE283.out) | exact HB.out))) : w.heap.size ≤ gb284)); have n4_ := Aside0.mk ((by rw [hg]; exact (below_size (by repeat (first | (with_reducible first | exact HB.out | apply below_alloc | apply pw_below_drewN | apply below_drew1 | refine below_set ?_ GE283.out) | exact HB.out))) : w.heap.size ≤ gb284)); have n5_ := Aside0.mk ((by rw [hg]; exact Nat.ne_of_lt (blk_lt (g := gb283) (o := .cells #[.int .i64 a1_0, .int .i64 a1_1] 26 (0, 0)) (by (with_reducible repeat (first | refine blk_drewN ?_ _ | refine blk_drew ?_ | refine blk_alloc ?_ _)); exact BK283.out)) : gb283 ≠ gb284)); have n6_ := Aside0.mk ((by rw [hg]; exact Nat.ne_of_gt (blk_lt (g := gb283) (o := .cells #[.int .i64 a1_0, .int .i64 a1_1] 26 (0, 0)) (by (with_reducible repeat (first | refine blk_drewN ?_ _ | refine blk_drew ?_ | refine blk_alloc ?_ _)); exact BK283.out)) : gb284 ≠ gb283)); clear BK283; clear HB; have BK283 := n0_; have HB := n1_; have BK284 := n2_; have GW284 := n3_; have GE284 := n4_; have NB283_284 := n5_; have NB284_283 := n6_; clear n0_ n1_ n2_ n3_ n4_ n5_ n6_; clear hb hbox hg) | ((with_reducible refine gate_callee (f := 19) rfl ?_); refine goesL_ (some 15) rfl rfl Try.func19 (by kernel_rfl) rfl #[.int .i64 a0] rfl (by (try simp only [List.map_toArray, List.map_cons, List.map_nil]); first | done | rfl | (simp only [List.length_drop, List.length_take]; rfl)) ?_; (with_reducible refine (spread_Best.calls k a0 t285 t286 t287 t290 _ A4.out).mono ?_); rintro e w9 ⟨v288, rfl, ho0, hb⟩; refine ⟨_, rfl, ?_⟩; have n0_ := Aside0.mk (Kd.R_lower ho0 (below_size (by repeat (first | (with_reducible first | exact HB.out | apply below_alloc | apply pw_below_drewN | apply below_drew1 | refine below_set ?_ GE283.out | refine below_set ?_ GE284.out) | exact HB.out)))); have n1_ := Aside0.mk (blk_below (g := gb283) (o := .cells #[.int .i64 a1_0, .int .i64 a1_1] 26 (0, 0)) (by (with_reducible repeat (first | refine blk_drewN ?_ _ | refine blk_drew ?_ | refine blk_alloc ?_ _)); exact BK283.out) hb); have n2_ := Aside0.mk (blk_below (g := gb284) (o := .cells #[.int .i64 a2_0, .int .i64 a2_1] 26 (0, 0)) (by (with_reducible repeat (first | refine blk_drewN ?_ _ | refine blk_drew ?_ | refine blk_alloc ?_ _)); exact BK284.out) hb); have n3_ := Aside0.mk (below_step (by repeat (first | (with_reducible first | exact HB.out | apply below_alloc | apply pw_below_drewN | apply below_drew1 | refine below_set ?_ GE283.out | refine below_set ?_ GE284.out) | exact HB.out)) hb); clear BK283; clear BK284; clear HB; have HO289 := n0_; have BK283 := n1_; have BK284 := n2_; have HB := n3_; clear n0_ n1_ n2_ n3_; (try clear hb); (try clear hb2); (try clear hk); (try clear hi); (try clear ho0)) | ((with_reducible refine gate_dst (N := 7) rfl ?_); (try (refine gate_guard (by rfl) ?_; dsimp only)); refine box_event ?hg (N := 7) ?hd (cs := #[.int .i64 0, .int .i64 0]) (t := 26) ?hr ?_; (case hd => rfl); (case hg => rfl); (case hr => first | (go_simp; done) | (go_simp; rfl)); intro gb291 hg w10 hbox hb; have n0_ := Aside0.mk (Kd.R_below (by (with_reducible repeat (first | apply Kd.R_alloc | apply Kd.R_drewN | apply Kd.R_drew)); exact HO289.out) hb); have n1_ := Aside0.mk (blk_below (g := gb283) (o := .cells #[.int .i64 a1_0, .int .i64 a1_1] 26 (0, 0)) (by (with_reducible repeat (first | refine blk_drewN ?_ _ | refine blk_drew ?_ | refine blk_alloc ?_ _)); exact BK283.out) hb); have n2_ := Aside0.mk (blk_below (g := gb284) (o := .cells #[.int .i64 a2_0, .int .i64 a2_1] 26 (0, 0)) (by (with_reducible repeat (first | refine blk_drewN ?_ _ | refine blk_drew ?_ | refine blk_alloc ?_ _)); exact BK284.out) hb); have n3_ := Aside0.mk (below_step (by repeat (first | (with_reducible first | exact HB.out | apply below_alloc | apply pw_below_drewN | apply below_drew1 | refine below_set ?_ GE283.out | refine below_set ?_ GE284.out) | exact HB.out)) hb); have n4_ := Aside0.mk (hbox); have n5_ := Aside0.mk ((by rw [hg]; exact (below_size (by repeat (first | (with_reducible first | exact HB.out | apply below_alloc | apply pw_below_drewN | apply below_drew1 | refine below_set ?_ GE283.out | refine below_set ?_ GE284.out) | exact HB.out))) : w.heap.size ≤ gb291)); have n6_ := Aside0.mk ((by rw [hg]; exact (below_size (by repeat (first | (with_reducible first | exact HB.out | apply below_alloc | apply pw_below_drewN | apply below_drew1 | refine below_set ?_ GE283.out | refine below_set ?_ GE284.out) | exact HB.out))) : w.heap.size ≤ gb291)); have n7_ := Aside0.mk ((by rw [hg]; exact Nat.ne_of_lt (blk_lt (g := gb283) (o := .cells #[.int .i64 a1_0, .int .i64 a1_1] 26 (0, 0)) (by (with_reducible repeat (first | refine blk_drewN ?_ _ | refine blk_drew ?_ | refine blk_alloc ?_ _)); exact BK283.out)) : gb283 ≠ gb291)); have n8_ := Aside0.mk ((by rw [hg]; exact Nat.ne_of_gt (blk_lt (g := gb283) (o := .cells #[.int .i64 a1_0, .int .i64 a1_1] 26 (0, 0)) (by (with_reducible repeat (first | refine blk_drewN ?_ _ | refine blk_drew ?_ | refine blk_alloc ?_ _)); exact BK283.out)) : gb291 ≠ gb283)); have n9_ := Aside0.mk ((by rw [hg]; exact Nat.ne_of_lt (blk_lt (g := gb284) (o := .cells #[.int .i64 a2_0, .int .i64 a2_1] 26 (0, 0)) (by (with_reducible repeat (first | refine blk_drewN ?_ _ | refine blk_drew ?_ | refine blk_alloc ?_ _)); exact BK284.out)) : gb284 ≠ gb291)); have n10_ := Aside0.mk ((by rw [hg]; exact Nat.ne_of_gt (blk_lt (g := gb284) (o := .cells #[.int .i64 a2_0, .int .i64 a2_1] 26 (0, 0)) (by (with_reducible repeat (first | refine blk_drewN ?_ _ | refine blk_drew ?_ | refine blk_alloc ?_ _)); exact BK284.out)) : gb291 ≠ gb284)); clear HO289; clear BK283; clear BK284; clear HB; have HO289 := n0_; have BK283 := n1_; have BK284 := n2_; have HB := n3_; have BK291 := n4_; have GW291 := n5_; have GE291 := n6_; have NB283_291 := n7_; have NB291_283 := n8_; have NB284_291 := n9_; have NB291_284 := n10_; clear n0_ n1_ n2_ n3_ n4_ n5_ n6_ n7_ n8_ n9_ n10_; clear hb hbox hg; have hnb11 := NB291_283.out; have hnc11 := NB283_291.out; have hnb12 := NB291_284.out; have hnc12 := NB284_291.out; have hcz13_0 : w10.cell? ⟨gb291, 0, none⟩ = some (.int .i64 0) := (blk_cell BK291.out 0).trans rfl; have hcz13_1 : w10.cell? ⟨gb291, 1, none⟩ = some (.int .i64 0) := (blk_cell BK291.out 1).trans rfl; have hfz13_0 := blk_frozen BK291.out 0; have hfz13_1 := blk_frozen BK291.out 1; have hnb14 := NB283_284.out; have hnc14 := NB284_283.out; have hcz15_0 : w10.cell? ⟨gb283, 0, none⟩ = some (.int .i64 a1_0) := (blk_cell BK283.out 0).trans rfl; have hcz15_1 : w10.cell? ⟨gb283, 1, none⟩ = some (.int .i64 a1_1) := (blk_cell BK283.out 1).trans rfl; have hfz15_0 := blk_frozen BK283.out 0; have hfz15_1 := blk_frozen BK283.out 1; have hcz16_0 : w10.cell? ⟨gb284, 0, none⟩ = some (.int .i64 a2_0) := (blk_cell BK284.out 0).trans rfl; have hcz16_1 : w10.cell? ⟨gb284, 1, none⟩ = some (.int .i64 a2_1) := (blk_cell BK284.out 1).trans rfl; have hfz16_0 := blk_frozen BK284.out 0; have hfz16_1 := blk_frozen BK284.out 1) | ((with_reducible refine gate_callee (f := 33) rfl ?_); refine goesL_ (some 22) rfl rfl Try.func33 (by kernel_rfl) rfl #[.agg #[.int .i64 a1_0, .int .i64 a1_1], .agg #[.int .i64 a2_0, .int .i64 a2_1]] rfl (by (try simp only [List.map_toArray, List.map_cons, List.map_nil]); first | done | rfl | (simp only [List.length_drop, List.length_take]; rfl)) ?_; (with_reducible refine (spread_Add.calls a1_0 a1_1 a2_0 a2_1 t292 t293 t294 _ A5.out).mono ?_); rintro e w17 ⟨rfl, hb⟩; refine ⟨_, rfl, ?_⟩; have n0_ := Aside0.mk (Kd.R_below (by (with_reducible repeat (first | apply Kd.R_alloc | apply Kd.R_drewN | apply Kd.R_drew)); exact (Kd.R_mono (Kd.R_far (p := ⟨gb291, 1, none⟩) (Kd.R_far (p := ⟨gb291, 0, none⟩) (Kd.R_types HO289.out BK291.out (by decide)) (fun _ hk => hk.2) (.int .i64 t285)) (fun _ hk => hk.2) (.int .i64 t286)) (fun _ h_ => h_.1))) hb); have n1_ := Aside0.mk (blk_below (g := gb283) (o := .cells #[.int .i64 a1_0, .int .i64 a1_1] 26 (0, 0)) (by (with_reducible repeat (first | refine blk_drewN ?_ _ | refine blk_drew ?_ | refine blk_alloc ?_ _)); refine blk_far ?_ NB283_291.out _; (with_reducible repeat (first | refine blk_drewN ?_ _ | refine blk_drew ?_ | refine blk_alloc ?_ _)); refine blk_far ?_ NB283_291.out _; (with_reducible repeat (first | refine blk_drewN ?_ _ | refine blk_drew ?_ | refine blk_alloc ?_ _)); exact BK283.out) hb); have n2_ := Aside0.mk (blk_below (g := gb284) (o := .cells #[.int .i64 a2_0, .int .i64 a2_1] 26 (0, 0)) (by (with_reducible repeat (first | refine blk_drewN ?_ _ | refine blk_drew ?_ | refine blk_alloc ?_ _)); refine blk_far ?_ NB284_291.out _; (with_reducible repeat (first | refine blk_drewN ?_ _ | refine blk_drew ?_ | refine blk_alloc ?_ _)); refine blk_far ?_ NB284_291.out _; (with_reducible repeat (first | refine blk_drewN ?_ _ | refine blk_drew ?_ | refine blk_alloc ?_ _)); exact BK284.out) hb); have n3_ := Aside0.mk (blk_below (g := gb291) (o := .cells #[.int .i64 t285, .int .i64 t286] 26 (0, 0)) (by (with_reducible repeat (first | refine blk_drewN ?_ _ | refine blk_drew ?_ | refine blk_alloc ?_ _)); refine blk_put (cs := #[.int .i64 t285, .int .i64 0]) ?_ 1 _ rfl; (with_reducible repeat (first | refine blk_drewN ?_ _ | refine blk_drew ?_ | refine blk_alloc ?_ _)); refine blk_put (cs := #[.int .i64 0, .int .i64 0]) ?_ 0 _ rfl; (with_reducible repeat (first | refine blk_drewN ?_ _ | refine blk_drew ?_ | refine blk_alloc ?_ _)); exact BK291.out) hb); have n4_ := Aside0.mk (below_step (by repeat (first | (with_reducible first | exact HB.out | apply below_alloc | apply pw_below_drewN | apply below_drew1 | refine below_set ?_ GE283.out | refine below_set ?_ GE284.out | refine below_set ?_ GE291.out) | exact HB.out)) hb); clear HO289; clear BK283; clear BK284; clear BK291; clear HB; have HO289 := n0_; have BK283 := n1_; have BK284 := n2_; have BK291 := n3_; have HB := n4_; clear n0_ n1_ n2_ n3_ n4_; (try clear hb); (try clear hb2); (try clear hk); (try clear hi)) | ((with_reducible refine gate_dst (N := 10) rfl ?_); (try (refine gate_guard (by rfl) ?_; dsimp only)); refine box_event ?hg (N := 10) ?hd (cs := #[.int .i64 0, .int .i64 0]) (t := 26) ?hr ?_; (case hd => rfl); (case hg => rfl); (case hr => first | (go_simp; done) | (go_simp; rfl)); intro gb295 hg w18 hbox hb; have n0_ := Aside0.mk (Kd.R_below (by (with_reducible repeat (first | apply Kd.R_alloc | apply Kd.R_drewN | apply Kd.R_drew)); exact HO289.out) hb); have n1_ := Aside0.mk (blk_below (g := gb283) (o := .cells #[.int .i64 a1_0, .int .i64 a1_1] 26 (0, 0)) (by (with_reducible repeat (first | refine blk_drewN ?_ _ | refine blk_drew ?_ | refine blk_alloc ?_ _)); exact BK283.out) hb); have n2_ := Aside0.mk (blk_below (g := gb284) (o := .cells #[.int .i64 a2_0, .int .i64 a2_1] 26 (0, 0)) (by (with_reducible repeat (first | refine blk_drewN ?_ _ | refine blk_drew ?_ | refine blk_alloc ?_ _)); exact BK284.out) hb); have n3_ := Aside0.mk (blk_below (g := gb291) (o := .cells #[.int .i64 t285, .int .i64 t286] 26 (0, 0)) (by (with_reducible repeat (first | refine blk_drewN ?_ _ | refine blk_drew ?_ | refine blk_alloc ?_ _)); exact BK291.out) hb); have n4_ := Aside0.mk (below_step (by repeat (first | (with_reducible first | exact HB.out | apply below_alloc | apply pw_below_drewN | apply below_drew1 | refine below_set ?_ GE283.out | refine below_set ?_ GE284.out | refine below_set ?_ GE291.out) | exact HB.out)) hb); have n5_ := Aside0.mk (hbox); have n6_ := Aside0.mk ((by rw [hg]; exact (below_size (by repeat (first | (with_reducible first | exact HB.out | apply below_alloc | apply pw_below_drewN | apply below_drew1 | refine below_set ?_ GE283.out | refine below_set ?_ GE284.out | refine below_set ?_ GE291.out) | exact HB.out))) : w.heap.size ≤ gb295)); have n7_ := Aside0.mk ((by rw [hg]; exact (below_size (by repeat (first | (with_reducible first | exact HB.out | apply below_alloc | apply pw_below_drewN | apply below_drew1 | refine below_set ?_ GE283.out | refine below_set ?_ GE284.out | refine below_set ?_ GE291.out) | exact HB.out))) : w.heap.size ≤ gb295)); have n8_ := Aside0.mk ((by rw [hg]; exact Nat.ne_of_lt (blk_lt (g := gb283) (o := .cells #[.int .i64 a1_0, .int .i64 a1_1] 26 (0, 0)) (by (with_reducible repeat (first | refine blk_drewN ?_ _ | refine blk_drew ?_ | refine blk_alloc ?_ _)); exact BK283.out)) : gb283 ≠ gb295)); have n9_ := Aside0.mk ((by rw [hg]; exact Nat.ne_of_gt (blk_lt (g := gb283) (o := .cells #[.int .i64 a1_0, .int .i64 a1_1] 26 (0, 0)) (by (with_reducible repeat (first | refine blk_drewN ?_ _ | refine blk_drew ?_ | refine blk_alloc ?_ _)); exact BK283.out)) : gb295 ≠ gb283)); have n10_ := Aside0.mk ((by rw [hg]; exact Nat.ne_of_lt (blk_lt (g := gb284) (o := .cells #[.int .i64 a2_0, .int .i64 a2_1] 26 (0, 0)) (by (with_reducible repeat (first | refine blk_drewN ?_ _ | refine blk_drew ?_ | refine blk_alloc ?_ _)); exact BK284.out)) : gb284 ≠ gb295)); have n11_ := Aside0.mk ((by rw [hg]; exact Nat.ne_of_gt (blk_lt (g := gb284) (o := .cells #[.int .i64 a2_0, .int .i64 a2_1] 26 (0, 0)) (by (with_reducible repeat (first | refine blk_drewN ?_ _ | refine blk_drew ?_ | refine blk_alloc ?_ _)); exact BK284.out)) : gb295 ≠ gb284)); have n12_ := Aside0.mk ((by rw [hg]; exact Nat.ne_of_lt (blk_lt (g := gb291) (o := .cells #[.int .i64 t285, .int .i64 t286] 26 (0, 0)) (by (with_reducible repeat (first | refine blk_drewN ?_ _ | refine blk_drew ?_ | refine blk_alloc ?_ _)); exact BK291.out)) : gb291 ≠ gb295)); have n13_ := Aside0.mk ((by rw [hg]; exact Nat.ne_of_gt (blk_lt (g := gb291) (o := .cells #[.int .i64 t285, .int .i64 t286] 26 (0, 0)) (by (with_reducible repeat (first | refine blk_drewN ?_ _ | refine blk_drew ?_ | refine blk_alloc ?_ _)); exact BK291.out)) : gb295 ≠ gb291)); clear HO289; clear BK283; clear BK284; clear BK291; clear HB; have HO289 := n0_; have BK283 := n1_; have BK284 := n2_; have BK291 := n3_; have HB := n4_; have BK295 := n5_; have GW295 := n6_; have GE295 := n7_; have NB283_295 := n8_; have NB295_283 := n9_; have NB284_295 := n10_; have NB295_284 := n11_; have NB291_295 := n12_; have NB295_291 := n13_; clear n0_ n1_ n2_ n3_ n4_ n5_ n6_ n7_ n8_ n9_ n10_ n11_ n12_ n13_; clear hb hbox hg; have hnb19 := NB295_283.out; have hnc19 := NB283_295.out; have hnb20 := NB295_284.out; have hnc20 := NB284_295.out; have hnb21 := NB295_291.out; have hnc21 := NB291_295.out; have hcz22_0 : w18.cell? ⟨gb295, 0, none⟩ = some (.int .i64 0) := (blk_cell BK295.out 0).trans rfl; have hcz22_1 : w18.cell? ⟨gb295, 1, none⟩ = some (.int .i64 0) := (blk_cell BK295.out 1).trans rfl; have hfz22_0 := blk_frozen BK295.out 0; have hfz22_1 := blk_frozen BK295.out 1))
  (try simp only [Act.put, List.setIfInBounds_toArray, List.set_cons_zero, List.set_cons_succ])
  go_cut [32] (fun v32 wc => ∃ (kq : Nat) (x32_5 : Bool), v32 = .bool x32_5 ∧ Aside0 (numnahlaw03_SpreadBests.j0 kq a0 t287 t290 t294 x32_5 a1_0 a1_1 a2_0 a2_1 t285 t286 t292 t293 = some r) ∧ Aside0 (kq ≤ k) ∧ Aside0 (Kd.R (Kd.int .i64) 3 wc w.heap.size (fun _ => True) v288 t287) ∧ Aside0 (wc.heap[gb283]? = some (.cells #[.int .i64 a1_0, .int .i64 a1_1] 26 (0, 0))) ∧ Aside0 (wc.heap[gb284]? = some (.cells #[.int .i64 a2_0, .int .i64 a2_1] 26 (0, 0))) ∧ Aside0 (wc.heap[gb291]? = some (.cells #[.int .i64 t285, .int .i64 t286] 26 (0, 0))) ∧ Aside0 (wc.heap[gb295]? = some (.cells #[.int .i64 t292, .int .i64 t293] 26 (0, 0))) ∧ Aside0 (Below w.heap.size w wc))
  case first =>
    have H := HC6.out
    clear HC6
    replace H := Option.bind_eq_some_iff.mp H
    obtain ⟨t296, A230, H⟩ := H
    replace H : (if t296 = true then ((numnahref03_Small.f k a2_0 a2_1).bind fun t297 => (numnahlaw03_SpreadBests.j0 k a0 t287 t290 t294 (!t297) a1_0 a1_1 a2_0 a2_1 t285 t286 t292 t293)) else (numnahlaw03_SpreadBests.j0 k a0 t287 t290 t294 true a1_0 a1_1 a2_0 a2_1 t285 t286 t292 t293)) = some r := H
    have A23 := Aside0.mk A230
    clear A230
    by_cases c24 : t296 = true
    · subst c24
      have H1 : ((numnahref03_Small.f k a2_0 a2_1).bind fun t297 => (numnahlaw03_SpreadBests.j0 k a0 t287 t290 t294 (!t297) a1_0 a1_1 a2_0 a2_1 t285 t286 t292 t293)) = some r := by rw [if_pos rfl] at H; exact H
      clear H
      have H := H1
      clear H1
      replace H := Option.bind_eq_some_iff.mp H
      obtain ⟨t297, A250, H⟩ := H
      replace H : (numnahlaw03_SpreadBests.j0 k a0 t287 t290 t294 (!t297) a1_0 a1_1 a2_0 a2_1 t285 t286 t292 t293) = some r := H
      have A25 := Aside0.mk A250
      clear A250
      have H' := Aside0.mk H
      clear H
      have hnb26 := NB283_284.out
      have hnc26 := NB284_283.out
      have hnb27 := NB283_291.out
      have hnc27 := NB291_283.out
      have hnb28 := NB283_295.out
      have hnc28 := NB295_283.out
      have hcz29_0 : w18.cell? ⟨gb283, 0, none⟩ = some (.int .i64 a1_0) := (blk_cell BK283.out 0).trans rfl
      have hcz29_1 : w18.cell? ⟨gb283, 1, none⟩ = some (.int .i64 a1_1) := (blk_cell BK283.out 1).trans rfl
      have hfz29_0 := blk_frozen BK283.out 0
      have hfz29_1 := blk_frozen BK283.out 1
      go_wp2_with (first | ((with_reducible refine gate_callee (f := 34) rfl ?_); refine goesL_ (some 26) rfl rfl Try.func34 (by kernel_rfl) rfl #[.agg #[.int .i64 a1_0, .int .i64 a1_1]] rfl (by (try simp only [List.map_toArray, List.map_cons, List.map_nil]); first | done | rfl | (simp only [List.length_drop, List.length_take]; rfl)) ?_; (with_reducible refine (numnahref03_Small.calls k a1_0 a1_1 true _ A23.out).mono ?_); rintro e w30 ⟨rfl, hb⟩; refine ⟨_, rfl, ?_⟩; have n0_ := Aside0.mk (Kd.R_below (by (with_reducible repeat (first | apply Kd.R_alloc | apply Kd.R_drewN | apply Kd.R_drew)); exact (Kd.R_mono (Kd.R_far (p := ⟨gb295, 1, none⟩) (Kd.R_far (p := ⟨gb295, 0, none⟩) (Kd.R_types HO289.out BK295.out (by decide)) (fun _ hk => hk.2) (.int .i64 t292)) (fun _ hk => hk.2) (.int .i64 t293)) (fun _ h_ => h_.1))) hb); have n1_ := Aside0.mk (blk_below (g := gb283) (o := .cells #[.int .i64 a1_0, .int .i64 a1_1] 26 (0, 0)) (by (with_reducible repeat (first | refine blk_drewN ?_ _ | refine blk_drew ?_ | refine blk_alloc ?_ _)); refine blk_far ?_ NB283_295.out _; (with_reducible repeat (first | refine blk_drewN ?_ _ | refine blk_drew ?_ | refine blk_alloc ?_ _)); refine blk_far ?_ NB283_295.out _; (with_reducible repeat (first | refine blk_drewN ?_ _ | refine blk_drew ?_ | refine blk_alloc ?_ _)); exact BK283.out) hb); have n2_ := Aside0.mk (blk_below (g := gb284) (o := .cells #[.int .i64 a2_0, .int .i64 a2_1] 26 (0, 0)) (by (with_reducible repeat (first | refine blk_drewN ?_ _ | refine blk_drew ?_ | refine blk_alloc ?_ _)); refine blk_far ?_ NB284_295.out _; (with_reducible repeat (first | refine blk_drewN ?_ _ | refine blk_drew ?_ | refine blk_alloc ?_ _)); refine blk_far ?_ NB284_295.out _; (with_reducible repeat (first | refine blk_drewN ?_ _ | refine blk_drew ?_ | refine blk_alloc ?_ _)); exact BK284.out) hb); have n3_ := Aside0.mk (blk_below (g := gb291) (o := .cells #[.int .i64 t285, .int .i64 t286] 26 (0, 0)) (by (with_reducible repeat (first | refine blk_drewN ?_ _ | refine blk_drew ?_ | refine blk_alloc ?_ _)); refine blk_far ?_ NB291_295.out _; (with_reducible repeat (first | refine blk_drewN ?_ _ | refine blk_drew ?_ | refine blk_alloc ?_ _)); refine blk_far ?_ NB291_295.out _; (with_reducible repeat (first | refine blk_drewN ?_ _ | refine blk_drew ?_ | refine blk_alloc ?_ _)); exact BK291.out) hb); have n4_ := Aside0.mk (blk_below (g := gb295) (o := .cells #[.int .i64 t292, .int .i64 t293] 26 (0, 0)) (by (with_reducible repeat (first | refine blk_drewN ?_ _ | refine blk_drew ?_ | refine blk_alloc ?_ _)); refine blk_put (cs := #[.int .i64 t292, .int .i64 0]) ?_ 1 _ rfl; (with_reducible repeat (first | refine blk_drewN ?_ _ | refine blk_drew ?_ | refine blk_alloc ?_ _)); refine blk_put (cs := #[.int .i64 0, .int .i64 0]) ?_ 0 _ rfl; (with_reducible repeat (first | refine blk_drewN ?_ _ | refine blk_drew ?_ | refine blk_alloc ?_ _)); exact BK295.out) hb); have n5_ := Aside0.mk (below_step (by repeat (first | (with_reducible first | exact HB.out | apply below_alloc | apply pw_below_drewN | apply below_drew1 | refine below_set ?_ GE283.out | refine below_set ?_ GE284.out | refine below_set ?_ GE291.out | refine below_set ?_ GE295.out) | exact HB.out)) hb); clear HO289; clear BK283; clear BK284; clear BK291; clear BK295; clear HB; have HO289 := n0_; have BK283 := n1_; have BK284 := n2_; have BK291 := n3_; have BK295 := n4_; have HB := n5_; clear n0_ n1_ n2_ n3_ n4_ n5_; (try clear hb); (try clear hb2); (try clear hk); (try clear hi); have hnb31 := NB284_291.out; have hnc31 := NB291_284.out; have hnb32 := NB284_295.out; have hnc32 := NB295_284.out; have hcz33_0 : w30.cell? ⟨gb284, 0, none⟩ = some (.int .i64 a2_0) := (blk_cell BK284.out 0).trans rfl; have hcz33_1 : w30.cell? ⟨gb284, 1, none⟩ = some (.int .i64 a2_1) := (blk_cell BK284.out 1).trans rfl; have hfz33_0 := blk_frozen BK284.out 0; have hfz33_1 := blk_frozen BK284.out 1) | (go_at_call 34; (with_reducible refine (numnahref03_Small.calls k a2_0 a2_1 t297 _ A25.out).mono ?_); rintro e w34 ⟨rfl, hb⟩; have n0_ := Aside0.mk (Kd.R_below (by (with_reducible repeat (first | apply Kd.R_alloc | apply Kd.R_drewN | apply Kd.R_drew)); exact HO289.out) hb); have n1_ := Aside0.mk (blk_below (g := gb283) (o := .cells #[.int .i64 a1_0, .int .i64 a1_1] 26 (0, 0)) (by (with_reducible repeat (first | refine blk_drewN ?_ _ | refine blk_drew ?_ | refine blk_alloc ?_ _)); exact BK283.out) hb); have n2_ := Aside0.mk (blk_below (g := gb284) (o := .cells #[.int .i64 a2_0, .int .i64 a2_1] 26 (0, 0)) (by (with_reducible repeat (first | refine blk_drewN ?_ _ | refine blk_drew ?_ | refine blk_alloc ?_ _)); exact BK284.out) hb); have n3_ := Aside0.mk (blk_below (g := gb291) (o := .cells #[.int .i64 t285, .int .i64 t286] 26 (0, 0)) (by (with_reducible repeat (first | refine blk_drewN ?_ _ | refine blk_drew ?_ | refine blk_alloc ?_ _)); exact BK291.out) hb); have n4_ := Aside0.mk (blk_below (g := gb295) (o := .cells #[.int .i64 t292, .int .i64 t293] 26 (0, 0)) (by (with_reducible repeat (first | refine blk_drewN ?_ _ | refine blk_drew ?_ | refine blk_alloc ?_ _)); exact BK295.out) hb); have n5_ := Aside0.mk (below_step (by repeat (first | (with_reducible first | exact HB.out | apply below_alloc | apply pw_below_drewN | apply below_drew1 | refine below_set ?_ GE283.out | refine below_set ?_ GE284.out | refine below_set ?_ GE291.out | refine below_set ?_ GE295.out) | exact HB.out)) hb); clear HO289; clear BK283; clear BK284; clear BK291; clear BK295; clear HB; have HO289 := n0_; have BK283 := n1_; have BK284 := n2_; have BK291 := n3_; have BK295 := n4_; have HB := n5_; clear n0_ n1_ n2_ n3_ n4_ n5_; (try clear hb); (try clear hb2); (try clear hk); (try clear hi)))
      go_meet
      case rel => exact ⟨_, (!t297), (by first | rfl | (simp; done) | (simp [*]; done)), H', ⟨by first | omega | exact Nat.le_refl _⟩, ⟨by (with_reducible repeat (first | apply Kd.R_alloc | apply Kd.R_drewN | apply Kd.R_drew)); exact HO289.out⟩, ⟨by (with_reducible repeat (first | refine blk_drewN ?_ _ | refine blk_drew ?_ | refine blk_alloc ?_ _)); exact BK283.out⟩, ⟨by (with_reducible repeat (first | refine blk_drewN ?_ _ | refine blk_drew ?_ | refine blk_alloc ?_ _)); exact BK284.out⟩, ⟨by (with_reducible repeat (first | refine blk_drewN ?_ _ | refine blk_drew ?_ | refine blk_alloc ?_ _)); exact BK291.out⟩, ⟨by (with_reducible repeat (first | refine blk_drewN ?_ _ | refine blk_drew ?_ | refine blk_alloc ?_ _)); exact BK295.out⟩, ⟨by repeat (first | (with_reducible first | exact HB.out | apply below_alloc | apply pw_below_drewN | apply below_drew1 | refine below_set ?_ GE283.out | refine below_set ?_ GE284.out | refine below_set ?_ GE291.out | refine below_set ?_ GE295.out) | exact HB.out)⟩⟩
    · replace c24 := Bool.eq_false_iff.mpr c24
      subst c24
      have H1 : (numnahlaw03_SpreadBests.j0 k a0 t287 t290 t294 true a1_0 a1_1 a2_0 a2_1 t285 t286 t292 t293) = some r := by rw [if_neg (show ¬ (false = true) by decide)] at H; exact H
      clear H
      have H := H1
      clear H1
      have H' := Aside0.mk H
      clear H
      have hnb35 := NB283_284.out
      have hnc35 := NB284_283.out
      have hnb36 := NB283_291.out
      have hnc36 := NB291_283.out
      have hnb37 := NB283_295.out
      have hnc37 := NB295_283.out
      have hcz38_0 : w18.cell? ⟨gb283, 0, none⟩ = some (.int .i64 a1_0) := (blk_cell BK283.out 0).trans rfl
      have hcz38_1 : w18.cell? ⟨gb283, 1, none⟩ = some (.int .i64 a1_1) := (blk_cell BK283.out 1).trans rfl
      have hfz38_0 := blk_frozen BK283.out 0
      have hfz38_1 := blk_frozen BK283.out 1
      go_wp2_with (first | ((with_reducible refine gate_callee (f := 34) rfl ?_); refine goesL_ (some 26) rfl rfl Try.func34 (by kernel_rfl) rfl #[.agg #[.int .i64 a1_0, .int .i64 a1_1]] rfl (by (try simp only [List.map_toArray, List.map_cons, List.map_nil]); first | done | rfl | (simp only [List.length_drop, List.length_take]; rfl)) ?_; (with_reducible refine (numnahref03_Small.calls k a1_0 a1_1 false _ A23.out).mono ?_); rintro e w39 ⟨rfl, hb⟩; refine ⟨_, rfl, ?_⟩; have n0_ := Aside0.mk (Kd.R_below (by (with_reducible repeat (first | apply Kd.R_alloc | apply Kd.R_drewN | apply Kd.R_drew)); exact (Kd.R_mono (Kd.R_far (p := ⟨gb295, 1, none⟩) (Kd.R_far (p := ⟨gb295, 0, none⟩) (Kd.R_types HO289.out BK295.out (by decide)) (fun _ hk => hk.2) (.int .i64 t292)) (fun _ hk => hk.2) (.int .i64 t293)) (fun _ h_ => h_.1))) hb); have n1_ := Aside0.mk (blk_below (g := gb283) (o := .cells #[.int .i64 a1_0, .int .i64 a1_1] 26 (0, 0)) (by (with_reducible repeat (first | refine blk_drewN ?_ _ | refine blk_drew ?_ | refine blk_alloc ?_ _)); refine blk_far ?_ NB283_295.out _; (with_reducible repeat (first | refine blk_drewN ?_ _ | refine blk_drew ?_ | refine blk_alloc ?_ _)); refine blk_far ?_ NB283_295.out _; (with_reducible repeat (first | refine blk_drewN ?_ _ | refine blk_drew ?_ | refine blk_alloc ?_ _)); exact BK283.out) hb); have n2_ := Aside0.mk (blk_below (g := gb284) (o := .cells #[.int .i64 a2_0, .int .i64 a2_1] 26 (0, 0)) (by (with_reducible repeat (first | refine blk_drewN ?_ _ | refine blk_drew ?_ | refine blk_alloc ?_ _)); refine blk_far ?_ NB284_295.out _; (with_reducible repeat (first | refine blk_drewN ?_ _ | refine blk_drew ?_ | refine blk_alloc ?_ _)); refine blk_far ?_ NB284_295.out _; (with_reducible repeat (first | refine blk_drewN ?_ _ | refine blk_drew ?_ | refine blk_alloc ?_ _)); exact BK284.out) hb); have n3_ := Aside0.mk (blk_below (g := gb291) (o := .cells #[.int .i64 t285, .int .i64 t286] 26 (0, 0)) (by (with_reducible repeat (first | refine blk_drewN ?_ _ | refine blk_drew ?_ | refine blk_alloc ?_ _)); refine blk_far ?_ NB291_295.out _; (with_reducible repeat (first | refine blk_drewN ?_ _ | refine blk_drew ?_ | refine blk_alloc ?_ _)); refine blk_far ?_ NB291_295.out _; (with_reducible repeat (first | refine blk_drewN ?_ _ | refine blk_drew ?_ | refine blk_alloc ?_ _)); exact BK291.out) hb); have n4_ := Aside0.mk (blk_below (g := gb295) (o := .cells #[.int .i64 t292, .int .i64 t293] 26 (0, 0)) (by (with_reducible repeat (first | refine blk_drewN ?_ _ | refine blk_drew ?_ | refine blk_alloc ?_ _)); refine blk_put (cs := #[.int .i64 t292, .int .i64 0]) ?_ 1 _ rfl; (with_reducible repeat (first | refine blk_drewN ?_ _ | refine blk_drew ?_ | refine blk_alloc ?_ _)); refine blk_put (cs := #[.int .i64 0, .int .i64 0]) ?_ 0 _ rfl; (with_reducible repeat (first | refine blk_drewN ?_ _ | refine blk_drew ?_ | refine blk_alloc ?_ _)); exact BK295.out) hb); have n5_ := Aside0.mk (below_step (by repeat (first | (with_reducible first | exact HB.out | apply below_alloc | apply pw_below_drewN | apply below_drew1 | refine below_set ?_ GE283.out | refine below_set ?_ GE284.out | refine below_set ?_ GE291.out | refine below_set ?_ GE295.out) | exact HB.out)) hb); clear HO289; clear BK283; clear BK284; clear BK291; clear BK295; clear HB; have HO289 := n0_; have BK283 := n1_; have BK284 := n2_; have BK291 := n3_; have BK295 := n4_; have HB := n5_; clear n0_ n1_ n2_ n3_ n4_ n5_; (try clear hb); (try clear hb2); (try clear hk); (try clear hi)))
      go_meet
      case rel => exact ⟨_, (true), (by first | rfl | (simp; done) | (simp [*]; done)), H', ⟨by first | omega | exact Nat.le_refl _⟩, ⟨by (with_reducible repeat (first | apply Kd.R_alloc | apply Kd.R_drewN | apply Kd.R_drew)); exact HO289.out⟩, ⟨by (with_reducible repeat (first | refine blk_drewN ?_ _ | refine blk_drew ?_ | refine blk_alloc ?_ _)); exact BK283.out⟩, ⟨by (with_reducible repeat (first | refine blk_drewN ?_ _ | refine blk_drew ?_ | refine blk_alloc ?_ _)); exact BK284.out⟩, ⟨by (with_reducible repeat (first | refine blk_drewN ?_ _ | refine blk_drew ?_ | refine blk_alloc ?_ _)); exact BK291.out⟩, ⟨by (with_reducible repeat (first | refine blk_drewN ?_ _ | refine blk_drew ?_ | refine blk_alloc ?_ _)); exact BK295.out⟩, ⟨by repeat (first | (with_reducible first | exact HB.out | apply below_alloc | apply pw_below_drewN | apply below_drew1 | refine below_set ?_ GE283.out | refine below_set ?_ GE284.out | refine below_set ?_ GE291.out | refine below_set ?_ GE295.out) | exact HB.out)⟩⟩
  case rest =>
    clear HC6
    try clear c1
    try clear c2
    try clear p2
    try clear c3
    try clear c6
    try clear c11
    try clear c12
    try clear c14
    try clear c19
    try clear c20
    try clear c21
    try clear c24
    try clear c26
    try clear c27
    try clear c28
    try clear c31
    try clear c32
    try clear c33
    try clear c34
    try clear c35
    try clear c36
    try clear c37
    try clear hcz13_0
    try clear hcz13_1
    try clear hcz15_0
    try clear hcz15_1
    try clear hcz16_0
    try clear hcz16_1
    try clear hcz22_0
    try clear hcz22_1
    try clear hcz29_0
    try clear hcz29_1
    try clear hcz33_0
    try clear hcz33_1
    try clear hcz38_0
    try clear hcz38_1
    try clear hfz13_0
    try clear hfz13_1
    try clear hfz15_0
    try clear hfz15_1
    try clear hfz16_0
    try clear hfz16_1
    try clear hfz22_0
    try clear hfz22_1
    try clear hfz29_0
    try clear hfz29_1
    try clear hfz33_0
    try clear hfz33_1
    try clear hfz38_0
    try clear hfz38_1
    obtain ⟨kq, x32_5, rfl, HA, HJ5, HO_8, BK283, BK284, BK291, BK295, HB⟩ := hcut
    cases kq with
    | zero => exact absurd HA.out (by simp [numnahlaw03_SpreadBests.j0])
    | succ kj5 =>
      have H := HA.out
      clear HA
      simp only [numnahlaw03_SpreadBests.j0] at H
      have HC40 := Aside0.mk H
      clear H
      go_upto_if 32 with (fail)
      go_cut [] (fun wc => ∃ (kq : Nat), Aside0 (numnahlaw03_SpreadBests.j1 kq a0 t287 t290 t285 t286 = some r) ∧ Aside0 (kq ≤ kj5) ∧ Aside0 (Kd.R (Kd.int .i64) 3 wc w.heap.size (fun _ => True) v288 t287) ∧ Aside0 (wc.heap[gb283]? = some (.cells #[.int .i64 a1_0, .int .i64 a1_1] 26 (0, 0))) ∧ Aside0 (wc.heap[gb284]? = some (.cells #[.int .i64 a2_0, .int .i64 a2_1] 26 (0, 0))) ∧ Aside0 (wc.heap[gb291]? = some (.cells #[.int .i64 t285, .int .i64 t286] 26 (0, 0))) ∧ Aside0 (wc.heap[gb295]? = some (.cells #[.int .i64 t292, .int .i64 t293] 26 (0, 0))) ∧ Aside0 (Below w.heap.size w wc))
      case first =>
        have H := HC40.out
        clear HC40
        by_cases c41 : x32_5 = true
        · subst c41
          have H1 : (if (!(t292 == 0) || (!(t293 == 0))) = true then (some false) else (if t294 = 2 then (numnahlaw03_SpreadBests.j1 kj5 a0 t287 t290 t285 t286) else (some false))) = some r := by rw [if_pos rfl] at H; exact H
          clear H
          have H := H1
          clear H1
          by_cases c42 : (!(t292 == 0) || (!(t293 == 0))) = true
          · rw [if_pos c42] at H
            have c42b0 : (!(t292 == 0) || (!(t293 == 0))) = true := c42
            clear c42
            (first | rw [c42b0] | (simp only [i64_w, i32_w]; rw [c42b0]) | skip)
            obtain rfl := Option.some.inj H
            have hnb43 := NB295_283.out
            have hnc43 := NB283_295.out
            have hnb44 := NB295_284.out
            have hnc44 := NB284_295.out
            have hnb45 := NB295_291.out
            have hnc45 := NB291_295.out
            have hcz46_0 : wc.cell? ⟨gb295, 0, none⟩ = some (.int .i64 t292) := (blk_cell BK295.out 0).trans rfl
            have hcz46_1 : wc.cell? ⟨gb295, 1, none⟩ = some (.int .i64 t293) := (blk_cell BK295.out 1).trans rfl
            have hfz46_0 := blk_frozen BK295.out 0
            have hfz46_1 := blk_frozen BK295.out 1
            go_wp2
            go_ret
            exact ⟨by first | rfl | (simp [errW_none, errW_some] <;> rfl) | (simp [*, errW_none, errW_some] <;> rfl), by repeat (first | (with_reducible first | exact HB.out | apply below_alloc | apply pw_below_drewN | apply below_drew1 | refine below_set ?_ GE283.out | refine below_set ?_ GE284.out | refine below_set ?_ GE291.out | refine below_set ?_ GE295.out) | exact HB.out)⟩
          · rw [if_neg c42] at H
            have c42b0 : (!(t292 == 0) || (!(t293 == 0))) = false := by simpa using c42
            clear c42
            (first | rw [c42b0] | (simp only [i64_w, i32_w]; rw [c42b0]) | skip)
            by_cases c47 : t294 = 2
            · rw [if_pos c47] at H
              have c47b0 : (t294 == 2) = true := beq_iff_eq.mpr c47
              have c47b1 : (t294 != 2) = false := bne_eq_false_iff_eq.mpr c47
              clear c47
              have H' := Aside0.mk H
              clear H
              have hnb48 := NB295_283.out
              have hnc48 := NB283_295.out
              have hnb49 := NB295_284.out
              have hnc49 := NB284_295.out
              have hnb50 := NB295_291.out
              have hnc50 := NB291_295.out
              have hcz51_0 : wc.cell? ⟨gb295, 0, none⟩ = some (.int .i64 t292) := (blk_cell BK295.out 0).trans rfl
              have hcz51_1 : wc.cell? ⟨gb295, 1, none⟩ = some (.int .i64 t293) := (blk_cell BK295.out 1).trans rfl
              have hfz51_0 := blk_frozen BK295.out 0
              have hfz51_1 := blk_frozen BK295.out 1
              go_wp2
              go_meet
              case rel => exact ⟨_, H', ⟨by have := HJ5.out; first | omega | exact Nat.le_refl _⟩, ⟨by (with_reducible repeat (first | apply Kd.R_alloc | apply Kd.R_drewN | apply Kd.R_drew)); exact HO_8.out⟩, ⟨by (with_reducible repeat (first | refine blk_drewN ?_ _ | refine blk_drew ?_ | refine blk_alloc ?_ _)); exact BK283.out⟩, ⟨by (with_reducible repeat (first | refine blk_drewN ?_ _ | refine blk_drew ?_ | refine blk_alloc ?_ _)); exact BK284.out⟩, ⟨by (with_reducible repeat (first | refine blk_drewN ?_ _ | refine blk_drew ?_ | refine blk_alloc ?_ _)); exact BK291.out⟩, ⟨by (with_reducible repeat (first | refine blk_drewN ?_ _ | refine blk_drew ?_ | refine blk_alloc ?_ _)); exact BK295.out⟩, ⟨by repeat (first | (with_reducible first | exact HB.out | apply below_alloc | apply pw_below_drewN | apply below_drew1 | refine below_set ?_ GE283.out | refine below_set ?_ GE284.out | refine below_set ?_ GE291.out | refine below_set ?_ GE295.out) | exact HB.out)⟩⟩
            · rw [if_neg c47] at H
              have c47b0 : (t294 == 2) = false := beq_eq_false_iff_ne.mpr c47
              have c47b1 : (t294 != 2) = true := bne_iff_ne.mpr c47
              obtain rfl := Option.some.inj H
              have hnb52 := NB295_283.out
              have hnc52 := NB283_295.out
              have hnb53 := NB295_284.out
              have hnc53 := NB284_295.out
              have hnb54 := NB295_291.out
              have hnc54 := NB291_295.out
              have hcz55_0 : wc.cell? ⟨gb295, 0, none⟩ = some (.int .i64 t292) := (blk_cell BK295.out 0).trans rfl
              have hcz55_1 : wc.cell? ⟨gb295, 1, none⟩ = some (.int .i64 t293) := (blk_cell BK295.out 1).trans rfl
              have hfz55_0 := blk_frozen BK295.out 0
              have hfz55_1 := blk_frozen BK295.out 1
              go_wp2
              go_ret
              exact ⟨by first | rfl | (simp [errW_none, errW_some] <;> rfl) | (simp [*, errW_none, errW_some] <;> rfl), by repeat (first | (with_reducible first | exact HB.out | apply below_alloc | apply pw_below_drewN | apply below_drew1 | refine below_set ?_ GE283.out | refine below_set ?_ GE284.out | refine below_set ?_ GE291.out | refine below_set ?_ GE295.out) | exact HB.out)⟩
        · replace c41 := Bool.eq_false_iff.mpr c41
          subst c41
          have H1 : ((numnahref03_Add.f kj5 a1_0 a1_1 a2_0 a2_1).bind fun bt298 => (if (!(t292 == bt298.1) || (!(t293 == bt298.2))) = true then (some false) else (if t294 = 0 then (numnahlaw03_SpreadBests.j1 kj5 a0 t287 t290 t285 t286) else (some false)))) = some r := by rw [if_neg (show ¬ (false = true) by decide)] at H; exact H
          clear H
          have H := H1
          clear H1
          replace H := Option.bind_eq_some_iff.mp H
          obtain ⟨⟨t298, t299⟩, A560, H⟩ := H
          replace H : (if (!(t292 == t298) || (!(t293 == t299))) = true then (some false) else (if t294 = 0 then (numnahlaw03_SpreadBests.j1 kj5 a0 t287 t290 t285 t286) else (some false))) = some r := H
          have A56 := Aside0.mk A560
          clear A560
          by_cases c57 : (!(t292 == t298) || (!(t293 == t299))) = true
          · rw [if_pos c57] at H
            have c57b0 : (!(t292 == t298) || (!(t293 == t299))) = true := c57
            clear c57
            obtain rfl := Option.some.inj H
            try go_wp2
            have n0_ := Aside0.mk (Kd.R_drew HO_8.out)
            have n1_ := Aside0.mk (blk_drew BK283.out)
            have n2_ := Aside0.mk (blk_drew BK284.out)
            have n3_ := Aside0.mk (blk_drew BK291.out)
            have n4_ := Aside0.mk (blk_drew BK295.out)
            have n5_ := Aside0.mk (below_drew1 HB.out)
            clear HO_8
            clear BK283
            clear BK284
            clear BK291
            clear BK295
            clear HB
            have HO_8 := n0_
            have BK283 := n1_
            have BK284 := n2_
            have BK291 := n3_
            have BK295 := n4_
            have HB := n5_
            clear n0_ n1_ n2_ n3_ n4_ n5_
            refine start_ (n := 9) (S := fun w' => w'.cell? ⟨gb295, 0, none⟩ = some (.int .i64 t292) ∧ w'.cell? ⟨gb295, 1, none⟩ = some (.int .i64 t293) ∧ w'.cell? ⟨gb283, 0, none⟩ = some (.int .i64 a1_0) ∧ w'.cell? ⟨gb283, 1, none⟩ = some (.int .i64 a1_1) ∧ w'.cell? ⟨gb284, 0, none⟩ = some (.int .i64 a2_0) ∧ w'.cell? ⟨gb284, 1, none⟩ = some (.int .i64 a2_1)) (ds := []) #[false, false, false, false, false, false, false, false, false] (by kernel_rfl) rfl rfl ⟨(blk_cell BK295.out 0).trans rfl, (blk_cell BK295.out 1).trans rfl, (blk_cell BK283.out 0).trans rfl, (blk_cell BK283.out 1).trans rfl, (blk_cell BK284.out 0).trans rfl, (blk_cell BK284.out 1).trans rfl⟩ (fun hHeld => ?_); refine with_tabW numnahlaw03_SpreadBests.tab6 numnahlaw03_SpreadBests.bits6 (fun HT_ HW_ => ?_)
            generalize wc.drew = w58 at HO_8 BK283 BK284 BK291 BK295 HB hHeld ⊢
            refine take_ (i := 0) (N := some 40) (v := ?_) (a' := ?_) #[true, false, false, false, false, false, false, false, false] rfl rfl (take_ofW HT_.out HW_.out (by kernel_rfl)) (fun _ _ _ h => h) (Or.inl ⟨by rfl, ?_⟩) hHeld ?_ ?_
            rotate_left
            · rintro w' ⟨s0, s1, s2, s3, s4, s5⟩
              go_simp
              with_reducible rfl
            rotate_left
            · simp only [Act.put, List.setIfInBounds_toArray, List.set_cons_zero, List.set_cons_succ, i64_w, i32_w]
              rfl
            refine take_ (i := 1) (N := some 41) (v := ?_) (a' := ?_) #[true, true, false, false, false, false, false, false, false] rfl rfl (take_ofW HT_.out HW_.out (by kernel_rfl)) (fun _ _ _ h => h) (Or.inl ⟨by rfl, ?_⟩) hHeld ?_ ?_
            rotate_left
            · rintro w' ⟨s0, s1, s2, s3, s4, s5⟩
              go_simp
              with_reducible rfl
            rotate_left
            · simp only [Act.put, List.setIfInBounds_toArray, List.set_cons_zero, List.set_cons_succ, i64_w, i32_w]
              rfl
            refine take_ (i := 2) (N := some 42) (v := ?_) (a' := ?_) #[true, true, true, false, false, false, false, false, false] rfl rfl (take_ofW HT_.out HW_.out (by kernel_rfl)) (fun _ _ _ h => h) (Or.inl ⟨by rfl, ?_⟩) hHeld ?_ ?_
            rotate_left
            · rintro w' ⟨s0, s1, s2, s3, s4, s5⟩
              go_simp
              with_reducible rfl
            rotate_left
            · simp only [Act.put, List.setIfInBounds_toArray, List.set_cons_zero, List.set_cons_succ, i64_w, i32_w]
              rfl
            refine one_ (i := 3) (N := some 43) #[true, true, true, true, false, false, false, false, false] rfl rfl (one_of HT_.out (by kernel_rfl)) (by decide) (fun K hK => ?_)
            refine goes_ Try.func35 (by kernel_rfl) rfl #[.agg #[.int .i64 a1_0, .int .i64 a1_1], .agg #[.int .i64 a2_0, .int .i64 a2_1]] (by rfl) rfl rfl (by (try simp only [List.map_toArray, List.map_cons, List.map_nil]); first | done | rfl | (simp only [List.length_drop, List.length_take]; rfl)) ?_
            with_reducible refine (numnahref03_Add.calls kj5 a1_0 a1_1 a2_0 a2_1 t298 t299 _ A56.out).mono ?_
            rintro e w59 ⟨rfl, hb⟩
            refine ⟨_, rfl, ?_⟩
            have n0_ := Aside0.mk (Kd.R_below (by (with_reducible repeat (first | apply Kd.R_alloc | apply Kd.R_drewN | apply Kd.R_drew)); exact HO_8.out) hb)
            have n1_ := Aside0.mk (blk_below (g := gb283) (o := .cells #[.int .i64 a1_0, .int .i64 a1_1] 26 (0, 0)) (by (with_reducible repeat (first | refine blk_drewN ?_ _ | refine blk_drew ?_ | refine blk_alloc ?_ _)); exact BK283.out) hb)
            have n2_ := Aside0.mk (blk_below (g := gb284) (o := .cells #[.int .i64 a2_0, .int .i64 a2_1] 26 (0, 0)) (by (with_reducible repeat (first | refine blk_drewN ?_ _ | refine blk_drew ?_ | refine blk_alloc ?_ _)); exact BK284.out) hb)
            have n3_ := Aside0.mk (blk_below (g := gb291) (o := .cells #[.int .i64 t285, .int .i64 t286] 26 (0, 0)) (by (with_reducible repeat (first | refine blk_drewN ?_ _ | refine blk_drew ?_ | refine blk_alloc ?_ _)); exact BK291.out) hb)
            have n4_ := Aside0.mk (blk_below (g := gb295) (o := .cells #[.int .i64 t292, .int .i64 t293] 26 (0, 0)) (by (with_reducible repeat (first | refine blk_drewN ?_ _ | refine blk_drew ?_ | refine blk_alloc ?_ _)); exact BK295.out) hb)
            have n5_ := Aside0.mk (below_step (by repeat (first | (with_reducible first | exact HB.out | apply below_alloc | apply pw_below_drewN | apply below_drew1 | refine below_set ?_ GE283.out | refine below_set ?_ GE284.out | refine below_set ?_ GE291.out | refine below_set ?_ GE295.out) | exact HB.out)) hb)
            clear HO_8
            clear BK283
            clear BK284
            clear BK291
            clear BK295
            clear HB
            have HO_8 := n0_
            have BK283 := n1_
            have BK284 := n2_
            have BK291 := n3_
            have BK295 := n4_
            have HB := n5_
            clear n0_ n1_ n2_ n3_ n4_ n5_
            (try clear hb)
            (try clear hb2)
            (try clear hk)
            (try clear hi)
            refine hK.out _ _ ⟨(blk_cell BK295.out 0).trans rfl, (blk_cell BK295.out 1).trans rfl, (blk_cell BK283.out 0).trans rfl, (blk_cell BK283.out 1).trans rfl, (blk_cell BK284.out 0).trans rfl, (blk_cell BK284.out 1).trans rfl⟩ (fun hHeld => ?_)
            clear hK K
            refine norm_ (a' := ?_) ?_ ?_
            rotate_left
            · show Act.put _ (some 43) _ = _
              simp only [Act.put, List.setIfInBounds_toArray, List.set_cons_zero, List.set_cons_succ, i64_w, i32_w]
              rfl
            refine pure_ (i := 4) (N := some 44) (v := ?_) (a' := ?_) #[true, true, true, true, true, false, false, false, false] rfl rfl (any_of HT_.out (by kernel_rfl)) (fun _ _ _ h => h) (Or.inl ⟨by rfl, ?_⟩) ?_ ?_
            rotate_left
            · intro w'
              go_simp
              with_reducible rfl
            rotate_left
            · simp only [Act.put, List.setIfInBounds_toArray, List.set_cons_zero, List.set_cons_succ, i64_w, i32_w]
              rfl
            refine pure_ (i := 5) (N := some 45) (v := ?_) (a' := ?_) #[true, true, true, true, true, true, false, false, false] rfl rfl (any_of HT_.out (by kernel_rfl)) (fun _ _ _ h => h) (Or.inl ⟨by rfl, ?_⟩) ?_ ?_
            rotate_left
            · intro w'
              go_simp
              with_reducible rfl
            rotate_left
            · simp only [Act.put, List.setIfInBounds_toArray, List.set_cons_zero, List.set_cons_succ, i64_w, i32_w]
              rfl
            refine pure_ (i := 6) (N := some 46) (v := undef) (a' := ?_) #[true, true, true, true, true, true, true, false, false] rfl rfl (any_of HT_.out (by kernel_rfl)) (fun _ _ _ h => h) (Or.inr ⟨by rfl, rfl⟩) ?_ ?_
            rotate_left
            · simp only [Act.put, List.setIfInBounds_toArray, List.set_cons_zero, List.set_cons_succ, i64_w, i32_w]
              rfl
            refine pure_ (i := 7) (N := some 47) (v := undef) (a' := ?_) #[true, true, true, true, true, true, true, true, false] rfl rfl (any_of HT_.out (by kernel_rfl)) (fun _ _ _ h => h) (Or.inr ⟨by rfl, rfl⟩) ?_ ?_
            rotate_left
            · simp only [Act.put, List.setIfInBounds_toArray, List.set_cons_zero, List.set_cons_succ, i64_w, i32_w]
              rfl
            refine pure_ (i := 8) (N := some 48) (v := ?_) (a' := ?_) #[true, true, true, true, true, true, true, true, true] rfl rfl (any_of HT_.out (by kernel_rfl)) (fun _ _ _ h => h) (Or.inl ⟨by rfl, ?_⟩) ?_ ?_
            rotate_left
            · intro w'
              go_simp
              with_reducible rfl
            rotate_left
            · simp only [Act.put, List.setIfInBounds_toArray, List.set_cons_zero, List.set_cons_succ, i64_w, i32_w]
              rfl
            refine done_ (done_of HT_.out (by kernel_rfl)) ?_
            try go_wp2
            go_ret
            exact ⟨by first | rfl | (simp [errW_none, errW_some] <;> rfl) | (simp [*, errW_none, errW_some] <;> rfl), by repeat (first | (with_reducible first | exact HB.out | apply below_alloc | apply pw_below_drewN | apply below_drew1 | refine below_set ?_ GE283.out | refine below_set ?_ GE284.out | refine below_set ?_ GE291.out | refine below_set ?_ GE295.out) | exact HB.out)⟩
          · rw [if_neg c57] at H
            have c57b0 : (!(t292 == t298) || (!(t293 == t299))) = false := by simpa using c57
            clear c57
            by_cases c60 : t294 = 0
            · rw [if_pos c60] at H
              have c60b0 : (t294 == 0) = true := beq_iff_eq.mpr c60
              have c60b1 : (t294 != 0) = false := bne_eq_false_iff_eq.mpr c60
              clear c60
              have H' := Aside0.mk H
              clear H
              try go_wp2
              have n0_ := Aside0.mk (Kd.R_drew HO_8.out)
              have n1_ := Aside0.mk (blk_drew BK283.out)
              have n2_ := Aside0.mk (blk_drew BK284.out)
              have n3_ := Aside0.mk (blk_drew BK291.out)
              have n4_ := Aside0.mk (blk_drew BK295.out)
              have n5_ := Aside0.mk (below_drew1 HB.out)
              clear HO_8
              clear BK283
              clear BK284
              clear BK291
              clear BK295
              clear HB
              have HO_8 := n0_
              have BK283 := n1_
              have BK284 := n2_
              have BK291 := n3_
              have BK295 := n4_
              have HB := n5_
              clear n0_ n1_ n2_ n3_ n4_ n5_
              refine start_ (n := 9) (S := fun w' => w'.cell? ⟨gb295, 0, none⟩ = some (.int .i64 t292) ∧ w'.cell? ⟨gb295, 1, none⟩ = some (.int .i64 t293) ∧ w'.cell? ⟨gb283, 0, none⟩ = some (.int .i64 a1_0) ∧ w'.cell? ⟨gb283, 1, none⟩ = some (.int .i64 a1_1) ∧ w'.cell? ⟨gb284, 0, none⟩ = some (.int .i64 a2_0) ∧ w'.cell? ⟨gb284, 1, none⟩ = some (.int .i64 a2_1)) (ds := []) #[false, false, false, false, false, false, false, false, false] (by kernel_rfl) rfl rfl ⟨(blk_cell BK295.out 0).trans rfl, (blk_cell BK295.out 1).trans rfl, (blk_cell BK283.out 0).trans rfl, (blk_cell BK283.out 1).trans rfl, (blk_cell BK284.out 0).trans rfl, (blk_cell BK284.out 1).trans rfl⟩ (fun hHeld => ?_); refine with_tabW numnahlaw03_SpreadBests.tab6 numnahlaw03_SpreadBests.bits6 (fun HT_ HW_ => ?_)
              generalize wc.drew = w61 at HO_8 BK283 BK284 BK291 BK295 HB hHeld ⊢
              refine take_ (i := 0) (N := some 40) (v := ?_) (a' := ?_) #[true, false, false, false, false, false, false, false, false] rfl rfl (take_ofW HT_.out HW_.out (by kernel_rfl)) (fun _ _ _ h => h) (Or.inl ⟨by rfl, ?_⟩) hHeld ?_ ?_
              rotate_left
              · rintro w' ⟨s0, s1, s2, s3, s4, s5⟩
                go_simp
                with_reducible rfl
              rotate_left
              · simp only [Act.put, List.setIfInBounds_toArray, List.set_cons_zero, List.set_cons_succ, i64_w, i32_w]
                rfl
              refine take_ (i := 1) (N := some 41) (v := ?_) (a' := ?_) #[true, true, false, false, false, false, false, false, false] rfl rfl (take_ofW HT_.out HW_.out (by kernel_rfl)) (fun _ _ _ h => h) (Or.inl ⟨by rfl, ?_⟩) hHeld ?_ ?_
              rotate_left
              · rintro w' ⟨s0, s1, s2, s3, s4, s5⟩
                go_simp
                with_reducible rfl
              rotate_left
              · simp only [Act.put, List.setIfInBounds_toArray, List.set_cons_zero, List.set_cons_succ, i64_w, i32_w]
                rfl
              refine take_ (i := 2) (N := some 42) (v := ?_) (a' := ?_) #[true, true, true, false, false, false, false, false, false] rfl rfl (take_ofW HT_.out HW_.out (by kernel_rfl)) (fun _ _ _ h => h) (Or.inl ⟨by rfl, ?_⟩) hHeld ?_ ?_
              rotate_left
              · rintro w' ⟨s0, s1, s2, s3, s4, s5⟩
                go_simp
                with_reducible rfl
              rotate_left
              · simp only [Act.put, List.setIfInBounds_toArray, List.set_cons_zero, List.set_cons_succ, i64_w, i32_w]
                rfl
              refine one_ (i := 3) (N := some 43) #[true, true, true, true, false, false, false, false, false] rfl rfl (one_of HT_.out (by kernel_rfl)) (by decide) (fun K hK => ?_)
              refine goes_ Try.func35 (by kernel_rfl) rfl #[.agg #[.int .i64 a1_0, .int .i64 a1_1], .agg #[.int .i64 a2_0, .int .i64 a2_1]] (by rfl) rfl rfl (by (try simp only [List.map_toArray, List.map_cons, List.map_nil]); first | done | rfl | (simp only [List.length_drop, List.length_take]; rfl)) ?_
              with_reducible refine (numnahref03_Add.calls kj5 a1_0 a1_1 a2_0 a2_1 t298 t299 _ A56.out).mono ?_
              rintro e w62 ⟨rfl, hb⟩
              refine ⟨_, rfl, ?_⟩
              have n0_ := Aside0.mk (Kd.R_below (by (with_reducible repeat (first | apply Kd.R_alloc | apply Kd.R_drewN | apply Kd.R_drew)); exact HO_8.out) hb)
              have n1_ := Aside0.mk (blk_below (g := gb283) (o := .cells #[.int .i64 a1_0, .int .i64 a1_1] 26 (0, 0)) (by (with_reducible repeat (first | refine blk_drewN ?_ _ | refine blk_drew ?_ | refine blk_alloc ?_ _)); exact BK283.out) hb)
              have n2_ := Aside0.mk (blk_below (g := gb284) (o := .cells #[.int .i64 a2_0, .int .i64 a2_1] 26 (0, 0)) (by (with_reducible repeat (first | refine blk_drewN ?_ _ | refine blk_drew ?_ | refine blk_alloc ?_ _)); exact BK284.out) hb)
              have n3_ := Aside0.mk (blk_below (g := gb291) (o := .cells #[.int .i64 t285, .int .i64 t286] 26 (0, 0)) (by (with_reducible repeat (first | refine blk_drewN ?_ _ | refine blk_drew ?_ | refine blk_alloc ?_ _)); exact BK291.out) hb)
              have n4_ := Aside0.mk (blk_below (g := gb295) (o := .cells #[.int .i64 t292, .int .i64 t293] 26 (0, 0)) (by (with_reducible repeat (first | refine blk_drewN ?_ _ | refine blk_drew ?_ | refine blk_alloc ?_ _)); exact BK295.out) hb)
              have n5_ := Aside0.mk (below_step (by repeat (first | (with_reducible first | exact HB.out | apply below_alloc | apply pw_below_drewN | apply below_drew1 | refine below_set ?_ GE283.out | refine below_set ?_ GE284.out | refine below_set ?_ GE291.out | refine below_set ?_ GE295.out) | exact HB.out)) hb)
              clear HO_8
              clear BK283
              clear BK284
              clear BK291
              clear BK295
              clear HB
              have HO_8 := n0_
              have BK283 := n1_
              have BK284 := n2_
              have BK291 := n3_
              have BK295 := n4_
              have HB := n5_
              clear n0_ n1_ n2_ n3_ n4_ n5_
              (try clear hb)
              (try clear hb2)
              (try clear hk)
              (try clear hi)
              refine hK.out _ _ ⟨(blk_cell BK295.out 0).trans rfl, (blk_cell BK295.out 1).trans rfl, (blk_cell BK283.out 0).trans rfl, (blk_cell BK283.out 1).trans rfl, (blk_cell BK284.out 0).trans rfl, (blk_cell BK284.out 1).trans rfl⟩ (fun hHeld => ?_)
              clear hK K
              refine norm_ (a' := ?_) ?_ ?_
              rotate_left
              · show Act.put _ (some 43) _ = _
                simp only [Act.put, List.setIfInBounds_toArray, List.set_cons_zero, List.set_cons_succ, i64_w, i32_w]
                rfl
              refine pure_ (i := 4) (N := some 44) (v := ?_) (a' := ?_) #[true, true, true, true, true, false, false, false, false] rfl rfl (any_of HT_.out (by kernel_rfl)) (fun _ _ _ h => h) (Or.inl ⟨by rfl, ?_⟩) ?_ ?_
              rotate_left
              · intro w'
                go_simp
                with_reducible rfl
              rotate_left
              · simp only [Act.put, List.setIfInBounds_toArray, List.set_cons_zero, List.set_cons_succ, i64_w, i32_w]
                rfl
              refine pure_ (i := 5) (N := some 45) (v := ?_) (a' := ?_) #[true, true, true, true, true, true, false, false, false] rfl rfl (any_of HT_.out (by kernel_rfl)) (fun _ _ _ h => h) (Or.inl ⟨by rfl, ?_⟩) ?_ ?_
              rotate_left
              · intro w'
                go_simp
                with_reducible rfl
              rotate_left
              · simp only [Act.put, List.setIfInBounds_toArray, List.set_cons_zero, List.set_cons_succ, i64_w, i32_w]
                rfl
              refine pure_ (i := 6) (N := some 46) (v := ?_) (a' := ?_) #[true, true, true, true, true, true, true, false, false] rfl rfl (any_of HT_.out (by kernel_rfl)) (fun _ _ _ h => h) (Or.inl ⟨by rfl, ?_⟩) ?_ ?_
              rotate_left
              · intro w'
                go_simp
                with_reducible rfl
              rotate_left
              · simp only [Act.put, List.setIfInBounds_toArray, List.set_cons_zero, List.set_cons_succ, i64_w, i32_w]
                rfl
              refine pure_ (i := 7) (N := some 47) (v := ?_) (a' := ?_) #[true, true, true, true, true, true, true, true, false] rfl rfl (any_of HT_.out (by kernel_rfl)) (fun _ _ _ h => h) (Or.inl ⟨by rfl, ?_⟩) ?_ ?_
              rotate_left
              · intro w'
                go_simp
                with_reducible rfl
              rotate_left
              · simp only [Act.put, List.setIfInBounds_toArray, List.set_cons_zero, List.set_cons_succ, i64_w, i32_w]
                rfl
              refine pure_ (i := 8) (N := some 48) (v := ?_) (a' := ?_) #[true, true, true, true, true, true, true, true, true] rfl rfl (any_of HT_.out (by kernel_rfl)) (fun _ _ _ h => h) (Or.inl ⟨by rfl, ?_⟩) ?_ ?_
              rotate_left
              · intro w'
                go_simp
                with_reducible rfl
              rotate_left
              · simp only [Act.put, List.setIfInBounds_toArray, List.set_cons_zero, List.set_cons_succ, i64_w, i32_w]
                rfl
              refine done_ (done_of HT_.out (by kernel_rfl)) ?_
              try go_wp2
              go_meet
              case rel => exact ⟨_, H', ⟨by have := HJ5.out; first | omega | exact Nat.le_refl _⟩, ⟨by (with_reducible repeat (first | apply Kd.R_alloc | apply Kd.R_drewN | apply Kd.R_drew)); exact HO_8.out⟩, ⟨by (with_reducible repeat (first | refine blk_drewN ?_ _ | refine blk_drew ?_ | refine blk_alloc ?_ _)); exact BK283.out⟩, ⟨by (with_reducible repeat (first | refine blk_drewN ?_ _ | refine blk_drew ?_ | refine blk_alloc ?_ _)); exact BK284.out⟩, ⟨by (with_reducible repeat (first | refine blk_drewN ?_ _ | refine blk_drew ?_ | refine blk_alloc ?_ _)); exact BK291.out⟩, ⟨by (with_reducible repeat (first | refine blk_drewN ?_ _ | refine blk_drew ?_ | refine blk_alloc ?_ _)); exact BK295.out⟩, ⟨by repeat (first | (with_reducible first | exact HB.out | apply below_alloc | apply pw_below_drewN | apply below_drew1 | refine below_set ?_ GE283.out | refine below_set ?_ GE284.out | refine below_set ?_ GE291.out | refine below_set ?_ GE295.out) | exact HB.out)⟩⟩
            · rw [if_neg c60] at H
              have c60b0 : (t294 == 0) = false := beq_eq_false_iff_ne.mpr c60
              have c60b1 : (t294 != 0) = true := bne_iff_ne.mpr c60
              obtain rfl := Option.some.inj H
              try go_wp2
              have n0_ := Aside0.mk (Kd.R_drew HO_8.out)
              have n1_ := Aside0.mk (blk_drew BK283.out)
              have n2_ := Aside0.mk (blk_drew BK284.out)
              have n3_ := Aside0.mk (blk_drew BK291.out)
              have n4_ := Aside0.mk (blk_drew BK295.out)
              have n5_ := Aside0.mk (below_drew1 HB.out)
              clear HO_8
              clear BK283
              clear BK284
              clear BK291
              clear BK295
              clear HB
              have HO_8 := n0_
              have BK283 := n1_
              have BK284 := n2_
              have BK291 := n3_
              have BK295 := n4_
              have HB := n5_
              clear n0_ n1_ n2_ n3_ n4_ n5_
              refine start_ (n := 9) (S := fun w' => w'.cell? ⟨gb295, 0, none⟩ = some (.int .i64 t292) ∧ w'.cell? ⟨gb295, 1, none⟩ = some (.int .i64 t293) ∧ w'.cell? ⟨gb283, 0, none⟩ = some (.int .i64 a1_0) ∧ w'.cell? ⟨gb283, 1, none⟩ = some (.int .i64 a1_1) ∧ w'.cell? ⟨gb284, 0, none⟩ = some (.int .i64 a2_0) ∧ w'.cell? ⟨gb284, 1, none⟩ = some (.int .i64 a2_1)) (ds := []) #[false, false, false, false, false, false, false, false, false] (by kernel_rfl) rfl rfl ⟨(blk_cell BK295.out 0).trans rfl, (blk_cell BK295.out 1).trans rfl, (blk_cell BK283.out 0).trans rfl, (blk_cell BK283.out 1).trans rfl, (blk_cell BK284.out 0).trans rfl, (blk_cell BK284.out 1).trans rfl⟩ (fun hHeld => ?_); refine with_tabW numnahlaw03_SpreadBests.tab6 numnahlaw03_SpreadBests.bits6 (fun HT_ HW_ => ?_)
              generalize wc.drew = w63 at HO_8 BK283 BK284 BK291 BK295 HB hHeld ⊢
              refine take_ (i := 0) (N := some 40) (v := ?_) (a' := ?_) #[true, false, false, false, false, false, false, false, false] rfl rfl (take_ofW HT_.out HW_.out (by kernel_rfl)) (fun _ _ _ h => h) (Or.inl ⟨by rfl, ?_⟩) hHeld ?_ ?_
              rotate_left
              · rintro w' ⟨s0, s1, s2, s3, s4, s5⟩
                go_simp
                with_reducible rfl
              rotate_left
              · simp only [Act.put, List.setIfInBounds_toArray, List.set_cons_zero, List.set_cons_succ, i64_w, i32_w]
                rfl
              refine take_ (i := 1) (N := some 41) (v := ?_) (a' := ?_) #[true, true, false, false, false, false, false, false, false] rfl rfl (take_ofW HT_.out HW_.out (by kernel_rfl)) (fun _ _ _ h => h) (Or.inl ⟨by rfl, ?_⟩) hHeld ?_ ?_
              rotate_left
              · rintro w' ⟨s0, s1, s2, s3, s4, s5⟩
                go_simp
                with_reducible rfl
              rotate_left
              · simp only [Act.put, List.setIfInBounds_toArray, List.set_cons_zero, List.set_cons_succ, i64_w, i32_w]
                rfl
              refine take_ (i := 2) (N := some 42) (v := ?_) (a' := ?_) #[true, true, true, false, false, false, false, false, false] rfl rfl (take_ofW HT_.out HW_.out (by kernel_rfl)) (fun _ _ _ h => h) (Or.inl ⟨by rfl, ?_⟩) hHeld ?_ ?_
              rotate_left
              · rintro w' ⟨s0, s1, s2, s3, s4, s5⟩
                go_simp
                with_reducible rfl
              rotate_left
              · simp only [Act.put, List.setIfInBounds_toArray, List.set_cons_zero, List.set_cons_succ, i64_w, i32_w]
                rfl
              refine one_ (i := 3) (N := some 43) #[true, true, true, true, false, false, false, false, false] rfl rfl (one_of HT_.out (by kernel_rfl)) (by decide) (fun K hK => ?_)
              refine goes_ Try.func35 (by kernel_rfl) rfl #[.agg #[.int .i64 a1_0, .int .i64 a1_1], .agg #[.int .i64 a2_0, .int .i64 a2_1]] (by rfl) rfl rfl (by (try simp only [List.map_toArray, List.map_cons, List.map_nil]); first | done | rfl | (simp only [List.length_drop, List.length_take]; rfl)) ?_
              with_reducible refine (numnahref03_Add.calls kj5 a1_0 a1_1 a2_0 a2_1 t298 t299 _ A56.out).mono ?_
              rintro e w64 ⟨rfl, hb⟩
              refine ⟨_, rfl, ?_⟩
              have n0_ := Aside0.mk (Kd.R_below (by (with_reducible repeat (first | apply Kd.R_alloc | apply Kd.R_drewN | apply Kd.R_drew)); exact HO_8.out) hb)
              have n1_ := Aside0.mk (blk_below (g := gb283) (o := .cells #[.int .i64 a1_0, .int .i64 a1_1] 26 (0, 0)) (by (with_reducible repeat (first | refine blk_drewN ?_ _ | refine blk_drew ?_ | refine blk_alloc ?_ _)); exact BK283.out) hb)
              have n2_ := Aside0.mk (blk_below (g := gb284) (o := .cells #[.int .i64 a2_0, .int .i64 a2_1] 26 (0, 0)) (by (with_reducible repeat (first | refine blk_drewN ?_ _ | refine blk_drew ?_ | refine blk_alloc ?_ _)); exact BK284.out) hb)
              have n3_ := Aside0.mk (blk_below (g := gb291) (o := .cells #[.int .i64 t285, .int .i64 t286] 26 (0, 0)) (by (with_reducible repeat (first | refine blk_drewN ?_ _ | refine blk_drew ?_ | refine blk_alloc ?_ _)); exact BK291.out) hb)
              have n4_ := Aside0.mk (blk_below (g := gb295) (o := .cells #[.int .i64 t292, .int .i64 t293] 26 (0, 0)) (by (with_reducible repeat (first | refine blk_drewN ?_ _ | refine blk_drew ?_ | refine blk_alloc ?_ _)); exact BK295.out) hb)
              have n5_ := Aside0.mk (below_step (by repeat (first | (with_reducible first | exact HB.out | apply below_alloc | apply pw_below_drewN | apply below_drew1 | refine below_set ?_ GE283.out | refine below_set ?_ GE284.out | refine below_set ?_ GE291.out | refine below_set ?_ GE295.out) | exact HB.out)) hb)
              clear HO_8
              clear BK283
              clear BK284
              clear BK291
              clear BK295
              clear HB
              have HO_8 := n0_
              have BK283 := n1_
              have BK284 := n2_
              have BK291 := n3_
              have BK295 := n4_
              have HB := n5_
              clear n0_ n1_ n2_ n3_ n4_ n5_
              (try clear hb)
              (try clear hb2)
              (try clear hk)
              (try clear hi)
              refine hK.out _ _ ⟨(blk_cell BK295.out 0).trans rfl, (blk_cell BK295.out 1).trans rfl, (blk_cell BK283.out 0).trans rfl, (blk_cell BK283.out 1).trans rfl, (blk_cell BK284.out 0).trans rfl, (blk_cell BK284.out 1).trans rfl⟩ (fun hHeld => ?_)
              clear hK K
              refine norm_ (a' := ?_) ?_ ?_
              rotate_left
              · show Act.put _ (some 43) _ = _
                simp only [Act.put, List.setIfInBounds_toArray, List.set_cons_zero, List.set_cons_succ, i64_w, i32_w]
                rfl
              refine pure_ (i := 4) (N := some 44) (v := ?_) (a' := ?_) #[true, true, true, true, true, false, false, false, false] rfl rfl (any_of HT_.out (by kernel_rfl)) (fun _ _ _ h => h) (Or.inl ⟨by rfl, ?_⟩) ?_ ?_
              rotate_left
              · intro w'
                go_simp
                with_reducible rfl
              rotate_left
              · simp only [Act.put, List.setIfInBounds_toArray, List.set_cons_zero, List.set_cons_succ, i64_w, i32_w]
                rfl
              refine pure_ (i := 5) (N := some 45) (v := ?_) (a' := ?_) #[true, true, true, true, true, true, false, false, false] rfl rfl (any_of HT_.out (by kernel_rfl)) (fun _ _ _ h => h) (Or.inl ⟨by rfl, ?_⟩) ?_ ?_
              rotate_left
              · intro w'
                go_simp
                with_reducible rfl
              rotate_left
              · simp only [Act.put, List.setIfInBounds_toArray, List.set_cons_zero, List.set_cons_succ, i64_w, i32_w]
                rfl
              refine pure_ (i := 6) (N := some 46) (v := ?_) (a' := ?_) #[true, true, true, true, true, true, true, false, false] rfl rfl (any_of HT_.out (by kernel_rfl)) (fun _ _ _ h => h) (Or.inl ⟨by rfl, ?_⟩) ?_ ?_
              rotate_left
              · intro w'
                go_simp
                with_reducible rfl
              rotate_left
              · simp only [Act.put, List.setIfInBounds_toArray, List.set_cons_zero, List.set_cons_succ, i64_w, i32_w]
                rfl
              refine pure_ (i := 7) (N := some 47) (v := ?_) (a' := ?_) #[true, true, true, true, true, true, true, true, false] rfl rfl (any_of HT_.out (by kernel_rfl)) (fun _ _ _ h => h) (Or.inl ⟨by rfl, ?_⟩) ?_ ?_
              rotate_left
              · intro w'
                go_simp
                with_reducible rfl
              rotate_left
              · simp only [Act.put, List.setIfInBounds_toArray, List.set_cons_zero, List.set_cons_succ, i64_w, i32_w]
                rfl
              refine pure_ (i := 8) (N := some 48) (v := ?_) (a' := ?_) #[true, true, true, true, true, true, true, true, true] rfl rfl (any_of HT_.out (by kernel_rfl)) (fun _ _ _ h => h) (Or.inl ⟨by rfl, ?_⟩) ?_ ?_
              rotate_left
              · intro w'
                go_simp
                with_reducible rfl
              rotate_left
              · simp only [Act.put, List.setIfInBounds_toArray, List.set_cons_zero, List.set_cons_succ, i64_w, i32_w]
                rfl
              refine done_ (done_of HT_.out (by kernel_rfl)) ?_
              try go_wp2
              go_ret
              exact ⟨by first | rfl | (simp [errW_none, errW_some] <;> rfl) | (simp [*, errW_none, errW_some] <;> rfl), by repeat (first | (with_reducible first | exact HB.out | apply below_alloc | apply pw_below_drewN | apply below_drew1 | refine below_set ?_ GE283.out | refine below_set ?_ GE284.out | refine below_set ?_ GE291.out | refine below_set ?_ GE295.out) | exact HB.out)⟩
      case rest =>
        clear HC40
        try clear c1
        try clear c2
        try clear p2
        try clear c3
        try clear c4
        try clear c5
        try clear c6
        try clear c11
        try clear c12
        try clear c14
        try clear c19
        try clear c20
        try clear c21
        try clear c24
        try clear c26
        try clear c27
        try clear c28
        try clear c31
        try clear c32
        try clear c33
        try clear c34
        try clear c35
        try clear c36
        try clear c37
        try clear c41
        try clear c42
        try clear c42b0
        try clear c43
        try clear c44
        try clear c45
        try clear c47
        try clear c47b0
        try clear c47b1
        try clear c48
        try clear c49
        try clear c50
        try clear c52
        try clear c53
        try clear c54
        try clear c57
        try clear c57b0
        try clear c60
        try clear c60b0
        try clear c60b1
        try clear hcz13_0
        try clear hcz13_1
        try clear hcz15_0
        try clear hcz15_1
        try clear hcz16_0
        try clear hcz16_1
        try clear hcz22_0
        try clear hcz22_1
        try clear hcz29_0
        try clear hcz29_1
        try clear hcz33_0
        try clear hcz33_1
        try clear hcz38_0
        try clear hcz38_1
        try clear hcz46_0
        try clear hcz46_1
        try clear hcz51_0
        try clear hcz51_1
        try clear hcz55_0
        try clear hcz55_1
        try clear hfz13_0
        try clear hfz13_1
        try clear hfz15_0
        try clear hfz15_1
        try clear hfz16_0
        try clear hfz16_1
        try clear hfz22_0
        try clear hfz22_1
        try clear hfz29_0
        try clear hfz29_1
        try clear hfz33_0
        try clear hfz33_1
        try clear hfz38_0
        try clear hfz38_1
        try clear hfz46_0
        try clear hfz46_1
        try clear hfz51_0
        try clear hfz51_1
        try clear hfz55_0
        try clear hfz55_1
        try clear p2
        obtain ⟨kq, HA, HJ39, HO_8, BK283, BK284, BK291, BK295, HB⟩ := hcut
        cases kq with
        | zero => exact absurd HA.out (by simp [numnahlaw03_SpreadBests.j1])
        | succ kj39 =>
          have H := HA.out
          clear HA
          simp only [numnahlaw03_SpreadBests.j1] at H
          have HC65 := Aside0.mk H
          clear H
          go_upto_region 8 with (fail)
          go_cut [54] (fun v54 wc => ∃ (kq : Nat) (x54_64 : Bool), v54 = .bool x54_64 ∧ Aside0 (numnahlaw03_SpreadBests.j2 kq a0 t287 t290 x54_64 t285 t286 = some r) ∧ Aside0 (kq ≤ kj39) ∧ Aside0 (Kd.R (Kd.int .i64) 3 wc w.heap.size (fun _ => True) v288 t287) ∧ Aside0 (wc.heap[gb283]? = some (.cells #[.int .i64 a1_0, .int .i64 a1_1] 26 (0, 0))) ∧ Aside0 (wc.heap[gb284]? = some (.cells #[.int .i64 a2_0, .int .i64 a2_1] 26 (0, 0))) ∧ Aside0 (wc.heap[gb291]? = some (.cells #[.int .i64 t285, .int .i64 t286] 26 (0, 0))) ∧ Aside0 (wc.heap[gb295]? = some (.cells #[.int .i64 t292, .int .i64 t293] 26 (0, 0))) ∧ Aside0 (Below w.heap.size w wc))
          case first =>
            have H := HC65.out
            clear HC65
            by_cases c66 : a0 < 1
            · rw [if_pos c66] at H
              have c66b0 : decide (a0 < 1) = true := decide_eq_true c66
              clear c66
              (first | rw [c66b0] | (simp only [i64_w, i32_w]; rw [c66b0]) | skip)
              have H' := Aside0.mk H
              clear H
              go_wp2
              go_meet
              case rel => exact ⟨_, (true), (by first | rfl | (simp; done) | (simp [*]; done)), H', ⟨by have := HJ5.out; have := HJ39.out; first | omega | exact Nat.le_refl _⟩, ⟨by (with_reducible repeat (first | apply Kd.R_alloc | apply Kd.R_drewN | apply Kd.R_drew)); exact HO_8.out⟩, ⟨by (with_reducible repeat (first | refine blk_drewN ?_ _ | refine blk_drew ?_ | refine blk_alloc ?_ _)); exact BK283.out⟩, ⟨by (with_reducible repeat (first | refine blk_drewN ?_ _ | refine blk_drew ?_ | refine blk_alloc ?_ _)); exact BK284.out⟩, ⟨by (with_reducible repeat (first | refine blk_drewN ?_ _ | refine blk_drew ?_ | refine blk_alloc ?_ _)); exact BK291.out⟩, ⟨by (with_reducible repeat (first | refine blk_drewN ?_ _ | refine blk_drew ?_ | refine blk_alloc ?_ _)); exact BK295.out⟩, ⟨by repeat (first | (with_reducible first | exact HB.out | apply below_alloc | apply pw_below_drewN | apply below_drew1 | refine below_set ?_ GE283.out | refine below_set ?_ GE284.out | refine below_set ?_ GE291.out | refine below_set ?_ GE295.out) | exact HB.out)⟩⟩
            · rw [if_neg c66] at H
              have c66b0 : decide (a0 < 1) = false := decide_eq_false c66
              clear c66
              (first | rw [c66b0] | (simp only [i64_w, i32_w]; rw [c66b0]) | skip)
              have H' := Aside0.mk H
              clear H
              go_wp2
              go_meet
              case rel => exact ⟨_, (decide (a0 > 60)), (by first | rfl | (simp; done) | (simp [*]; done)), H', ⟨by have := HJ5.out; have := HJ39.out; first | omega | exact Nat.le_refl _⟩, ⟨by (with_reducible repeat (first | apply Kd.R_alloc | apply Kd.R_drewN | apply Kd.R_drew)); exact HO_8.out⟩, ⟨by (with_reducible repeat (first | refine blk_drewN ?_ _ | refine blk_drew ?_ | refine blk_alloc ?_ _)); exact BK283.out⟩, ⟨by (with_reducible repeat (first | refine blk_drewN ?_ _ | refine blk_drew ?_ | refine blk_alloc ?_ _)); exact BK284.out⟩, ⟨by (with_reducible repeat (first | refine blk_drewN ?_ _ | refine blk_drew ?_ | refine blk_alloc ?_ _)); exact BK291.out⟩, ⟨by (with_reducible repeat (first | refine blk_drewN ?_ _ | refine blk_drew ?_ | refine blk_alloc ?_ _)); exact BK295.out⟩, ⟨by repeat (first | (with_reducible first | exact HB.out | apply below_alloc | apply pw_below_drewN | apply below_drew1 | refine below_set ?_ GE283.out | refine below_set ?_ GE284.out | refine below_set ?_ GE291.out | refine below_set ?_ GE295.out) | exact HB.out)⟩⟩
          case rest =>
            clear HC65
            try clear c1
            try clear c2
            try clear p2
            try clear c3
            try clear c4
            try clear c5
            try clear c6
            try clear c11
            try clear c12
            try clear c14
            try clear c19
            try clear c20
            try clear c21
            try clear c24
            try clear c26
            try clear c27
            try clear c28
            try clear c31
            try clear c32
            try clear c33
            try clear c34
            try clear c35
            try clear c36
            try clear c37
            try clear c41
            try clear c42
            try clear c42b0
            try clear c43
            try clear c44
            try clear c45
            try clear c47
            try clear c47b0
            try clear c47b1
            try clear c48
            try clear c49
            try clear c50
            try clear c52
            try clear c53
            try clear c54
            try clear c57
            try clear c57b0
            try clear c60
            try clear c60b0
            try clear c60b1
            try clear c66
            try clear c66b0
            try clear hcz13_0
            try clear hcz13_1
            try clear hcz15_0
            try clear hcz15_1
            try clear hcz16_0
            try clear hcz16_1
            try clear hcz22_0
            try clear hcz22_1
            try clear hcz29_0
            try clear hcz29_1
            try clear hcz33_0
            try clear hcz33_1
            try clear hcz38_0
            try clear hcz38_1
            try clear hcz46_0
            try clear hcz46_1
            try clear hcz51_0
            try clear hcz51_1
            try clear hcz55_0
            try clear hcz55_1
            try clear hfz13_0
            try clear hfz13_1
            try clear hfz15_0
            try clear hfz15_1
            try clear hfz16_0
            try clear hfz16_1
            try clear hfz22_0
            try clear hfz22_1
            try clear hfz29_0
            try clear hfz29_1
            try clear hfz33_0
            try clear hfz33_1
            try clear hfz38_0
            try clear hfz38_1
            try clear hfz46_0
            try clear hfz46_1
            try clear hfz51_0
            try clear hfz51_1
            try clear hfz55_0
            try clear hfz55_1
            try clear p2
            obtain ⟨kq, x54_64, rfl, HA, HJ64, HO_8, BK283, BK284, BK291, BK295, HB⟩ := hcut
            cases kq with
            | zero => exact absurd HA.out (by simp [numnahlaw03_SpreadBests.j2])
            | succ kj64 =>
              have H := HA.out
              clear HA
              simp only [numnahlaw03_SpreadBests.j2] at H
              by_cases c67 : x54_64 = true
              · subst c67
                have H1 : (if (t285 == 0 && (t286 == 0)) = true then (if (t287.length : Int) = 0 then (if t290 = 2 then ((numnahlaw03_awake.f kj64).bind fun t300 => (some t300)) else (some false)) else (some false)) else (some false)) = some r := by rw [if_pos rfl] at H; exact H
                clear H
                have H := H1
                clear H1
                by_cases c68 : (t285 == 0 && (t286 == 0)) = true
                · rw [if_pos c68] at H
                  have c68b0 : (t285 == 0 && (t286 == 0)) = true := c68
                  (try (have c68b1 : decide (t285 = 0 && (t286 == 0)) = true := by simpa using c68))
                  (try (have c68b2 : (t285 == 0 && (t286 == 0)) = true := by simpa using c68))
                  clear c68
                  by_cases c69 : (t287.length : Int) = 0
                  · rw [if_pos c69] at H
                    have c69b0 : ((t287.length : Int) == 0) = true := beq_iff_eq.mpr c69
                    have c69b1 : ((t287.length : Int) != 0) = false := bne_eq_false_iff_eq.mpr c69
                    clear c69
                    by_cases c70 : t290 = 2
                    · rw [if_pos c70] at H
                      have c70b0 : (t290 == 2) = true := beq_iff_eq.mpr c70
                      have c70b1 : (t290 != 2) = false := bne_eq_false_iff_eq.mpr c70
                      clear c70
                      replace H := Option.bind_eq_some_iff.mp H
                      obtain ⟨t300, A710, H⟩ := H
                      replace H : (some t300) = some r := H
                      have A71 := Aside0.mk A710
                      clear A710
                      obtain rfl := Option.some.inj H
                      have hnb72 := NB291_283.out
                      have hnc72 := NB283_291.out
                      have hnb73 := NB291_284.out
                      have hnc73 := NB284_291.out
                      have hnb74 := NB291_295.out
                      have hnc74 := NB295_291.out
                      have hcz75_0 : wc.cell? ⟨gb291, 0, none⟩ = some (.int .i64 t285) := (blk_cell BK291.out 0).trans rfl
                      have hcz75_1 : wc.cell? ⟨gb291, 1, none⟩ = some (.int .i64 t286) := (blk_cell BK291.out 1).trans rfl
                      have hfz75_0 := blk_frozen BK291.out 0
                      have hfz75_1 := blk_frozen BK291.out 1
                      obtain ⟨Ao76, co76, eo76⟩ := Kd.R_slice HO_8.out
                      subst eo76
                      go_wp2_with (first | (go_at_call 22; (with_reducible refine (numnahlaw03_awake.calls kj64  t300 _ A71.out).mono ?_); rintro e w77 ⟨rfl, hb⟩; have n0_ := Aside0.mk (Kd.R_below (by (with_reducible repeat (first | apply Kd.R_alloc | apply Kd.R_drewN | apply Kd.R_drew)); exact HO_8.out) hb); have n1_ := Aside0.mk (blk_below (g := gb283) (o := .cells #[.int .i64 a1_0, .int .i64 a1_1] 26 (0, 0)) (by (with_reducible repeat (first | refine blk_drewN ?_ _ | refine blk_drew ?_ | refine blk_alloc ?_ _)); exact BK283.out) hb); have n2_ := Aside0.mk (blk_below (g := gb284) (o := .cells #[.int .i64 a2_0, .int .i64 a2_1] 26 (0, 0)) (by (with_reducible repeat (first | refine blk_drewN ?_ _ | refine blk_drew ?_ | refine blk_alloc ?_ _)); exact BK284.out) hb); have n3_ := Aside0.mk (blk_below (g := gb291) (o := .cells #[.int .i64 t285, .int .i64 t286] 26 (0, 0)) (by (with_reducible repeat (first | refine blk_drewN ?_ _ | refine blk_drew ?_ | refine blk_alloc ?_ _)); exact BK291.out) hb); have n4_ := Aside0.mk (blk_below (g := gb295) (o := .cells #[.int .i64 t292, .int .i64 t293] 26 (0, 0)) (by (with_reducible repeat (first | refine blk_drewN ?_ _ | refine blk_drew ?_ | refine blk_alloc ?_ _)); exact BK295.out) hb); have n5_ := Aside0.mk (below_step (by repeat (first | (with_reducible first | exact HB.out | apply below_alloc | apply pw_below_drewN | apply below_drew1 | refine below_set ?_ GE283.out | refine below_set ?_ GE284.out | refine below_set ?_ GE291.out | refine below_set ?_ GE295.out) | exact HB.out)) hb); clear HO_8; clear BK283; clear BK284; clear BK291; clear BK295; clear HB; have HO_8 := n0_; have BK283 := n1_; have BK284 := n2_; have BK291 := n3_; have BK295 := n4_; have HB := n5_; clear n0_ n1_ n2_ n3_ n4_ n5_; (try clear hb); (try clear hb2); (try clear hk); (try clear hi)))
                      go_ret
                      exact ⟨by first | rfl | (simp [errW_none, errW_some] <;> rfl) | (simp [*, errW_none, errW_some] <;> rfl), by repeat (first | (with_reducible first | exact HB.out | apply below_alloc | apply pw_below_drewN | apply below_drew1 | refine below_set ?_ GE283.out | refine below_set ?_ GE284.out | refine below_set ?_ GE291.out | refine below_set ?_ GE295.out) | exact HB.out)⟩
                    · rw [if_neg c70] at H
                      have c70b0 : (t290 == 2) = false := beq_eq_false_iff_ne.mpr c70
                      have c70b1 : (t290 != 2) = true := bne_iff_ne.mpr c70
                      obtain rfl := Option.some.inj H
                      have hnb78 := NB291_283.out
                      have hnc78 := NB283_291.out
                      have hnb79 := NB291_284.out
                      have hnc79 := NB284_291.out
                      have hnb80 := NB291_295.out
                      have hnc80 := NB295_291.out
                      have hcz81_0 : wc.cell? ⟨gb291, 0, none⟩ = some (.int .i64 t285) := (blk_cell BK291.out 0).trans rfl
                      have hcz81_1 : wc.cell? ⟨gb291, 1, none⟩ = some (.int .i64 t286) := (blk_cell BK291.out 1).trans rfl
                      have hfz81_0 := blk_frozen BK291.out 0
                      have hfz81_1 := blk_frozen BK291.out 1
                      obtain ⟨Ao82, co82, eo82⟩ := Kd.R_slice HO_8.out
                      subst eo82
                      go_wp2
                      go_ret
                      exact ⟨by first | rfl | (simp [errW_none, errW_some] <;> rfl) | (simp [*, errW_none, errW_some] <;> rfl), by repeat (first | (with_reducible first | exact HB.out | apply below_alloc | apply pw_below_drewN | apply below_drew1 | refine below_set ?_ GE283.out | refine below_set ?_ GE284.out | refine below_set ?_ GE291.out | refine below_set ?_ GE295.out) | exact HB.out)⟩
                  · rw [if_neg c69] at H
                    have c69b0 : ((t287.length : Int) == 0) = false := beq_eq_false_iff_ne.mpr c69
                    have c69b1 : ((t287.length : Int) != 0) = true := bne_iff_ne.mpr c69
                    have c69b2 : ¬ (t287 = []) := fun h_ => c69 (by rw [h_]; rfl)
                    obtain rfl := Option.some.inj H
                    have hnb83 := NB291_283.out
                    have hnc83 := NB283_291.out
                    have hnb84 := NB291_284.out
                    have hnc84 := NB284_291.out
                    have hnb85 := NB291_295.out
                    have hnc85 := NB295_291.out
                    have hcz86_0 : wc.cell? ⟨gb291, 0, none⟩ = some (.int .i64 t285) := (blk_cell BK291.out 0).trans rfl
                    have hcz86_1 : wc.cell? ⟨gb291, 1, none⟩ = some (.int .i64 t286) := (blk_cell BK291.out 1).trans rfl
                    have hfz86_0 := blk_frozen BK291.out 0
                    have hfz86_1 := blk_frozen BK291.out 1
                    obtain ⟨Ao87, co87, eo87⟩ := Kd.R_slice HO_8.out
                    subst eo87
                    go_wp2
                    go_ret
                    exact ⟨by first | rfl | (simp [errW_none, errW_some] <;> rfl) | (simp [*, errW_none, errW_some] <;> rfl), by repeat (first | (with_reducible first | exact HB.out | apply below_alloc | apply pw_below_drewN | apply below_drew1 | refine below_set ?_ GE283.out | refine below_set ?_ GE284.out | refine below_set ?_ GE291.out | refine below_set ?_ GE295.out) | exact HB.out)⟩
                · rw [if_neg c68] at H
                  have c68b0 : (t285 == 0 && (t286 == 0)) = false := by simpa using c68
                  (try (have c68b1 : decide (t285 = 0 && (t286 == 0)) = false := by simpa using c68))
                  (try (have c68b2 : (t285 == 0 && (t286 == 0)) = false := by simpa using c68))
                  (try (have c68b3 : ¬ (t285 = 0 && (t286 == 0)) := by simpa using c68))
                  clear c68
                  obtain rfl := Option.some.inj H
                  have hnb88 := NB291_283.out
                  have hnc88 := NB283_291.out
                  have hnb89 := NB291_284.out
                  have hnc89 := NB284_291.out
                  have hnb90 := NB291_295.out
                  have hnc90 := NB295_291.out
                  have hcz91_0 : wc.cell? ⟨gb291, 0, none⟩ = some (.int .i64 t285) := (blk_cell BK291.out 0).trans rfl
                  have hcz91_1 : wc.cell? ⟨gb291, 1, none⟩ = some (.int .i64 t286) := (blk_cell BK291.out 1).trans rfl
                  have hfz91_0 := blk_frozen BK291.out 0
                  have hfz91_1 := blk_frozen BK291.out 1
                  go_wp2
                  go_ret
                  exact ⟨by first | rfl | (simp [errW_none, errW_some] <;> rfl) | (simp [*, errW_none, errW_some] <;> rfl), by repeat (first | (with_reducible first | exact HB.out | apply below_alloc | apply pw_below_drewN | apply below_drew1 | refine below_set ?_ GE283.out | refine below_set ?_ GE284.out | refine below_set ?_ GE291.out | refine below_set ?_ GE295.out) | exact HB.out)⟩
              · replace c67 := Bool.eq_false_iff.mpr c67
                subst c67
                have H1 : (if (!(t285 == 1) || (!(t286 == (wrap64 (2 * a0))))) = true then (numnahlaw03_SpreadBests.j3 kj64 a0 t287 true) else (if (t287.length : Int) = a0 then (numnahlaw03_SpreadBests.j3 kj64 a0 t287 (t290 != 0)) else (numnahlaw03_SpreadBests.j3 kj64 a0 t287 true))) = some r := by rw [if_neg (show ¬ (false = true) by decide)] at H; exact H
                clear H
                have H := H1
                clear H1
                have HC92 := Aside0.mk H
                clear H
                go_upto_region 10 with (fail)
                go_cut [84] (fun v84 wc => ∃ (kq : Nat) (x84_91 : Bool), v84 = .bool x84_91 ∧ Aside0 (numnahlaw03_SpreadBests.j3 kq a0 t287 x84_91 = some r) ∧ Aside0 (kq ≤ kj64) ∧ Aside0 (Kd.R (Kd.int .i64) 3 wc w.heap.size (fun _ => True) v288 t287) ∧ Aside0 (wc.heap[gb283]? = some (.cells #[.int .i64 a1_0, .int .i64 a1_1] 26 (0, 0))) ∧ Aside0 (wc.heap[gb284]? = some (.cells #[.int .i64 a2_0, .int .i64 a2_1] 26 (0, 0))) ∧ Aside0 (wc.heap[gb291]? = some (.cells #[.int .i64 t285, .int .i64 t286] 26 (0, 0))) ∧ Aside0 (wc.heap[gb295]? = some (.cells #[.int .i64 t292, .int .i64 t293] 26 (0, 0))) ∧ Aside0 (Below w.heap.size w wc))
                case first =>
                  have H := HC92.out
                  clear HC92
                  by_cases c93 : (!(t285 == 1) || (!(t286 == (wrap64 (2 * a0))))) = true
                  · rw [if_pos c93] at H
                    have c93b0 : (!(t285 == 1) || (!(t286 == (wrap64 (2 * a0))))) = true := c93
                    clear c93
                    (first | rw [c93b0] | (simp only [i64_w, i32_w]; rw [c93b0]) | skip)
                    have H' := Aside0.mk H
                    clear H
                    have hnb94 := NB291_283.out
                    have hnc94 := NB283_291.out
                    have hnb95 := NB291_284.out
                    have hnc95 := NB284_291.out
                    have hnb96 := NB291_295.out
                    have hnc96 := NB295_291.out
                    have hcz97_0 : wc.cell? ⟨gb291, 0, none⟩ = some (.int .i64 t285) := (blk_cell BK291.out 0).trans rfl
                    have hcz97_1 : wc.cell? ⟨gb291, 1, none⟩ = some (.int .i64 t286) := (blk_cell BK291.out 1).trans rfl
                    have hfz97_0 := blk_frozen BK291.out 0
                    have hfz97_1 := blk_frozen BK291.out 1
                    go_wp2
                    go_meet
                    case rel => exact ⟨_, (true), (by first | rfl | (simp; done) | (simp [*]; done)), H', ⟨by have := HJ5.out; have := HJ39.out; have := HJ64.out; first | omega | exact Nat.le_refl _⟩, ⟨by (with_reducible repeat (first | apply Kd.R_alloc | apply Kd.R_drewN | apply Kd.R_drew)); exact HO_8.out⟩, ⟨by (with_reducible repeat (first | refine blk_drewN ?_ _ | refine blk_drew ?_ | refine blk_alloc ?_ _)); exact BK283.out⟩, ⟨by (with_reducible repeat (first | refine blk_drewN ?_ _ | refine blk_drew ?_ | refine blk_alloc ?_ _)); exact BK284.out⟩, ⟨by (with_reducible repeat (first | refine blk_drewN ?_ _ | refine blk_drew ?_ | refine blk_alloc ?_ _)); exact BK291.out⟩, ⟨by (with_reducible repeat (first | refine blk_drewN ?_ _ | refine blk_drew ?_ | refine blk_alloc ?_ _)); exact BK295.out⟩, ⟨by repeat (first | (with_reducible first | exact HB.out | apply below_alloc | apply pw_below_drewN | apply below_drew1 | refine below_set ?_ GE283.out | refine below_set ?_ GE284.out | refine below_set ?_ GE291.out | refine below_set ?_ GE295.out) | exact HB.out)⟩⟩
                  · rw [if_neg c93] at H
                    have c93b0 : (!(t285 == 1) || (!(t286 == (wrap64 (2 * a0))))) = false := by simpa using c93
                    clear c93
                    (first | rw [c93b0] | (simp only [i64_w, i32_w]; rw [c93b0]) | skip)
                    by_cases c98 : (t287.length : Int) = a0
                    · rw [if_pos c98] at H
                      have c98b0 : ((t287.length : Int) == a0) = true := beq_iff_eq.mpr c98
                      have c98b1 : ((t287.length : Int) != a0) = false := bne_eq_false_iff_eq.mpr c98
                      clear c98
                      have H' := Aside0.mk H
                      clear H
                      have hnb99 := NB291_283.out
                      have hnc99 := NB283_291.out
                      have hnb100 := NB291_284.out
                      have hnc100 := NB284_291.out
                      have hnb101 := NB291_295.out
                      have hnc101 := NB295_291.out
                      have hcz102_0 : wc.cell? ⟨gb291, 0, none⟩ = some (.int .i64 t285) := (blk_cell BK291.out 0).trans rfl
                      have hcz102_1 : wc.cell? ⟨gb291, 1, none⟩ = some (.int .i64 t286) := (blk_cell BK291.out 1).trans rfl
                      have hfz102_0 := blk_frozen BK291.out 0
                      have hfz102_1 := blk_frozen BK291.out 1
                      obtain ⟨Ao103, co103, eo103⟩ := Kd.R_slice HO_8.out
                      subst eo103
                      go_wp2
                      go_meet
                      case rel => exact ⟨_, ((t290 != 0)), (by first | rfl | (simp; done) | (simp [*]; done)), H', ⟨by have := HJ5.out; have := HJ39.out; have := HJ64.out; first | omega | exact Nat.le_refl _⟩, ⟨by (with_reducible repeat (first | apply Kd.R_alloc | apply Kd.R_drewN | apply Kd.R_drew)); exact HO_8.out⟩, ⟨by (with_reducible repeat (first | refine blk_drewN ?_ _ | refine blk_drew ?_ | refine blk_alloc ?_ _)); exact BK283.out⟩, ⟨by (with_reducible repeat (first | refine blk_drewN ?_ _ | refine blk_drew ?_ | refine blk_alloc ?_ _)); exact BK284.out⟩, ⟨by (with_reducible repeat (first | refine blk_drewN ?_ _ | refine blk_drew ?_ | refine blk_alloc ?_ _)); exact BK291.out⟩, ⟨by (with_reducible repeat (first | refine blk_drewN ?_ _ | refine blk_drew ?_ | refine blk_alloc ?_ _)); exact BK295.out⟩, ⟨by repeat (first | (with_reducible first | exact HB.out | apply below_alloc | apply pw_below_drewN | apply below_drew1 | refine below_set ?_ GE283.out | refine below_set ?_ GE284.out | refine below_set ?_ GE291.out | refine below_set ?_ GE295.out) | exact HB.out)⟩⟩
                    · rw [if_neg c98] at H
                      have c98b0 : ((t287.length : Int) == a0) = false := beq_eq_false_iff_ne.mpr c98
                      have c98b1 : ((t287.length : Int) != a0) = true := bne_iff_ne.mpr c98
                      have H' := Aside0.mk H
                      clear H
                      have hnb104 := NB291_283.out
                      have hnc104 := NB283_291.out
                      have hnb105 := NB291_284.out
                      have hnc105 := NB284_291.out
                      have hnb106 := NB291_295.out
                      have hnc106 := NB295_291.out
                      have hcz107_0 : wc.cell? ⟨gb291, 0, none⟩ = some (.int .i64 t285) := (blk_cell BK291.out 0).trans rfl
                      have hcz107_1 : wc.cell? ⟨gb291, 1, none⟩ = some (.int .i64 t286) := (blk_cell BK291.out 1).trans rfl
                      have hfz107_0 := blk_frozen BK291.out 0
                      have hfz107_1 := blk_frozen BK291.out 1
                      obtain ⟨Ao108, co108, eo108⟩ := Kd.R_slice HO_8.out
                      subst eo108
                      go_wp2
                      go_meet
                      case rel => exact ⟨_, (true), (by first | rfl | (simp; done) | (simp [*]; done)), H', ⟨by have := HJ5.out; have := HJ39.out; have := HJ64.out; first | omega | exact Nat.le_refl _⟩, ⟨by (with_reducible repeat (first | apply Kd.R_alloc | apply Kd.R_drewN | apply Kd.R_drew)); exact HO_8.out⟩, ⟨by (with_reducible repeat (first | refine blk_drewN ?_ _ | refine blk_drew ?_ | refine blk_alloc ?_ _)); exact BK283.out⟩, ⟨by (with_reducible repeat (first | refine blk_drewN ?_ _ | refine blk_drew ?_ | refine blk_alloc ?_ _)); exact BK284.out⟩, ⟨by (with_reducible repeat (first | refine blk_drewN ?_ _ | refine blk_drew ?_ | refine blk_alloc ?_ _)); exact BK291.out⟩, ⟨by (with_reducible repeat (first | refine blk_drewN ?_ _ | refine blk_drew ?_ | refine blk_alloc ?_ _)); exact BK295.out⟩, ⟨by repeat (first | (with_reducible first | exact HB.out | apply below_alloc | apply pw_below_drewN | apply below_drew1 | refine below_set ?_ GE283.out | refine below_set ?_ GE284.out | refine below_set ?_ GE291.out | refine below_set ?_ GE295.out) | exact HB.out)⟩⟩
                case rest =>
                  clear HC92
                  try clear c1
                  try clear c2
                  try clear p2
                  try clear c3
                  try clear c4
                  try clear c5
                  try clear c6
                  try clear p6
                  try clear c7
                  try clear c8
                  try clear c9
                  try clear c10
                  try clear c11
                  try clear c12
                  try clear c14
                  try clear c19
                  try clear c20
                  try clear c21
                  try clear c24
                  try clear c26
                  try clear c27
                  try clear c28
                  try clear c31
                  try clear c32
                  try clear c33
                  try clear c34
                  try clear c35
                  try clear c36
                  try clear c37
                  try clear c41
                  try clear c42
                  try clear c42b0
                  try clear c43
                  try clear c44
                  try clear c45
                  try clear c47
                  try clear c47b0
                  try clear c47b1
                  try clear c48
                  try clear c49
                  try clear c50
                  try clear c52
                  try clear c53
                  try clear c54
                  try clear c57
                  try clear c57b0
                  try clear c60
                  try clear c60b0
                  try clear c60b1
                  try clear p64
                  try clear c66
                  try clear c66b0
                  try clear c67
                  try clear c68
                  try clear c68b0
                  try clear c68b1
                  try clear c68b2
                  try clear c69
                  try clear c69b0
                  try clear c69b1
                  try clear c69b2
                  try clear c70
                  try clear c70b0
                  try clear c70b1
                  try clear c72
                  try clear c73
                  try clear c74
                  try clear c78
                  try clear c79
                  try clear c80
                  try clear c83
                  try clear c84
                  try clear c85
                  try clear c88
                  try clear c89
                  try clear c90
                  try clear c93
                  try clear c93b0
                  try clear c94
                  try clear c95
                  try clear c96
                  try clear c98
                  try clear c98b0
                  try clear c98b1
                  try clear c99
                  try clear c100
                  try clear c101
                  try clear c104
                  try clear c105
                  try clear c106
                  try clear hcz102_0
                  try clear hcz102_1
                  try clear hcz107_0
                  try clear hcz107_1
                  try clear hcz13_0
                  try clear hcz13_1
                  try clear hcz15_0
                  try clear hcz15_1
                  try clear hcz16_0
                  try clear hcz16_1
                  try clear hcz22_0
                  try clear hcz22_1
                  try clear hcz29_0
                  try clear hcz29_1
                  try clear hcz33_0
                  try clear hcz33_1
                  try clear hcz38_0
                  try clear hcz38_1
                  try clear hcz46_0
                  try clear hcz46_1
                  try clear hcz51_0
                  try clear hcz51_1
                  try clear hcz55_0
                  try clear hcz55_1
                  try clear hcz75_0
                  try clear hcz75_1
                  try clear hcz81_0
                  try clear hcz81_1
                  try clear hcz86_0
                  try clear hcz86_1
                  try clear hcz91_0
                  try clear hcz91_1
                  try clear hcz97_0
                  try clear hcz97_1
                  try clear hfz102_0
                  try clear hfz102_1
                  try clear hfz107_0
                  try clear hfz107_1
                  try clear hfz13_0
                  try clear hfz13_1
                  try clear hfz15_0
                  try clear hfz15_1
                  try clear hfz16_0
                  try clear hfz16_1
                  try clear hfz22_0
                  try clear hfz22_1
                  try clear hfz29_0
                  try clear hfz29_1
                  try clear hfz33_0
                  try clear hfz33_1
                  try clear hfz38_0
                  try clear hfz38_1
                  try clear hfz46_0
                  try clear hfz46_1
                  try clear hfz51_0
                  try clear hfz51_1
                  try clear hfz55_0
                  try clear hfz55_1
                  try clear hfz75_0
                  try clear hfz75_1
                  try clear hfz81_0
                  try clear hfz81_1
                  try clear hfz86_0
                  try clear hfz86_1
                  try clear hfz91_0
                  try clear hfz91_1
                  try clear hfz97_0
                  try clear hfz97_1
                  try clear p2
                  obtain ⟨kq, x84_91, rfl, HA, HJ91, HO_8, BK283, BK284, BK291, BK295, HB⟩ := hcut
                  cases kq with
                  | zero => exact absurd HA.out (by simp [numnahlaw03_SpreadBests.j3])
                  | succ kj91 =>
                    have H := HA.out
                    clear HA
                    simp only [numnahlaw03_SpreadBests.j3] at H
                    by_cases c109 : x84_91 = true
                    · subst c109
                      have H1 : (some false) = some r := by rw [if_pos rfl] at H; exact H
                      clear H
                      have H := H1
                      clear H1
                      obtain rfl := Option.some.inj H
                      go_wp2
                      go_ret
                      exact ⟨by first | rfl | (simp [errW_none, errW_some] <;> rfl) | (simp [*, errW_none, errW_some] <;> rfl), by repeat (first | (with_reducible first | exact HB.out | apply below_alloc | apply pw_below_drewN | apply below_drew1 | refine below_set ?_ GE283.out | refine below_set ?_ GE284.out | refine below_set ?_ GE291.out | refine below_set ?_ GE295.out) | exact HB.out)⟩
                    · replace c109 := Bool.eq_false_iff.mpr c109
                      subst c109
                      have H1 : (numnahlaw03_SpreadBests.l0 kj91 a0 t287 0) = some r := by rw [if_neg (show ¬ (false = true) by decide)] at H; exact H
                      clear H
                      have H := H1
                      clear H1
                      have H' := Aside0.mk H
                      clear H
                      go_wp2
                      go_loopg [12] kj91 (fun kq v12 w' => ∃ (x12_5 : Int), v12 = .int .i64 x12_5 ∧ Aside0 (numnahlaw03_SpreadBests.l0 kq a0 t287 x12_5 = some r) ∧ Aside0 (kq ≤ kj91) ∧ Aside0 (Kd.R (Kd.int .i64) 3 w' w.heap.size (fun _ => True) v288 t287) ∧ Aside0 (w'.heap[gb283]? = some (.cells #[.int .i64 a1_0, .int .i64 a1_1] 26 (0, 0))) ∧ Aside0 (w'.heap[gb284]? = some (.cells #[.int .i64 a2_0, .int .i64 a2_1] 26 (0, 0))) ∧ Aside0 (w'.heap[gb291]? = some (.cells #[.int .i64 t285, .int .i64 t286] 26 (0, 0))) ∧ Aside0 (w'.heap[gb295]? = some (.cells #[.int .i64 t292, .int .i64 t293] 26 (0, 0))) ∧ Aside0 (Below w.heap.size w w'))
                      case atStart => exact ⟨(0), (by first | rfl | (simp; done) | (simp [*]; done)), H', ⟨Nat.le_refl _⟩, ⟨by (with_reducible repeat (first | apply Kd.R_alloc | apply Kd.R_drewN | apply Kd.R_drew)); exact HO_8.out⟩, ⟨by (with_reducible repeat (first | refine blk_drewN ?_ _ | refine blk_drew ?_ | refine blk_alloc ?_ _)); exact BK283.out⟩, ⟨by (with_reducible repeat (first | refine blk_drewN ?_ _ | refine blk_drew ?_ | refine blk_alloc ?_ _)); exact BK284.out⟩, ⟨by (with_reducible repeat (first | refine blk_drewN ?_ _ | refine blk_drew ?_ | refine blk_alloc ?_ _)); exact BK291.out⟩, ⟨by (with_reducible repeat (first | refine blk_drewN ?_ _ | refine blk_drew ?_ | refine blk_alloc ?_ _)); exact BK295.out⟩, ⟨by repeat (first | (with_reducible first | exact HB.out | apply below_alloc | apply pw_below_drewN | apply below_drew1 | refine below_set ?_ GE283.out | refine below_set ?_ GE284.out | refine below_set ?_ GE291.out | refine below_set ?_ GE295.out) | exact HB.out)⟩⟩
                      case round =>
                        clear H'
                        try clear c1
                        try clear c2
                        try clear p2
                        try clear c3
                        try clear c4
                        try clear c5
                        try clear c6
                        try clear p6
                        try clear c7
                        try clear c8
                        try clear c9
                        try clear c10
                        try clear c11
                        try clear c12
                        try clear c14
                        try clear c19
                        try clear c20
                        try clear c21
                        try clear c24
                        try clear c26
                        try clear c27
                        try clear c28
                        try clear c31
                        try clear c32
                        try clear c33
                        try clear c34
                        try clear c35
                        try clear c36
                        try clear c37
                        try clear c41
                        try clear c42
                        try clear c42b0
                        try clear c43
                        try clear c44
                        try clear c45
                        try clear c47
                        try clear c47b0
                        try clear c47b1
                        try clear c48
                        try clear c49
                        try clear c50
                        try clear c52
                        try clear c53
                        try clear c54
                        try clear c57
                        try clear c57b0
                        try clear c60
                        try clear c60b0
                        try clear c60b1
                        try clear p64
                        try clear c66
                        try clear c66b0
                        try clear c67
                        try clear c68
                        try clear c68b0
                        try clear c68b1
                        try clear c68b2
                        try clear c69
                        try clear c69b0
                        try clear c69b1
                        try clear c69b2
                        try clear c70
                        try clear c70b0
                        try clear c70b1
                        try clear c72
                        try clear c73
                        try clear c74
                        try clear c78
                        try clear c79
                        try clear c80
                        try clear c83
                        try clear c84
                        try clear c85
                        try clear c88
                        try clear c89
                        try clear c90
                        try clear c93
                        try clear c93b0
                        try clear c94
                        try clear c95
                        try clear c96
                        try clear c98
                        try clear c98b0
                        try clear c98b1
                        try clear c99
                        try clear c100
                        try clear c101
                        try clear c104
                        try clear c105
                        try clear c106
                        try clear c109
                        try clear hcz102_0
                        try clear hcz102_1
                        try clear hcz107_0
                        try clear hcz107_1
                        try clear hcz13_0
                        try clear hcz13_1
                        try clear hcz15_0
                        try clear hcz15_1
                        try clear hcz16_0
                        try clear hcz16_1
                        try clear hcz22_0
                        try clear hcz22_1
                        try clear hcz29_0
                        try clear hcz29_1
                        try clear hcz33_0
                        try clear hcz33_1
                        try clear hcz38_0
                        try clear hcz38_1
                        try clear hcz46_0
                        try clear hcz46_1
                        try clear hcz51_0
                        try clear hcz51_1
                        try clear hcz55_0
                        try clear hcz55_1
                        try clear hcz75_0
                        try clear hcz75_1
                        try clear hcz81_0
                        try clear hcz81_1
                        try clear hcz86_0
                        try clear hcz86_1
                        try clear hcz91_0
                        try clear hcz91_1
                        try clear hcz97_0
                        try clear hcz97_1
                        try clear hfz102_0
                        try clear hfz102_1
                        try clear hfz107_0
                        try clear hfz107_1
                        try clear hfz13_0
                        try clear hfz13_1
                        try clear hfz15_0
                        try clear hfz15_1
                        try clear hfz16_0
                        try clear hfz16_1
                        try clear hfz22_0
                        try clear hfz22_1
                        try clear hfz29_0
                        try clear hfz29_1
                        try clear hfz33_0
                        try clear hfz33_1
                        try clear hfz38_0
                        try clear hfz38_1
                        try clear hfz46_0
                        try clear hfz46_1
                        try clear hfz51_0
                        try clear hfz51_1
                        try clear hfz55_0
                        try clear hfz55_1
                        try clear hfz75_0
                        try clear hfz75_1
                        try clear hfz81_0
                        try clear hfz81_1
                        try clear hfz86_0
                        try clear hfz86_1
                        try clear hfz91_0
                        try clear hfz91_1
                        try clear hfz97_0
                        try clear hfz97_1
                        try clear p2
                        try clear p6
                        try clear p64
                        obtain ⟨x12_5, rfl, HA, HK5, HO_8, BK283, BK284, BK291, BK295, HB⟩ := hrel
                        cases gk with
                        | zero => exact absurd HA.out (by simp [numnahlaw03_SpreadBests.l0])
                        | succ k5 =>
                          have H := HA.out
                          clear HA
                          simp only [numnahlaw03_SpreadBests.l0] at H
                          by_cases c110 : x12_5 < a0
                          · rw [if_pos c110] at H
                            have c110b0 : decide (x12_5 < a0) = true := decide_eq_true c110
                            clear c110
                            by_cases c111 : 0 ≤ x12_5
                            · rw [if_pos c111] at H
                              have c111b0 : decide (0 ≤ x12_5) = true := decide_eq_true c111
                              clear c111
                              by_cases c112 : x12_5 < (t287.length : Int)
                              · rw [if_pos c112] at H
                                have c112b0 : decide (x12_5 < (t287.length : Int)) = true := decide_eq_true c112
                                clear c112
                                by_cases c113 : (rd t287 x12_5) = (wrap64 ((wrap64 (2 * x12_5)) + 1))
                                · rw [if_pos c113] at H
                                  have c113b0 : ((rd t287 x12_5) == (wrap64 ((wrap64 (2 * x12_5)) + 1))) = true := beq_iff_eq.mpr c113
                                  have c113b1 : ((rd t287 x12_5) != (wrap64 ((wrap64 (2 * x12_5)) + 1))) = false := bne_eq_false_iff_eq.mpr c113
                                  clear c113
                                  have H' := Aside0.mk H
                                  clear H
                                  obtain ⟨Ao114, co114, eo114⟩ := Kd.R_slice HO_8.out
                                  subst eo114
                                  have p301 : 0 ≤ (x12_5 : Int) := of_decide_eq_true (by first | (with_reducible assumption) | assumption)
                                  have q301 : x12_5 < (t287.length : Int) := of_decide_eq_true (by first | (with_reducible assumption) | assumption)
                                  obtain ⟨ad301, e301, hx301_0⟩ := Kd.at_int (Kd.R_reads' HO_8.out).2.2 x12_5 p301 q301
                                  cases e301
                                  replace p301 := eq_true p301
                                  replace q301 := eq_true q301
                                  go_wp2
                                  go_roundg k5
                                  case measure => have := HJ5.out; have := HJ39.out; have := HJ64.out; have := HJ91.out; have := HK5.out; omega
                                  case rel => exact ⟨(wrap64 (x12_5 + 1)), (by first | rfl | (simp; done) | (simp [*]; done)), H', ⟨by have := HJ5.out; have := HJ39.out; have := HJ64.out; have := HJ91.out; have := HK5.out; omega⟩, ⟨by (with_reducible repeat (first | apply Kd.R_alloc | apply Kd.R_drewN | apply Kd.R_drew)); exact HO_8.out⟩, ⟨by (with_reducible repeat (first | refine blk_drewN ?_ _ | refine blk_drew ?_ | refine blk_alloc ?_ _)); exact BK283.out⟩, ⟨by (with_reducible repeat (first | refine blk_drewN ?_ _ | refine blk_drew ?_ | refine blk_alloc ?_ _)); exact BK284.out⟩, ⟨by (with_reducible repeat (first | refine blk_drewN ?_ _ | refine blk_drew ?_ | refine blk_alloc ?_ _)); exact BK291.out⟩, ⟨by (with_reducible repeat (first | refine blk_drewN ?_ _ | refine blk_drew ?_ | refine blk_alloc ?_ _)); exact BK295.out⟩, ⟨by repeat (first | (with_reducible first | exact HB.out | apply below_alloc | apply pw_below_drewN | apply below_drew1 | refine below_set ?_ GE283.out | refine below_set ?_ GE284.out | refine below_set ?_ GE291.out | refine below_set ?_ GE295.out) | exact HB.out)⟩⟩
                                · rw [if_neg c113] at H
                                  have c113b0 : ((rd t287 x12_5) == (wrap64 ((wrap64 (2 * x12_5)) + 1))) = false := beq_eq_false_iff_ne.mpr c113
                                  have c113b1 : ((rd t287 x12_5) != (wrap64 ((wrap64 (2 * x12_5)) + 1))) = true := bne_iff_ne.mpr c113
                                  obtain rfl := Option.some.inj H
                                  obtain ⟨Ao115, co115, eo115⟩ := Kd.R_slice HO_8.out
                                  subst eo115
                                  have p301 : 0 ≤ (x12_5 : Int) := of_decide_eq_true (by first | (with_reducible assumption) | assumption)
                                  have q301 : x12_5 < (t287.length : Int) := of_decide_eq_true (by first | (with_reducible assumption) | assumption)
                                  obtain ⟨ad301, e301, hx301_0⟩ := Kd.at_int (Kd.R_reads' HO_8.out).2.2 x12_5 p301 q301
                                  cases e301
                                  replace p301 := eq_true p301
                                  replace q301 := eq_true q301
                                  go_wp2
                                  go_ret
                                  exact ⟨by first | rfl | (simp [errW_none, errW_some] <;> rfl) | (simp [*, errW_none, errW_some] <;> rfl), by repeat (first | (with_reducible first | exact HB.out | apply below_alloc | apply pw_below_drewN | apply below_drew1 | refine below_set ?_ GE283.out | refine below_set ?_ GE284.out | refine below_set ?_ GE291.out | refine below_set ?_ GE295.out) | exact HB.out)⟩
                              · rw [if_neg c112] at H
                                exact absurd H (by simp)
                            · rw [if_neg c111] at H
                              exact absurd H (by simp)
                          · rw [if_neg c110] at H
                            have c110b0 : decide (x12_5 < a0) = false := decide_eq_false c110
                            clear c110
                            replace H := Option.bind_eq_some_iff.mp H
                            obtain ⟨t302, A1160, H⟩ := H
                            replace H : (some t302) = some r := H
                            have A116 := Aside0.mk A1160
                            clear A1160
                            obtain rfl := Option.some.inj H
                            go_wp2_with (first | ((with_reducible refine gate_callee (f := 22) rfl ?_); refine goesL_ (some 98) rfl rfl Try.func22 (by kernel_rfl) rfl #[] rfl (by (try simp only [List.map_toArray, List.map_cons, List.map_nil]); first | done | rfl | (simp only [List.length_drop, List.length_take]; rfl)) ?_; (with_reducible refine (numnahlaw03_awake.calls k5  t302 _ A116.out).mono ?_); rintro e w117 ⟨rfl, hb⟩; refine ⟨_, rfl, ?_⟩; have n0_ := Aside0.mk (Kd.R_below (by (with_reducible repeat (first | apply Kd.R_alloc | apply Kd.R_drewN | apply Kd.R_drew)); exact HO_8.out) hb); have n1_ := Aside0.mk (blk_below (g := gb283) (o := .cells #[.int .i64 a1_0, .int .i64 a1_1] 26 (0, 0)) (by (with_reducible repeat (first | refine blk_drewN ?_ _ | refine blk_drew ?_ | refine blk_alloc ?_ _)); exact BK283.out) hb); have n2_ := Aside0.mk (blk_below (g := gb284) (o := .cells #[.int .i64 a2_0, .int .i64 a2_1] 26 (0, 0)) (by (with_reducible repeat (first | refine blk_drewN ?_ _ | refine blk_drew ?_ | refine blk_alloc ?_ _)); exact BK284.out) hb); have n3_ := Aside0.mk (blk_below (g := gb291) (o := .cells #[.int .i64 t285, .int .i64 t286] 26 (0, 0)) (by (with_reducible repeat (first | refine blk_drewN ?_ _ | refine blk_drew ?_ | refine blk_alloc ?_ _)); exact BK291.out) hb); have n4_ := Aside0.mk (blk_below (g := gb295) (o := .cells #[.int .i64 t292, .int .i64 t293] 26 (0, 0)) (by (with_reducible repeat (first | refine blk_drewN ?_ _ | refine blk_drew ?_ | refine blk_alloc ?_ _)); exact BK295.out) hb); have n5_ := Aside0.mk (below_step (by repeat (first | (with_reducible first | exact HB.out | apply below_alloc | apply pw_below_drewN | apply below_drew1 | refine below_set ?_ GE283.out | refine below_set ?_ GE284.out | refine below_set ?_ GE291.out | refine below_set ?_ GE295.out) | exact HB.out)) hb); clear HO_8; clear BK283; clear BK284; clear BK291; clear BK295; clear HB; have HO_8 := n0_; have BK283 := n1_; have BK284 := n2_; have BK291 := n3_; have BK295 := n4_; have HB := n5_; clear n0_ n1_ n2_ n3_ n4_ n5_; (try clear hb); (try clear hb2); (try clear hk); (try clear hi)))
                            go_ret
                            exact ⟨by first | rfl | (simp [errW_none, errW_some] <;> rfl) | (simp [*, errW_none, errW_some] <;> rfl), by repeat (first | (with_reducible first | exact HB.out | apply below_alloc | apply pw_below_drewN | apply below_drew1 | refine below_set ?_ GE283.out | refine below_set ?_ GE284.out | refine below_set ?_ GE291.out | refine below_set ?_ GE295.out) | exact HB.out)⟩

end Go.Proofs.Ythngclneffngbaa.Pr
