-- Laid by wip/tools/inj.py of this project, which drives the kit's printer. Lean checks it.
import Derived.Test.YthngclneffngbaaPr0
import Derived.Test.YthngclneffngbaaHGaps
import Derived.Test.YthngclneffngbaaHMove
import Derived.Test.YthngclneffngbaaPrA1
import Derived.Test.YthngclneffngbaaPrA2
import Derived.Test.YthngclneffngbaaPrB1
namespace Go.Proofs.Ythngclneffngbaa.Pr
open Go.RowKit Go.Proofs.YthngclneffngbaaW.PrintWords Go.Proofs.YthngclneffngbaaW.PrintLast Go.Proofs.YthngclneffngbaaW.PrintMore
attribute [local go_sem] max2_int min2_int max_two min_two max_three min_three max_four min_four   -- for this text's walks alone
set_option linter.unusedVariables false
set_option linter.unusedSimpArgs false

/-! ### numnahlaw03_SpreadMoved: function 14 -/
mutual
def numnahlaw03_SpreadMoved.j0 : Nat → Int → List Int → List Int → Bool → Option (Bool)
  | 0, _, _, _, _ => none
  | k + 1, x0, x7, x12, x87 => if x87 = true then (some false) else (numnahlaw03_SpreadMoved.l0 k x0 x7 x12 0 0)
def numnahlaw03_SpreadMoved.l0 : Nat → Int → List Int → List Int → Int → Int → Option (Bool)
  | 0, _, _, _, _, _ => none
  | k + 1, x0, x7, x12, x16, x17 => if x17 < (x7.length : Int) then (numnahlaw03_SpreadMoved.l1 k x0 x7 x12 x16 x17 true 0) else (numnahlaw03_SpreadMoved.l2 k x0 x12 x16 0)
def numnahlaw03_SpreadMoved.l1 : Nat → Int → List Int → List Int → Int → Int → Bool → Int → Option (Bool)
  | 0, _, _, _, _, _, _, _ => none
  | k + 1, x0, x7, x12, x16, x17, x18, x19 => if x19 < x17 then (if x18 = true then (if 0 ≤ x19 then (if x19 < (x7.length : Int) then (if 0 ≤ x17 then (if x17 < (x7.length : Int) then (numnahlaw03_SpreadMoved.l1 k x0 x7 x12 x16 x17 ((rd x7 x19) != (rd x7 x17)) (wrap64 (x19 + 1))) else (none)) else (none)) else (none)) else (none)) else (numnahlaw03_SpreadMoved.l1 k x0 x7 x12 x16 x17 false (wrap64 (x19 + 1)))) else (if x18 = true then (numnahlaw03_SpreadMoved.l0 k x0 x7 x12 (wrap64 (x16 + 1)) (wrap64 (x17 + 1))) else (numnahlaw03_SpreadMoved.l0 k x0 x7 x12 x16 (wrap64 (x17 + 1))))
def numnahlaw03_SpreadMoved.l2 : Nat → Int → List Int → Int → Int → Option (Bool)
  | 0, _, _, _, _ => none
  | k + 1, x0, x12, x16, x20 => if x20 < (x12.length : Int) then (if 0 ≤ x20 then (if (rd x12 x20) < 1 then (some false) else (if (rd x12 x20) > x0 then (some false) else (if x20 > 0 then (if 0 ≤ (wrap64 (x20 - 1)) then (if (wrap64 (x20 - 1)) < (x12.length : Int) then (if (rd x12 (wrap64 (x20 - 1))) ≥ (rd x12 x20) then (some false) else (numnahlaw03_SpreadMoved.l2 k x0 x12 x16 (wrap64 (x20 + 1)))) else (none)) else (none)) else (numnahlaw03_SpreadMoved.l2 k x0 x12 x16 (wrap64 (x20 + 1)))))) else (none)) else (if 0 < (x12.length : Int) then (if (wrap64 ((rd x12 0) * x16)) ≤ x0 then (if 0 ≤ (wrap64 ((x12.length : Int) - 1)) then (if (wrap64 ((x12.length : Int) - 1)) < (x12.length : Int) then (if (wrap64 ((rd x12 (wrap64 ((x12.length : Int) - 1))) * x16)) ≥ x0 then ((numnahlaw03_awake.f k).bind fun t711 => (some t711)) else (some false)) else (none)) else (none)) else (some false)) else (none))
end
def numnahlaw03_SpreadMoved.f (k : Nat) (a0 : Int) (l1 : List Int) (a2 : Int) : Option (Bool) := (numnahlaw03_tame.f k a0 l1 1000).bind fun bt680 => ((numnahlaw03_mod.f a2 1000000).bind fun t684 => ((spread_Move.f bt680.1 bt680.2 (wrap64 (t684 - 500000))).bind fun bt685 => ((spread_Move.f bt680.1 bt685.1 (wrap64 (-(wrap64 (t684 - 500000))))).bind fun bt689 => ((spread_Gaps.f bt680.1 bt680.2).bind fun bt693 => ((spread_Gaps.f bt680.1 bt685.1).bind fun bt697 => (if bt685.2 = 0 then (if bt689.2 = 0 then (if bt693.2 = 0 then (if bt697.2 = 0 then ((numnahlaw03_ints.f k bt689.1 bt680.2).bind fun t701 => (if t701 = true then ((numnahlaw03_ints.f k bt693.1 bt697.1).bind fun t702 => (if t702 = true then (numnahlaw03_SpreadMoved.j0 k bt680.1 bt680.2 bt693.1 ((bt693.1.length : Int) == 0)) else (numnahlaw03_SpreadMoved.j0 k bt680.1 bt680.2 bt693.1 true))) else (numnahlaw03_SpreadMoved.j0 k bt680.1 bt680.2 bt693.1 true))) else (numnahlaw03_SpreadMoved.j0 k bt680.1 bt680.2 bt693.1 true)) else (numnahlaw03_SpreadMoved.j0 k bt680.1 bt680.2 bt693.1 true)) else (numnahlaw03_SpreadMoved.j0 k bt680.1 bt680.2 bt693.1 true)) else (numnahlaw03_SpreadMoved.j0 k bt680.1 bt680.2 bt693.1 true)))))))
theorem numnahlaw03_SpreadMoved.mono_l : ∀ k, (∀ y0 y1 y2 y3, LeO (numnahlaw03_SpreadMoved.j0 k y0 y1 y2 y3) (numnahlaw03_SpreadMoved.j0 (k + 1) y0 y1 y2 y3)) ∧ (∀ y0 y1 y2 y3 y4, LeO (numnahlaw03_SpreadMoved.l0 k y0 y1 y2 y3 y4) (numnahlaw03_SpreadMoved.l0 (k + 1) y0 y1 y2 y3 y4)) ∧ (∀ y0 y1 y2 y3 y4 y5 y6, LeO (numnahlaw03_SpreadMoved.l1 k y0 y1 y2 y3 y4 y5 y6) (numnahlaw03_SpreadMoved.l1 (k + 1) y0 y1 y2 y3 y4 y5 y6)) ∧ (∀ y0 y1 y2 y3, LeO (numnahlaw03_SpreadMoved.l2 k y0 y1 y2 y3) (numnahlaw03_SpreadMoved.l2 (k + 1) y0 y1 y2 y3))
  | 0 => ⟨fun _ _ _ _ r h => by simp [numnahlaw03_SpreadMoved.j0] at h, fun _ _ _ _ _ r h => by simp [numnahlaw03_SpreadMoved.l0] at h, fun _ _ _ _ _ _ _ r h => by simp [numnahlaw03_SpreadMoved.l1] at h, fun _ _ _ _ r h => by simp [numnahlaw03_SpreadMoved.l2] at h⟩
  | k + 1 => by
    obtain ⟨ih0, ih1, ih2, ih3⟩ := numnahlaw03_SpreadMoved.mono_l k
    refine ⟨?_, ?_, ?_, ?_⟩
    · intro y0 y1 y2 y3
      unfold numnahlaw03_SpreadMoved.j0
      repeat' first
      | (with_reducible exact ih0 _ _ _ _)
      | (with_reducible exact ih1 _ _ _ _ _)
      | (with_reducible exact ih2 _ _ _ _ _ _ _)
      | (with_reducible exact ih3 _ _ _ _)
      | (with_reducible exact numnahlaw03_awake.mono _)
      | (with_reducible exact numnahlaw03_ints.mono _ _ _)
      | (with_reducible exact numnahlaw03_tame.mono _ _ _ _)
      | (with_reducible exact LeO.refl _)
      | (with_reducible exact LeO.none _)
      | (with_reducible refine LeO.ite ?_ ?_)
      | (with_reducible refine LeO.bind ?_ (fun _ => ?_))
      | exact ih0 _ _ _ _
      | exact ih1 _ _ _ _ _
      | exact ih2 _ _ _ _ _ _ _
      | exact ih3 _ _ _ _
      | exact numnahlaw03_awake.mono _
      | exact numnahlaw03_ints.mono _ _ _
      | exact numnahlaw03_tame.mono _ _ _ _
      | exact LeO.none _
      | refine LeO.ite ?_ ?_
      | refine LeO.bind ?_ (fun _ => ?_)
    · intro y0 y1 y2 y3 y4
      unfold numnahlaw03_SpreadMoved.l0
      repeat' first
      | (with_reducible exact ih0 _ _ _ _)
      | (with_reducible exact ih1 _ _ _ _ _)
      | (with_reducible exact ih2 _ _ _ _ _ _ _)
      | (with_reducible exact ih3 _ _ _ _)
      | (with_reducible exact numnahlaw03_awake.mono _)
      | (with_reducible exact numnahlaw03_ints.mono _ _ _)
      | (with_reducible exact numnahlaw03_tame.mono _ _ _ _)
      | (with_reducible exact LeO.refl _)
      | (with_reducible exact LeO.none _)
      | (with_reducible refine LeO.ite ?_ ?_)
      | (with_reducible refine LeO.bind ?_ (fun _ => ?_))
      | exact ih0 _ _ _ _
      | exact ih1 _ _ _ _ _
      | exact ih2 _ _ _ _ _ _ _
      | exact ih3 _ _ _ _
      | exact numnahlaw03_awake.mono _
      | exact numnahlaw03_ints.mono _ _ _
      | exact numnahlaw03_tame.mono _ _ _ _
      | exact LeO.none _
      | refine LeO.ite ?_ ?_
      | refine LeO.bind ?_ (fun _ => ?_)
    · intro y0 y1 y2 y3 y4 y5 y6
      unfold numnahlaw03_SpreadMoved.l1
      repeat' first
      | (with_reducible exact ih0 _ _ _ _)
      | (with_reducible exact ih1 _ _ _ _ _)
      | (with_reducible exact ih2 _ _ _ _ _ _ _)
      | (with_reducible exact ih3 _ _ _ _)
      | (with_reducible exact numnahlaw03_awake.mono _)
      | (with_reducible exact numnahlaw03_ints.mono _ _ _)
      | (with_reducible exact numnahlaw03_tame.mono _ _ _ _)
      | (with_reducible exact LeO.refl _)
      | (with_reducible exact LeO.none _)
      | (with_reducible refine LeO.ite ?_ ?_)
      | (with_reducible refine LeO.bind ?_ (fun _ => ?_))
      | exact ih0 _ _ _ _
      | exact ih1 _ _ _ _ _
      | exact ih2 _ _ _ _ _ _ _
      | exact ih3 _ _ _ _
      | exact numnahlaw03_awake.mono _
      | exact numnahlaw03_ints.mono _ _ _
      | exact numnahlaw03_tame.mono _ _ _ _
      | exact LeO.none _
      | refine LeO.ite ?_ ?_
      | refine LeO.bind ?_ (fun _ => ?_)
    · intro y0 y1 y2 y3
      unfold numnahlaw03_SpreadMoved.l2
      repeat' first
      | (with_reducible exact ih0 _ _ _ _)
      | (with_reducible exact ih1 _ _ _ _ _)
      | (with_reducible exact ih2 _ _ _ _ _ _ _)
      | (with_reducible exact ih3 _ _ _ _)
      | (with_reducible exact numnahlaw03_awake.mono _)
      | (with_reducible exact numnahlaw03_ints.mono _ _ _)
      | (with_reducible exact numnahlaw03_tame.mono _ _ _ _)
      | (with_reducible exact LeO.refl _)
      | (with_reducible exact LeO.none _)
      | (with_reducible refine LeO.ite ?_ ?_)
      | (with_reducible refine LeO.bind ?_ (fun _ => ?_))
      | exact ih0 _ _ _ _
      | exact ih1 _ _ _ _ _
      | exact ih2 _ _ _ _ _ _ _
      | exact ih3 _ _ _ _
      | exact numnahlaw03_awake.mono _
      | exact numnahlaw03_ints.mono _ _ _
      | exact numnahlaw03_tame.mono _ _ _ _
      | exact LeO.none _
      | refine LeO.ite ?_ ?_
      | refine LeO.bind ?_ (fun _ => ?_)
theorem numnahlaw03_SpreadMoved.mono : ∀ a0 a1 a2 k, LeO (numnahlaw03_SpreadMoved.f k a0 a1 a2) (numnahlaw03_SpreadMoved.f (k + 1) a0 a1 a2) := by
  intro a0 a1 a2 k
  obtain ⟨ih0, ih1, ih2, ih3⟩ := numnahlaw03_SpreadMoved.mono_l k
  unfold numnahlaw03_SpreadMoved.f
  repeat' first
      | (with_reducible exact ih0 _ _ _ _)
      | (with_reducible exact ih1 _ _ _ _ _)
      | (with_reducible exact ih2 _ _ _ _ _ _ _)
      | (with_reducible exact ih3 _ _ _ _)
      | (with_reducible exact numnahlaw03_awake.mono _)
      | (with_reducible exact numnahlaw03_ints.mono _ _ _)
      | (with_reducible exact numnahlaw03_tame.mono _ _ _ _)
      | (with_reducible exact LeO.refl _)
      | (with_reducible exact LeO.none _)
      | (with_reducible refine LeO.ite ?_ ?_)
      | (with_reducible refine LeO.bind ?_ (fun _ => ?_))
      | exact ih0 _ _ _ _
      | exact ih1 _ _ _ _ _
      | exact ih2 _ _ _ _ _ _ _
      | exact ih3 _ _ _ _
      | exact numnahlaw03_awake.mono _
      | exact numnahlaw03_ints.mono _ _ _
      | exact numnahlaw03_tame.mono _ _ _ _
      | exact LeO.none _
      | refine LeO.ite ?_ ?_
      | refine LeO.bind ?_ (fun _ => ?_)
set_option maxHeartbeats 8000000 in
set_option maxRecDepth 100000 in
theorem numnahlaw03_SpreadMoved.calls (k : Nat) (a0 : Int) (A1 : Option Addr) (c1 : Nat) (l1 : List Int) (a2 : Int) (r : Bool) (w : World) (hr1 : Kd.C (Kd.int .i64) w A1 l1.length l1) (hc1 : l1.length ≤ c1) (h : numnahlaw03_SpreadMoved.f k a0 l1 a2 = some r) :
    Calls Try.prog 14 #[.int .i64 a0, .slice A1 l1.length c1, .int .i64 a2] w fun e w' => e = .returned (.bool r) ∧ Below w.heap.size w w' := by
  have HR1 := Aside0.mk hr1
  have HC1 := Aside0.mk hc1
  clear hr1 hc1
  have HB := Aside0.mk (Below.refl w.heap.size w)
  have H : ((numnahlaw03_tame.f k a0 l1 1000).bind fun bt680 => ((numnahlaw03_mod.f a2 1000000).bind fun t684 => ((spread_Move.f bt680.1 bt680.2 (wrap64 (t684 - 500000))).bind fun bt685 => ((spread_Move.f bt680.1 bt685.1 (wrap64 (-(wrap64 (t684 - 500000))))).bind fun bt689 => ((spread_Gaps.f bt680.1 bt680.2).bind fun bt693 => ((spread_Gaps.f bt680.1 bt685.1).bind fun bt697 => (if bt685.2 = 0 then (if bt689.2 = 0 then (if bt693.2 = 0 then (if bt697.2 = 0 then ((numnahlaw03_ints.f k bt689.1 bt680.2).bind fun t701 => (if t701 = true then ((numnahlaw03_ints.f k bt693.1 bt697.1).bind fun t702 => (if t702 = true then (numnahlaw03_SpreadMoved.j0 k bt680.1 bt680.2 bt693.1 ((bt693.1.length : Int) == 0)) else (numnahlaw03_SpreadMoved.j0 k bt680.1 bt680.2 bt693.1 true))) else (numnahlaw03_SpreadMoved.j0 k bt680.1 bt680.2 bt693.1 true))) else (numnahlaw03_SpreadMoved.j0 k bt680.1 bt680.2 bt693.1 true)) else (numnahlaw03_SpreadMoved.j0 k bt680.1 bt680.2 bt693.1 true)) else (numnahlaw03_SpreadMoved.j0 k bt680.1 bt680.2 bt693.1 true)) else (numnahlaw03_SpreadMoved.j0 k bt680.1 bt680.2 bt693.1 true)))))))) = some r := h
  clear h
  replace H := Option.bind_eq_some_iff.mp H
  obtain ⟨⟨t680, t681⟩, A40, H⟩ := H
  replace H : ((numnahlaw03_mod.f a2 1000000).bind fun t684 => ((spread_Move.f t680 t681 (wrap64 (t684 - 500000))).bind fun bt685 => ((spread_Move.f t680 bt685.1 (wrap64 (-(wrap64 (t684 - 500000))))).bind fun bt689 => ((spread_Gaps.f t680 t681).bind fun bt693 => ((spread_Gaps.f t680 bt685.1).bind fun bt697 => (if bt685.2 = 0 then (if bt689.2 = 0 then (if bt693.2 = 0 then (if bt697.2 = 0 then ((numnahlaw03_ints.f k bt689.1 t681).bind fun t701 => (if t701 = true then ((numnahlaw03_ints.f k bt693.1 bt697.1).bind fun t702 => (if t702 = true then (numnahlaw03_SpreadMoved.j0 k t680 t681 bt693.1 ((bt693.1.length : Int) == 0)) else (numnahlaw03_SpreadMoved.j0 k t680 t681 bt693.1 true))) else (numnahlaw03_SpreadMoved.j0 k t680 t681 bt693.1 true))) else (numnahlaw03_SpreadMoved.j0 k t680 t681 bt693.1 true)) else (numnahlaw03_SpreadMoved.j0 k t680 t681 bt693.1 true)) else (numnahlaw03_SpreadMoved.j0 k t680 t681 bt693.1 true)) else (numnahlaw03_SpreadMoved.j0 k t680 t681 bt693.1 true))))))) = some r := H
  have A4 := Aside0.mk A40
  clear A40
  replace H := Option.bind_eq_some_iff.mp H
  obtain ⟨t684, A50, H⟩ := H
  replace H : ((spread_Move.f t680 t681 (wrap64 (t684 - 500000))).bind fun bt685 => ((spread_Move.f t680 bt685.1 (wrap64 (-(wrap64 (t684 - 500000))))).bind fun bt689 => ((spread_Gaps.f t680 t681).bind fun bt693 => ((spread_Gaps.f t680 bt685.1).bind fun bt697 => (if bt685.2 = 0 then (if bt689.2 = 0 then (if bt693.2 = 0 then (if bt697.2 = 0 then ((numnahlaw03_ints.f k bt689.1 t681).bind fun t701 => (if t701 = true then ((numnahlaw03_ints.f k bt693.1 bt697.1).bind fun t702 => (if t702 = true then (numnahlaw03_SpreadMoved.j0 k t680 t681 bt693.1 ((bt693.1.length : Int) == 0)) else (numnahlaw03_SpreadMoved.j0 k t680 t681 bt693.1 true))) else (numnahlaw03_SpreadMoved.j0 k t680 t681 bt693.1 true))) else (numnahlaw03_SpreadMoved.j0 k t680 t681 bt693.1 true)) else (numnahlaw03_SpreadMoved.j0 k t680 t681 bt693.1 true)) else (numnahlaw03_SpreadMoved.j0 k t680 t681 bt693.1 true)) else (numnahlaw03_SpreadMoved.j0 k t680 t681 bt693.1 true)))))) = some r := H
  have A5 := Aside0.mk A50
  clear A50
  replace H := Option.bind_eq_some_iff.mp H
  obtain ⟨⟨t685, t686⟩, A60, H⟩ := H
  replace H : ((spread_Move.f t680 t685 (wrap64 (-(wrap64 (t684 - 500000))))).bind fun bt689 => ((spread_Gaps.f t680 t681).bind fun bt693 => ((spread_Gaps.f t680 t685).bind fun bt697 => (if t686 = 0 then (if bt689.2 = 0 then (if bt693.2 = 0 then (if bt697.2 = 0 then ((numnahlaw03_ints.f k bt689.1 t681).bind fun t701 => (if t701 = true then ((numnahlaw03_ints.f k bt693.1 bt697.1).bind fun t702 => (if t702 = true then (numnahlaw03_SpreadMoved.j0 k t680 t681 bt693.1 ((bt693.1.length : Int) == 0)) else (numnahlaw03_SpreadMoved.j0 k t680 t681 bt693.1 true))) else (numnahlaw03_SpreadMoved.j0 k t680 t681 bt693.1 true))) else (numnahlaw03_SpreadMoved.j0 k t680 t681 bt693.1 true)) else (numnahlaw03_SpreadMoved.j0 k t680 t681 bt693.1 true)) else (numnahlaw03_SpreadMoved.j0 k t680 t681 bt693.1 true)) else (numnahlaw03_SpreadMoved.j0 k t680 t681 bt693.1 true))))) = some r := H
  have A6 := Aside0.mk A60
  clear A60
  replace H := Option.bind_eq_some_iff.mp H
  obtain ⟨⟨t689, t690⟩, A70, H⟩ := H
  replace H : ((spread_Gaps.f t680 t681).bind fun bt693 => ((spread_Gaps.f t680 t685).bind fun bt697 => (if t686 = 0 then (if t690 = 0 then (if bt693.2 = 0 then (if bt697.2 = 0 then ((numnahlaw03_ints.f k t689 t681).bind fun t701 => (if t701 = true then ((numnahlaw03_ints.f k bt693.1 bt697.1).bind fun t702 => (if t702 = true then (numnahlaw03_SpreadMoved.j0 k t680 t681 bt693.1 ((bt693.1.length : Int) == 0)) else (numnahlaw03_SpreadMoved.j0 k t680 t681 bt693.1 true))) else (numnahlaw03_SpreadMoved.j0 k t680 t681 bt693.1 true))) else (numnahlaw03_SpreadMoved.j0 k t680 t681 bt693.1 true)) else (numnahlaw03_SpreadMoved.j0 k t680 t681 bt693.1 true)) else (numnahlaw03_SpreadMoved.j0 k t680 t681 bt693.1 true)) else (numnahlaw03_SpreadMoved.j0 k t680 t681 bt693.1 true)))) = some r := H
  have A7 := Aside0.mk A70
  clear A70
  replace H := Option.bind_eq_some_iff.mp H
  obtain ⟨⟨t693, t694⟩, A80, H⟩ := H
  replace H : ((spread_Gaps.f t680 t685).bind fun bt697 => (if t686 = 0 then (if t690 = 0 then (if t694 = 0 then (if bt697.2 = 0 then ((numnahlaw03_ints.f k t689 t681).bind fun t701 => (if t701 = true then ((numnahlaw03_ints.f k t693 bt697.1).bind fun t702 => (if t702 = true then (numnahlaw03_SpreadMoved.j0 k t680 t681 t693 ((t693.length : Int) == 0)) else (numnahlaw03_SpreadMoved.j0 k t680 t681 t693 true))) else (numnahlaw03_SpreadMoved.j0 k t680 t681 t693 true))) else (numnahlaw03_SpreadMoved.j0 k t680 t681 t693 true)) else (numnahlaw03_SpreadMoved.j0 k t680 t681 t693 true)) else (numnahlaw03_SpreadMoved.j0 k t680 t681 t693 true)) else (numnahlaw03_SpreadMoved.j0 k t680 t681 t693 true))) = some r := H
  have A8 := Aside0.mk A80
  clear A80
  replace H := Option.bind_eq_some_iff.mp H
  obtain ⟨⟨t697, t698⟩, A90, H⟩ := H
  replace H : (if t686 = 0 then (if t690 = 0 then (if t694 = 0 then (if t698 = 0 then ((numnahlaw03_ints.f k t689 t681).bind fun t701 => (if t701 = true then ((numnahlaw03_ints.f k t693 t697).bind fun t702 => (if t702 = true then (numnahlaw03_SpreadMoved.j0 k t680 t681 t693 ((t693.length : Int) == 0)) else (numnahlaw03_SpreadMoved.j0 k t680 t681 t693 true))) else (numnahlaw03_SpreadMoved.j0 k t680 t681 t693 true))) else (numnahlaw03_SpreadMoved.j0 k t680 t681 t693 true)) else (numnahlaw03_SpreadMoved.j0 k t680 t681 t693 true)) else (numnahlaw03_SpreadMoved.j0 k t680 t681 t693 true)) else (numnahlaw03_SpreadMoved.j0 k t680 t681 t693 true)) = some r := H
  have A9 := Aside0.mk A90
  clear A90
  have HC10 := Aside0.mk H
  clear H
  go_enter Try.func14, Try.ntmps14
  go_upto_region 7 with (first | (go_at_call 18; (with_reducible refine (numnahlaw03_tame.calls k a0 _ _ l1 1000 t680 t681 _ ?side1 ?side2 A4.out).mono ?_); (case side1 => repeat (first | exact HR1.out | (with_reducible refine Kd.C_alloc ?_ _) | (with_reducible refine Kd.C_drewN ?_ _) | (with_reducible refine Kd.C_drew ?_))); (case side2 => exact HC1.out); rintro e w11 ⟨v682, rfl, ho0, hb⟩; have n0_ := Aside0.mk (Kd.R_lower ho0 (below_size (by repeat (first | (with_reducible first | exact HB.out | apply below_alloc | apply pw_below_drewN | apply below_drew1) | exact HB.out)))); have n1_ := Aside0.mk (below_step (by repeat (first | (with_reducible first | exact HB.out | apply below_alloc | apply pw_below_drewN | apply below_drew1) | exact HB.out)) hb); clear HB; have HO683 := n0_; have HB := n1_; clear n0_ n1_; (try clear hb); (try clear hb2); (try clear hk); (try clear hi); (try clear ho0)) | (go_at_call 36; (with_reducible refine (numnahlaw03_mod.calls a2 1000000 t684 _ A5.out).mono ?_); rintro e w' ⟨rfl, ⟨nd, rfl⟩⟩; (try first | exact ⟨rfl, _, World.drewN_drewN _ _ _⟩ | exact ⟨rfl, _, Eq.trans (World.drewN_drewN _ _ _) (congrArg (World.drewN _) (Nat.add_assoc _ _ _))⟩); obtain ⟨Ao12, co12, eo12⟩ := Kd.R_slice HO683.out; subst eo12) | (go_at_call 50; (with_reducible refine (spread_Move.calls t680 _ _ t681 (wrap64 (t684 - 500000)) t685 t686 _ ?side1 ?side2 A6.out).mono ?_); (case side1 => repeat (first | exact (Kd.R_reads' HO683.out).2.2 | (with_reducible refine Kd.C_alloc ?_ _) | (with_reducible refine Kd.C_drewN ?_ _) | (with_reducible refine Kd.C_drew ?_))); (case side2 => exact (Kd.R_reads' HO683.out).2.1); rintro e w13 ⟨v687, rfl, ho0, hb⟩; have n0_ := Aside0.mk (Kd.R_elder' (by (with_reducible repeat (first | apply Kd.R_alloc | apply Kd.R_drewN | apply Kd.R_drew)); exact HO683.out) (Kd.R_base ho0) hb); have n1_ := Aside0.mk (Kd.R_lower (Kd.R_new' ho0 (Kd.R_lt (by (with_reducible repeat (first | apply Kd.R_alloc | apply Kd.R_drewN | apply Kd.R_drew)); exact HO683.out))) (below_size (by repeat (first | (with_reducible first | exact HB.out | apply below_alloc | apply pw_below_drewN | apply below_drew1) | exact HB.out)))); have n2_ := Aside0.mk (below_step (by repeat (first | (with_reducible first | exact HB.out | apply below_alloc | apply pw_below_drewN | apply below_drew1) | exact HB.out)) hb); clear HO683; clear HB; have HO683 := n0_; have HO688 := n1_; have HB := n2_; clear n0_ n1_ n2_; (try clear hb); (try clear hb2); (try clear hk); (try clear hi); (try clear ho0); obtain ⟨Ao14, co14, eo14⟩ := Kd.R_slice HO688.out; subst eo14) | (go_at_call 50; (with_reducible refine (spread_Move.calls t680 _ _ t685 (wrap64 (-(wrap64 (t684 - 500000)))) t689 t690 _ ?side1 ?side2 A7.out).mono ?_); (case side1 => repeat (first | exact (Kd.R_reads' HO688.out).2.2 | (with_reducible refine Kd.C_alloc ?_ _) | (with_reducible refine Kd.C_drewN ?_ _) | (with_reducible refine Kd.C_drew ?_))); (case side2 => exact (Kd.R_reads' HO688.out).2.1); rintro e w15 ⟨v691, rfl, ho0, hb⟩; have n0_ := Aside0.mk (Kd.R_elder' (by (with_reducible repeat (first | apply Kd.R_alloc | apply Kd.R_drewN | apply Kd.R_drew)); exact HO683.out) (Kd.R_base ho0) hb); have n1_ := Aside0.mk (Kd.R_elder' (by (with_reducible repeat (first | apply Kd.R_alloc | apply Kd.R_drewN | apply Kd.R_drew)); exact HO688.out) (Kd.R_base ho0) hb); have n2_ := Aside0.mk (Kd.R_lower (Kd.R_new' (Kd.R_new' ho0 (Kd.R_lt (by (with_reducible repeat (first | apply Kd.R_alloc | apply Kd.R_drewN | apply Kd.R_drew)); exact HO683.out))) (Kd.R_lt (by (with_reducible repeat (first | apply Kd.R_alloc | apply Kd.R_drewN | apply Kd.R_drew)); exact HO688.out))) (below_size (by repeat (first | (with_reducible first | exact HB.out | apply below_alloc | apply pw_below_drewN | apply below_drew1) | exact HB.out)))); have n3_ := Aside0.mk (below_step (by repeat (first | (with_reducible first | exact HB.out | apply below_alloc | apply pw_below_drewN | apply below_drew1) | exact HB.out)) hb); clear HO683; clear HO688; clear HB; have HO683 := n0_; have HO688 := n1_; have HO692 := n2_; have HB := n3_; clear n0_ n1_ n2_ n3_; (try clear hb); (try clear hb2); (try clear hk); (try clear hi); (try clear ho0)) | (go_at_call 48; (with_reducible refine (spread_Gaps.calls t680 _ _ t681 t693 t694 _ ?side1 ?side2 A8.out).mono ?_); (case side1 => repeat (first | exact (Kd.R_reads' HO683.out).2.2 | (with_reducible refine Kd.C_alloc ?_ _) | (with_reducible refine Kd.C_drewN ?_ _) | (with_reducible refine Kd.C_drew ?_))); (case side2 => exact (Kd.R_reads' HO683.out).2.1); rintro e w16 ⟨v695, rfl, ho0, hb⟩; have n0_ := Aside0.mk (Kd.R_elder' (by (with_reducible repeat (first | apply Kd.R_alloc | apply Kd.R_drewN | apply Kd.R_drew)); exact HO683.out) (Kd.R_base ho0) hb); have n1_ := Aside0.mk (Kd.R_elder' (by (with_reducible repeat (first | apply Kd.R_alloc | apply Kd.R_drewN | apply Kd.R_drew)); exact HO688.out) (Kd.R_base ho0) hb); have n2_ := Aside0.mk (Kd.R_elder' (by (with_reducible repeat (first | apply Kd.R_alloc | apply Kd.R_drewN | apply Kd.R_drew)); exact HO692.out) (Kd.R_base ho0) hb); have n3_ := Aside0.mk (Kd.R_lower (Kd.R_new' (Kd.R_new' (Kd.R_new' ho0 (Kd.R_lt (by (with_reducible repeat (first | apply Kd.R_alloc | apply Kd.R_drewN | apply Kd.R_drew)); exact HO683.out))) (Kd.R_lt (by (with_reducible repeat (first | apply Kd.R_alloc | apply Kd.R_drewN | apply Kd.R_drew)); exact HO688.out))) (Kd.R_lt (by (with_reducible repeat (first | apply Kd.R_alloc | apply Kd.R_drewN | apply Kd.R_drew)); exact HO692.out))) (below_size (by repeat (first | (with_reducible first | exact HB.out | apply below_alloc | apply pw_below_drewN | apply below_drew1) | exact HB.out)))); have n4_ := Aside0.mk (below_step (by repeat (first | (with_reducible first | exact HB.out | apply below_alloc | apply pw_below_drewN | apply below_drew1) | exact HB.out)) hb); clear HO683; clear HO688; clear HO692; clear HB; have HO683 := n0_; have HO688 := n1_; have HO692 := n2_; have HO696 := n3_; have HB := n4_; clear n0_ n1_ n2_ n3_ n4_; (try clear hb); (try clear hb2); (try clear hk); (try clear hi); (try clear ho0)) | (go_at_call 48; (with_reducible refine (spread_Gaps.calls t680 _ _ t685 t697 t698 _ ?side1 ?side2 A9.out).mono ?_); (case side1 => repeat (first | exact (Kd.R_reads' HO688.out).2.2 | (with_reducible refine Kd.C_alloc ?_ _) | (with_reducible refine Kd.C_drewN ?_ _) | (with_reducible refine Kd.C_drew ?_))); (case side2 => exact (Kd.R_reads' HO688.out).2.1); rintro e w17 ⟨v699, rfl, ho0, hb⟩; have n0_ := Aside0.mk (Kd.R_elder' (by (with_reducible repeat (first | apply Kd.R_alloc | apply Kd.R_drewN | apply Kd.R_drew)); exact HO683.out) (Kd.R_base ho0) hb); have n1_ := Aside0.mk (Kd.R_elder' (by (with_reducible repeat (first | apply Kd.R_alloc | apply Kd.R_drewN | apply Kd.R_drew)); exact HO688.out) (Kd.R_base ho0) hb); have n2_ := Aside0.mk (Kd.R_elder' (by (with_reducible repeat (first | apply Kd.R_alloc | apply Kd.R_drewN | apply Kd.R_drew)); exact HO692.out) (Kd.R_base ho0) hb); have n3_ := Aside0.mk (Kd.R_elder' (by (with_reducible repeat (first | apply Kd.R_alloc | apply Kd.R_drewN | apply Kd.R_drew)); exact HO696.out) (Kd.R_base ho0) hb); have n4_ := Aside0.mk (Kd.R_lower (Kd.R_new' (Kd.R_new' (Kd.R_new' (Kd.R_new' ho0 (Kd.R_lt (by (with_reducible repeat (first | apply Kd.R_alloc | apply Kd.R_drewN | apply Kd.R_drew)); exact HO683.out))) (Kd.R_lt (by (with_reducible repeat (first | apply Kd.R_alloc | apply Kd.R_drewN | apply Kd.R_drew)); exact HO688.out))) (Kd.R_lt (by (with_reducible repeat (first | apply Kd.R_alloc | apply Kd.R_drewN | apply Kd.R_drew)); exact HO692.out))) (Kd.R_lt (by (with_reducible repeat (first | apply Kd.R_alloc | apply Kd.R_drewN | apply Kd.R_drew)); exact HO696.out))) (below_size (by repeat (first | (with_reducible first | exact HB.out | apply below_alloc | apply pw_below_drewN | apply below_drew1) | exact HB.out)))); have n5_ := Aside0.mk (below_step (by repeat (first | (with_reducible first | exact HB.out | apply below_alloc | apply pw_below_drewN | apply below_drew1) | exact HB.out)) hb); clear HO683; clear HO688; clear HO692; clear HO696; clear HB; have HO683 := n0_; have HO688 := n1_; have HO692 := n2_; have HO696 := n3_; have HO700 := n4_; have HB := n5_; clear n0_ n1_ n2_ n3_ n4_ n5_; (try clear hb); (try clear hb2); (try clear hk); (try clear hi); (try clear ho0)))
  repeat (go_quiet (first | (go_at_call 18; (with_reducible refine (numnahlaw03_tame.calls k a0 _ _ l1 1000 t680 t681 _ ?side1 ?side2 A4.out).mono ?_); (case side1 => repeat (first | exact HR1.out | (with_reducible refine Kd.C_alloc ?_ _) | (with_reducible refine Kd.C_drewN ?_ _) | (with_reducible refine Kd.C_drew ?_))); (case side2 => exact HC1.out); rintro e w11 ⟨v682, rfl, ho0, hb⟩; have n0_ := Aside0.mk (Kd.R_lower ho0 (below_size (by repeat (first | (with_reducible first | exact HB.out | apply below_alloc | apply pw_below_drewN | apply below_drew1) | exact HB.out)))); have n1_ := Aside0.mk (below_step (by repeat (first | (with_reducible first | exact HB.out | apply below_alloc | apply pw_below_drewN | apply below_drew1) | exact HB.out)) hb); clear HB; have HO683 := n0_; have HB := n1_; clear n0_ n1_; (try clear hb); (try clear hb2); (try clear hk); (try clear hi); (try clear ho0)) | (go_at_call 36; (with_reducible refine (numnahlaw03_mod.calls a2 1000000 t684 _ A5.out).mono ?_); rintro e w' ⟨rfl, ⟨nd, rfl⟩⟩; (try first | exact ⟨rfl, _, World.drewN_drewN _ _ _⟩ | exact ⟨rfl, _, Eq.trans (World.drewN_drewN _ _ _) (congrArg (World.drewN _) (Nat.add_assoc _ _ _))⟩); obtain ⟨Ao12, co12, eo12⟩ := Kd.R_slice HO683.out; subst eo12) | (go_at_call 50; (with_reducible refine (spread_Move.calls t680 _ _ t681 (wrap64 (t684 - 500000)) t685 t686 _ ?side1 ?side2 A6.out).mono ?_); (case side1 => repeat (first | exact (Kd.R_reads' HO683.out).2.2 | (with_reducible refine Kd.C_alloc ?_ _) | (with_reducible refine Kd.C_drewN ?_ _) | (with_reducible refine Kd.C_drew ?_))); (case side2 => exact (Kd.R_reads' HO683.out).2.1); rintro e w13 ⟨v687, rfl, ho0, hb⟩; have n0_ := Aside0.mk (Kd.R_elder' (by (with_reducible repeat (first | apply Kd.R_alloc | apply Kd.R_drewN | apply Kd.R_drew)); exact HO683.out) (Kd.R_base ho0) hb); have n1_ := Aside0.mk (Kd.R_lower (Kd.R_new' ho0 (Kd.R_lt (by (with_reducible repeat (first | apply Kd.R_alloc | apply Kd.R_drewN | apply Kd.R_drew)); exact HO683.out))) (below_size (by repeat (first | (with_reducible first | exact HB.out | apply below_alloc | apply pw_below_drewN | apply below_drew1) | exact HB.out)))); have n2_ := Aside0.mk (below_step (by repeat (first | (with_reducible first | exact HB.out | apply below_alloc | apply pw_below_drewN | apply below_drew1) | exact HB.out)) hb); clear HO683; clear HB; have HO683 := n0_; have HO688 := n1_; have HB := n2_; clear n0_ n1_ n2_; (try clear hb); (try clear hb2); (try clear hk); (try clear hi); (try clear ho0); obtain ⟨Ao14, co14, eo14⟩ := Kd.R_slice HO688.out; subst eo14) | (go_at_call 50; (with_reducible refine (spread_Move.calls t680 _ _ t685 (wrap64 (-(wrap64 (t684 - 500000)))) t689 t690 _ ?side1 ?side2 A7.out).mono ?_); (case side1 => repeat (first | exact (Kd.R_reads' HO688.out).2.2 | (with_reducible refine Kd.C_alloc ?_ _) | (with_reducible refine Kd.C_drewN ?_ _) | (with_reducible refine Kd.C_drew ?_))); (case side2 => exact (Kd.R_reads' HO688.out).2.1); rintro e w15 ⟨v691, rfl, ho0, hb⟩; have n0_ := Aside0.mk (Kd.R_elder' (by (with_reducible repeat (first | apply Kd.R_alloc | apply Kd.R_drewN | apply Kd.R_drew)); exact HO683.out) (Kd.R_base ho0) hb); have n1_ := Aside0.mk (Kd.R_elder' (by (with_reducible repeat (first | apply Kd.R_alloc | apply Kd.R_drewN | apply Kd.R_drew)); exact HO688.out) (Kd.R_base ho0) hb); have n2_ := Aside0.mk (Kd.R_lower (Kd.R_new' (Kd.R_new' ho0 (Kd.R_lt (by (with_reducible repeat (first | apply Kd.R_alloc | apply Kd.R_drewN | apply Kd.R_drew)); exact HO683.out))) (Kd.R_lt (by (with_reducible repeat (first | apply Kd.R_alloc | apply Kd.R_drewN | apply Kd.R_drew)); exact HO688.out))) (below_size (by repeat (first | (with_reducible first | exact HB.out | apply below_alloc | apply pw_below_drewN | apply below_drew1) | exact HB.out)))); have n3_ := Aside0.mk (below_step (by repeat (first | (with_reducible first | exact HB.out | apply below_alloc | apply pw_below_drewN | apply below_drew1) | exact HB.out)) hb); clear HO683; clear HO688; clear HB; have HO683 := n0_; have HO688 := n1_; have HO692 := n2_; have HB := n3_; clear n0_ n1_ n2_ n3_; (try clear hb); (try clear hb2); (try clear hk); (try clear hi); (try clear ho0)) | (go_at_call 48; (with_reducible refine (spread_Gaps.calls t680 _ _ t681 t693 t694 _ ?side1 ?side2 A8.out).mono ?_); (case side1 => repeat (first | exact (Kd.R_reads' HO683.out).2.2 | (with_reducible refine Kd.C_alloc ?_ _) | (with_reducible refine Kd.C_drewN ?_ _) | (with_reducible refine Kd.C_drew ?_))); (case side2 => exact (Kd.R_reads' HO683.out).2.1); rintro e w16 ⟨v695, rfl, ho0, hb⟩; have n0_ := Aside0.mk (Kd.R_elder' (by (with_reducible repeat (first | apply Kd.R_alloc | apply Kd.R_drewN | apply Kd.R_drew)); exact HO683.out) (Kd.R_base ho0) hb); have n1_ := Aside0.mk (Kd.R_elder' (by (with_reducible repeat (first | apply Kd.R_alloc | apply Kd.R_drewN | apply Kd.R_drew)); exact HO688.out) (Kd.R_base ho0) hb); have n2_ := Aside0.mk (Kd.R_elder' (by (with_reducible repeat (first | apply Kd.R_alloc | apply Kd.R_drewN | apply Kd.R_drew)); exact HO692.out) (Kd.R_base ho0) hb); have n3_ := Aside0.mk (Kd.R_lower (Kd.R_new' (Kd.R_new' (Kd.R_new' ho0 (Kd.R_lt (by (with_reducible repeat (first | apply Kd.R_alloc | apply Kd.R_drewN | apply Kd.R_drew)); exact HO683.out))) (Kd.R_lt (by (with_reducible repeat (first | apply Kd.R_alloc | apply Kd.R_drewN | apply Kd.R_drew)); exact HO688.out))) (Kd.R_lt (by (with_reducible repeat (first | apply Kd.R_alloc | apply Kd.R_drewN | apply Kd.R_drew)); exact HO692.out))) (below_size (by repeat (first | (with_reducible first | exact HB.out | apply below_alloc | apply pw_below_drewN | apply below_drew1) | exact HB.out)))); have n4_ := Aside0.mk (below_step (by repeat (first | (with_reducible first | exact HB.out | apply below_alloc | apply pw_below_drewN | apply below_drew1) | exact HB.out)) hb); clear HO683; clear HO688; clear HO692; clear HB; have HO683 := n0_; have HO688 := n1_; have HO692 := n2_; have HO696 := n3_; have HB := n4_; clear n0_ n1_ n2_ n3_ n4_; (try clear hb); (try clear hb2); (try clear hk); (try clear hi); (try clear ho0)) | (go_at_call 48; (with_reducible refine (spread_Gaps.calls t680 _ _ t685 t697 t698 _ ?side1 ?side2 A9.out).mono ?_); (case side1 => repeat (first | exact (Kd.R_reads' HO688.out).2.2 | (with_reducible refine Kd.C_alloc ?_ _) | (with_reducible refine Kd.C_drewN ?_ _) | (with_reducible refine Kd.C_drew ?_))); (case side2 => exact (Kd.R_reads' HO688.out).2.1); rintro e w17 ⟨v699, rfl, ho0, hb⟩; have n0_ := Aside0.mk (Kd.R_elder' (by (with_reducible repeat (first | apply Kd.R_alloc | apply Kd.R_drewN | apply Kd.R_drew)); exact HO683.out) (Kd.R_base ho0) hb); have n1_ := Aside0.mk (Kd.R_elder' (by (with_reducible repeat (first | apply Kd.R_alloc | apply Kd.R_drewN | apply Kd.R_drew)); exact HO688.out) (Kd.R_base ho0) hb); have n2_ := Aside0.mk (Kd.R_elder' (by (with_reducible repeat (first | apply Kd.R_alloc | apply Kd.R_drewN | apply Kd.R_drew)); exact HO692.out) (Kd.R_base ho0) hb); have n3_ := Aside0.mk (Kd.R_elder' (by (with_reducible repeat (first | apply Kd.R_alloc | apply Kd.R_drewN | apply Kd.R_drew)); exact HO696.out) (Kd.R_base ho0) hb); have n4_ := Aside0.mk (Kd.R_lower (Kd.R_new' (Kd.R_new' (Kd.R_new' (Kd.R_new' ho0 (Kd.R_lt (by (with_reducible repeat (first | apply Kd.R_alloc | apply Kd.R_drewN | apply Kd.R_drew)); exact HO683.out))) (Kd.R_lt (by (with_reducible repeat (first | apply Kd.R_alloc | apply Kd.R_drewN | apply Kd.R_drew)); exact HO688.out))) (Kd.R_lt (by (with_reducible repeat (first | apply Kd.R_alloc | apply Kd.R_drewN | apply Kd.R_drew)); exact HO692.out))) (Kd.R_lt (by (with_reducible repeat (first | apply Kd.R_alloc | apply Kd.R_drewN | apply Kd.R_drew)); exact HO696.out))) (below_size (by repeat (first | (with_reducible first | exact HB.out | apply below_alloc | apply pw_below_drewN | apply below_drew1) | exact HB.out)))); have n5_ := Aside0.mk (below_step (by repeat (first | (with_reducible first | exact HB.out | apply below_alloc | apply pw_below_drewN | apply below_drew1) | exact HB.out)) hb); clear HO683; clear HO688; clear HO692; clear HO696; clear HB; have HO683 := n0_; have HO688 := n1_; have HO692 := n2_; have HO696 := n3_; have HO700 := n4_; have HB := n5_; clear n0_ n1_ n2_ n3_ n4_ n5_; (try clear hb); (try clear hb2); (try clear hk); (try clear hi); (try clear ho0))); go_upto_region 7 with (first | (go_at_call 18; (with_reducible refine (numnahlaw03_tame.calls k a0 _ _ l1 1000 t680 t681 _ ?side1 ?side2 A4.out).mono ?_); (case side1 => repeat (first | exact HR1.out | (with_reducible refine Kd.C_alloc ?_ _) | (with_reducible refine Kd.C_drewN ?_ _) | (with_reducible refine Kd.C_drew ?_))); (case side2 => exact HC1.out); rintro e w11 ⟨v682, rfl, ho0, hb⟩; have n0_ := Aside0.mk (Kd.R_lower ho0 (below_size (by repeat (first | (with_reducible first | exact HB.out | apply below_alloc | apply pw_below_drewN | apply below_drew1) | exact HB.out)))); have n1_ := Aside0.mk (below_step (by repeat (first | (with_reducible first | exact HB.out | apply below_alloc | apply pw_below_drewN | apply below_drew1) | exact HB.out)) hb); clear HB; have HO683 := n0_; have HB := n1_; clear n0_ n1_; (try clear hb); (try clear hb2); (try clear hk); (try clear hi); (try clear ho0)) | (go_at_call 36; (with_reducible refine (numnahlaw03_mod.calls a2 1000000 t684 _ A5.out).mono ?_); rintro e w' ⟨rfl, ⟨nd, rfl⟩⟩; (try first | exact ⟨rfl, _, World.drewN_drewN _ _ _⟩ | exact ⟨rfl, _, Eq.trans (World.drewN_drewN _ _ _) (congrArg (World.drewN _) (Nat.add_assoc _ _ _))⟩); obtain ⟨Ao12, co12, eo12⟩ := Kd.R_slice HO683.out; subst eo12) | (go_at_call 50; (with_reducible refine (spread_Move.calls t680 _ _ t681 (wrap64 (t684 - 500000)) t685 t686 _ ?side1 ?side2 A6.out).mono ?_); (case side1 => repeat (first | exact (Kd.R_reads' HO683.out).2.2 | (with_reducible refine Kd.C_alloc ?_ _) | (with_reducible refine Kd.C_drewN ?_ _) | (with_reducible refine Kd.C_drew ?_))); (case side2 => exact (Kd.R_reads' HO683.out).2.1); rintro e w13 ⟨v687, rfl, ho0, hb⟩; have n0_ := Aside0.mk (Kd.R_elder' (by (with_reducible repeat (first | apply Kd.R_alloc | apply Kd.R_drewN | apply Kd.R_drew)); exact HO683.out) (Kd.R_base ho0) hb); have n1_ := Aside0.mk (Kd.R_lower (Kd.R_new' ho0 (Kd.R_lt (by (with_reducible repeat (first | apply Kd.R_alloc | apply Kd.R_drewN | apply Kd.R_drew)); exact HO683.out))) (below_size (by repeat (first | (with_reducible first | exact HB.out | apply below_alloc | apply pw_below_drewN | apply below_drew1) | exact HB.out)))); have n2_ := Aside0.mk (below_step (by repeat (first | (with_reducible first | exact HB.out | apply below_alloc | apply pw_below_drewN | apply below_drew1) | exact HB.out)) hb); clear HO683; clear HB; have HO683 := n0_; have HO688 := n1_; have HB := n2_; clear n0_ n1_ n2_; (try clear hb); (try clear hb2); (try clear hk); (try clear hi); (try clear ho0); obtain ⟨Ao14, co14, eo14⟩ := Kd.R_slice HO688.out; subst eo14) | (go_at_call 50; (with_reducible refine (spread_Move.calls t680 _ _ t685 (wrap64 (-(wrap64 (t684 - 500000)))) t689 t690 _ ?side1 ?side2 A7.out).mono ?_); (case side1 => repeat (first | exact (Kd.R_reads' HO688.out).2.2 | (with_reducible refine Kd.C_alloc ?_ _) | (with_reducible refine Kd.C_drewN ?_ _) | (with_reducible refine Kd.C_drew ?_))); (case side2 => exact (Kd.R_reads' HO688.out).2.1); rintro e w15 ⟨v691, rfl, ho0, hb⟩; have n0_ := Aside0.mk (Kd.R_elder' (by (with_reducible repeat (first | apply Kd.R_alloc | apply Kd.R_drewN | apply Kd.R_drew)); exact HO683.out) (Kd.R_base ho0) hb); have n1_ := Aside0.mk (Kd.R_elder' (by (with_reducible repeat (first | apply Kd.R_alloc | apply Kd.R_drewN | apply Kd.R_drew)); exact HO688.out) (Kd.R_base ho0) hb); have n2_ := Aside0.mk (Kd.R_lower (Kd.R_new' (Kd.R_new' ho0 (Kd.R_lt (by (with_reducible repeat (first | apply Kd.R_alloc | apply Kd.R_drewN | apply Kd.R_drew)); exact HO683.out))) (Kd.R_lt (by (with_reducible repeat (first | apply Kd.R_alloc | apply Kd.R_drewN | apply Kd.R_drew)); exact HO688.out))) (below_size (by repeat (first | (with_reducible first | exact HB.out | apply below_alloc | apply pw_below_drewN | apply below_drew1) | exact HB.out)))); have n3_ := Aside0.mk (below_step (by repeat (first | (with_reducible first | exact HB.out | apply below_alloc | apply pw_below_drewN | apply below_drew1) | exact HB.out)) hb); clear HO683; clear HO688; clear HB; have HO683 := n0_; have HO688 := n1_; have HO692 := n2_; have HB := n3_; clear n0_ n1_ n2_ n3_; (try clear hb); (try clear hb2); (try clear hk); (try clear hi); (try clear ho0)) | (go_at_call 48; (with_reducible refine (spread_Gaps.calls t680 _ _ t681 t693 t694 _ ?side1 ?side2 A8.out).mono ?_); (case side1 => repeat (first | exact (Kd.R_reads' HO683.out).2.2 | (with_reducible refine Kd.C_alloc ?_ _) | (with_reducible refine Kd.C_drewN ?_ _) | (with_reducible refine Kd.C_drew ?_))); (case side2 => exact (Kd.R_reads' HO683.out).2.1); rintro e w16 ⟨v695, rfl, ho0, hb⟩; have n0_ := Aside0.mk (Kd.R_elder' (by (with_reducible repeat (first | apply Kd.R_alloc | apply Kd.R_drewN | apply Kd.R_drew)); exact HO683.out) (Kd.R_base ho0) hb); have n1_ := Aside0.mk (Kd.R_elder' (by (with_reducible repeat (first | apply Kd.R_alloc | apply Kd.R_drewN | apply Kd.R_drew)); exact HO688.out) (Kd.R_base ho0) hb); have n2_ := Aside0.mk (Kd.R_elder' (by (with_reducible repeat (first | apply Kd.R_alloc | apply Kd.R_drewN | apply Kd.R_drew)); exact HO692.out) (Kd.R_base ho0) hb); have n3_ := Aside0.mk (Kd.R_lower (Kd.R_new' (Kd.R_new' (Kd.R_new' ho0 (Kd.R_lt (by (with_reducible repeat (first | apply Kd.R_alloc | apply Kd.R_drewN | apply Kd.R_drew)); exact HO683.out))) (Kd.R_lt (by (with_reducible repeat (first | apply Kd.R_alloc | apply Kd.R_drewN | apply Kd.R_drew)); exact HO688.out))) (Kd.R_lt (by (with_reducible repeat (first | apply Kd.R_alloc | apply Kd.R_drewN | apply Kd.R_drew)); exact HO692.out))) (below_size (by repeat (first | (with_reducible first | exact HB.out | apply below_alloc | apply pw_below_drewN | apply below_drew1) | exact HB.out)))); have n4_ := Aside0.mk (below_step (by repeat (first | (with_reducible first | exact HB.out | apply below_alloc | apply pw_below_drewN | apply below_drew1) | exact HB.out)) hb); clear HO683; clear HO688; clear HO692; clear HB; have HO683 := n0_; have HO688 := n1_; have HO692 := n2_; have HO696 := n3_; have HB := n4_; clear n0_ n1_ n2_ n3_ n4_; (try clear hb); (try clear hb2); (try clear hk); (try clear hi); (try clear ho0)) | (go_at_call 48; (with_reducible refine (spread_Gaps.calls t680 _ _ t685 t697 t698 _ ?side1 ?side2 A9.out).mono ?_); (case side1 => repeat (first | exact (Kd.R_reads' HO688.out).2.2 | (with_reducible refine Kd.C_alloc ?_ _) | (with_reducible refine Kd.C_drewN ?_ _) | (with_reducible refine Kd.C_drew ?_))); (case side2 => exact (Kd.R_reads' HO688.out).2.1); rintro e w17 ⟨v699, rfl, ho0, hb⟩; have n0_ := Aside0.mk (Kd.R_elder' (by (with_reducible repeat (first | apply Kd.R_alloc | apply Kd.R_drewN | apply Kd.R_drew)); exact HO683.out) (Kd.R_base ho0) hb); have n1_ := Aside0.mk (Kd.R_elder' (by (with_reducible repeat (first | apply Kd.R_alloc | apply Kd.R_drewN | apply Kd.R_drew)); exact HO688.out) (Kd.R_base ho0) hb); have n2_ := Aside0.mk (Kd.R_elder' (by (with_reducible repeat (first | apply Kd.R_alloc | apply Kd.R_drewN | apply Kd.R_drew)); exact HO692.out) (Kd.R_base ho0) hb); have n3_ := Aside0.mk (Kd.R_elder' (by (with_reducible repeat (first | apply Kd.R_alloc | apply Kd.R_drewN | apply Kd.R_drew)); exact HO696.out) (Kd.R_base ho0) hb); have n4_ := Aside0.mk (Kd.R_lower (Kd.R_new' (Kd.R_new' (Kd.R_new' (Kd.R_new' ho0 (Kd.R_lt (by (with_reducible repeat (first | apply Kd.R_alloc | apply Kd.R_drewN | apply Kd.R_drew)); exact HO683.out))) (Kd.R_lt (by (with_reducible repeat (first | apply Kd.R_alloc | apply Kd.R_drewN | apply Kd.R_drew)); exact HO688.out))) (Kd.R_lt (by (with_reducible repeat (first | apply Kd.R_alloc | apply Kd.R_drewN | apply Kd.R_drew)); exact HO692.out))) (Kd.R_lt (by (with_reducible repeat (first | apply Kd.R_alloc | apply Kd.R_drewN | apply Kd.R_drew)); exact HO696.out))) (below_size (by repeat (first | (with_reducible first | exact HB.out | apply below_alloc | apply pw_below_drewN | apply below_drew1) | exact HB.out)))); have n5_ := Aside0.mk (below_step (by repeat (first | (with_reducible first | exact HB.out | apply below_alloc | apply pw_below_drewN | apply below_drew1) | exact HB.out)) hb); clear HO683; clear HO688; clear HO692; clear HO696; clear HB; have HO683 := n0_; have HO688 := n1_; have HO692 := n2_; have HO696 := n3_; have HO700 := n4_; have HB := n5_; clear n0_ n1_ n2_ n3_ n4_ n5_; (try clear hb); (try clear hb2); (try clear hk); (try clear hi); (try clear ho0))))
  (try simp only [Act.put, List.setIfInBounds_toArray, List.set_cons_zero, List.set_cons_succ])
  go_cut [87] (fun v87 wc => ∃ (kq : Nat) (x87_9 : Bool), v87 = .bool x87_9 ∧ Aside0 (numnahlaw03_SpreadMoved.j0 kq t680 t681 t693 x87_9 = some r) ∧ Aside0 (kq ≤ k) ∧ Aside0 (Kd.R (Kd.int .i64) 3 wc w.heap.size (fun k_ => some k_ ≠ (v695 : Value).ownBlock) (.slice Ao12 t681.length co12) t681) ∧ Aside0 (Kd.R (Kd.int .i64) 3 wc w.heap.size (fun k_ => some k_ ≠ ((.slice Ao12 t681.length co12) : Value).ownBlock) v695 t693) ∧ Aside0 (Below w.heap.size w wc))
  case first =>
    have H := HC10.out
    clear HC10
    by_cases c18 : t686 = 0
    · rw [if_pos c18] at H
      have c18b0 : (t686 == 0) = true := beq_iff_eq.mpr c18
      have c18b1 : (t686 != 0) = false := bne_eq_false_iff_eq.mpr c18
      clear c18
      (first | rw [c18b0] | (simp only [i64_w, i32_w]; rw [c18b0]) | skip)
      by_cases c19 : t690 = 0
      · rw [if_pos c19] at H
        have c19b0 : (t690 == 0) = true := beq_iff_eq.mpr c19
        have c19b1 : (t690 != 0) = false := bne_eq_false_iff_eq.mpr c19
        clear c19
        by_cases c20 : t694 = 0
        · rw [if_pos c20] at H
          have c20b0 : (t694 == 0) = true := beq_iff_eq.mpr c20
          have c20b1 : (t694 != 0) = false := bne_eq_false_iff_eq.mpr c20
          clear c20
          by_cases c21 : t698 = 0
          · rw [if_pos c21] at H
            have c21b0 : (t698 == 0) = true := beq_iff_eq.mpr c21
            have c21b1 : (t698 != 0) = false := bne_eq_false_iff_eq.mpr c21
            clear c21
            replace H := Option.bind_eq_some_iff.mp H
            obtain ⟨t701, A220, H⟩ := H
            replace H : (if t701 = true then ((numnahlaw03_ints.f k t693 t697).bind fun t702 => (if t702 = true then (numnahlaw03_SpreadMoved.j0 k t680 t681 t693 ((t693.length : Int) == 0)) else (numnahlaw03_SpreadMoved.j0 k t680 t681 t693 true))) else (numnahlaw03_SpreadMoved.j0 k t680 t681 t693 true)) = some r := H
            have A22 := Aside0.mk A220
            clear A220
            by_cases c23 : t701 = true
            · subst c23
              have H1 : ((numnahlaw03_ints.f k t693 t697).bind fun t702 => (if t702 = true then (numnahlaw03_SpreadMoved.j0 k t680 t681 t693 ((t693.length : Int) == 0)) else (numnahlaw03_SpreadMoved.j0 k t680 t681 t693 true))) = some r := by rw [if_pos rfl] at H; exact H
              clear H
              have H := H1
              clear H1
              replace H := Option.bind_eq_some_iff.mp H
              obtain ⟨t702, A240, H⟩ := H
              replace H : (if t702 = true then (numnahlaw03_SpreadMoved.j0 k t680 t681 t693 ((t693.length : Int) == 0)) else (numnahlaw03_SpreadMoved.j0 k t680 t681 t693 true)) = some r := H
              have A24 := Aside0.mk A240
              clear A240
              by_cases c25 : t702 = true
              · subst c25
                have H1 : (numnahlaw03_SpreadMoved.j0 k t680 t681 t693 ((t693.length : Int) == 0)) = some r := by rw [if_pos rfl] at H; exact H
                clear H
                have H := H1
                clear H1
                have H' := Aside0.mk H
                clear H
                obtain ⟨Ao26, co26, eo26⟩ := Kd.R_slice HO692.out
                subst eo26
                go_wp2_with (first | (go_at_call 49; (with_reducible refine (numnahlaw03_ints.calls k _ _ t689 _ _ t681 true _ ?side1 ?side2 ?side3 ?side4 A22.out).mono ?_); (case side1 => repeat (first | exact (Kd.R_reads' HO692.out).2.2 | (with_reducible refine Kd.C_alloc ?_ _) | (with_reducible refine Kd.C_drewN ?_ _) | (with_reducible refine Kd.C_drew ?_))); (case side2 => exact (Kd.R_reads' HO692.out).2.1); (case side3 => repeat (first | exact (Kd.R_reads' HO683.out).2.2 | (with_reducible refine Kd.C_alloc ?_ _) | (with_reducible refine Kd.C_drewN ?_ _) | (with_reducible refine Kd.C_drew ?_))); (case side4 => exact (Kd.R_reads' HO683.out).2.1); rintro e w' ⟨rfl, ⟨nd, rfl⟩⟩; (try first | exact ⟨rfl, _, World.drewN_drewN _ _ _⟩ | exact ⟨rfl, _, Eq.trans (World.drewN_drewN _ _ _) (congrArg (World.drewN _) (Nat.add_assoc _ _ _))⟩); obtain ⟨Ao27, co27, eo27⟩ := Kd.R_slice HO696.out; subst eo27; obtain ⟨Ao28, co28, eo28⟩ := Kd.R_slice HO700.out; subst eo28) | (go_at_call 49; (with_reducible refine (numnahlaw03_ints.calls k _ _ t693 _ _ t697 true _ ?side1 ?side2 ?side3 ?side4 A24.out).mono ?_); (case side1 => repeat (first | exact (Kd.R_reads' HO696.out).2.2 | (with_reducible refine Kd.C_alloc ?_ _) | (with_reducible refine Kd.C_drewN ?_ _) | (with_reducible refine Kd.C_drew ?_))); (case side2 => exact (Kd.R_reads' HO696.out).2.1); (case side3 => repeat (first | exact (Kd.R_reads' HO700.out).2.2 | (with_reducible refine Kd.C_alloc ?_ _) | (with_reducible refine Kd.C_drewN ?_ _) | (with_reducible refine Kd.C_drew ?_))); (case side4 => exact (Kd.R_reads' HO700.out).2.1); rintro e w' ⟨rfl, ⟨nd, rfl⟩⟩; (try first | exact ⟨rfl, _, World.drewN_drewN _ _ _⟩ | exact ⟨rfl, _, Eq.trans (World.drewN_drewN _ _ _) (congrArg (World.drewN _) (Nat.add_assoc _ _ _))⟩)))
                repeat (go_quiet (first | (go_at_call 49; (with_reducible refine (numnahlaw03_ints.calls k _ _ t689 _ _ t681 true _ ?side1 ?side2 ?side3 ?side4 A22.out).mono ?_); (case side1 => repeat (first | exact (Kd.R_reads' HO692.out).2.2 | (with_reducible refine Kd.C_alloc ?_ _) | (with_reducible refine Kd.C_drewN ?_ _) | (with_reducible refine Kd.C_drew ?_))); (case side2 => exact (Kd.R_reads' HO692.out).2.1); (case side3 => repeat (first | exact (Kd.R_reads' HO683.out).2.2 | (with_reducible refine Kd.C_alloc ?_ _) | (with_reducible refine Kd.C_drewN ?_ _) | (with_reducible refine Kd.C_drew ?_))); (case side4 => exact (Kd.R_reads' HO683.out).2.1); rintro e w' ⟨rfl, ⟨nd, rfl⟩⟩; (try first | exact ⟨rfl, _, World.drewN_drewN _ _ _⟩ | exact ⟨rfl, _, Eq.trans (World.drewN_drewN _ _ _) (congrArg (World.drewN _) (Nat.add_assoc _ _ _))⟩); obtain ⟨Ao27, co27, eo27⟩ := Kd.R_slice HO696.out; subst eo27; obtain ⟨Ao28, co28, eo28⟩ := Kd.R_slice HO700.out; subst eo28) | (go_at_call 49; (with_reducible refine (numnahlaw03_ints.calls k _ _ t693 _ _ t697 true _ ?side1 ?side2 ?side3 ?side4 A24.out).mono ?_); (case side1 => repeat (first | exact (Kd.R_reads' HO696.out).2.2 | (with_reducible refine Kd.C_alloc ?_ _) | (with_reducible refine Kd.C_drewN ?_ _) | (with_reducible refine Kd.C_drew ?_))); (case side2 => exact (Kd.R_reads' HO696.out).2.1); (case side3 => repeat (first | exact (Kd.R_reads' HO700.out).2.2 | (with_reducible refine Kd.C_alloc ?_ _) | (with_reducible refine Kd.C_drewN ?_ _) | (with_reducible refine Kd.C_drew ?_))); (case side4 => exact (Kd.R_reads' HO700.out).2.1); rintro e w' ⟨rfl, ⟨nd, rfl⟩⟩; (try first | exact ⟨rfl, _, World.drewN_drewN _ _ _⟩ | exact ⟨rfl, _, Eq.trans (World.drewN_drewN _ _ _) (congrArg (World.drewN _) (Nat.add_assoc _ _ _))⟩))); try go_wp2_with (first | (go_at_call 49; (with_reducible refine (numnahlaw03_ints.calls k _ _ t689 _ _ t681 true _ ?side1 ?side2 ?side3 ?side4 A22.out).mono ?_); (case side1 => repeat (first | exact (Kd.R_reads' HO692.out).2.2 | (with_reducible refine Kd.C_alloc ?_ _) | (with_reducible refine Kd.C_drewN ?_ _) | (with_reducible refine Kd.C_drew ?_))); (case side2 => exact (Kd.R_reads' HO692.out).2.1); (case side3 => repeat (first | exact (Kd.R_reads' HO683.out).2.2 | (with_reducible refine Kd.C_alloc ?_ _) | (with_reducible refine Kd.C_drewN ?_ _) | (with_reducible refine Kd.C_drew ?_))); (case side4 => exact (Kd.R_reads' HO683.out).2.1); rintro e w' ⟨rfl, ⟨nd, rfl⟩⟩; (try first | exact ⟨rfl, _, World.drewN_drewN _ _ _⟩ | exact ⟨rfl, _, Eq.trans (World.drewN_drewN _ _ _) (congrArg (World.drewN _) (Nat.add_assoc _ _ _))⟩); obtain ⟨Ao27, co27, eo27⟩ := Kd.R_slice HO696.out; subst eo27; obtain ⟨Ao28, co28, eo28⟩ := Kd.R_slice HO700.out; subst eo28) | (go_at_call 49; (with_reducible refine (numnahlaw03_ints.calls k _ _ t693 _ _ t697 true _ ?side1 ?side2 ?side3 ?side4 A24.out).mono ?_); (case side1 => repeat (first | exact (Kd.R_reads' HO696.out).2.2 | (with_reducible refine Kd.C_alloc ?_ _) | (with_reducible refine Kd.C_drewN ?_ _) | (with_reducible refine Kd.C_drew ?_))); (case side2 => exact (Kd.R_reads' HO696.out).2.1); (case side3 => repeat (first | exact (Kd.R_reads' HO700.out).2.2 | (with_reducible refine Kd.C_alloc ?_ _) | (with_reducible refine Kd.C_drewN ?_ _) | (with_reducible refine Kd.C_drew ?_))); (case side4 => exact (Kd.R_reads' HO700.out).2.1); rintro e w' ⟨rfl, ⟨nd, rfl⟩⟩; (try first | exact ⟨rfl, _, World.drewN_drewN _ _ _⟩ | exact ⟨rfl, _, Eq.trans (World.drewN_drewN _ _ _) (congrArg (World.drewN _) (Nat.add_assoc _ _ _))⟩))))
                go_meet
                case rel => exact ⟨_, (((t693.length : Int) == 0)), (by first | rfl | (simp; done) | (simp [*]; done)), H', ⟨by first | omega | exact Nat.le_refl _⟩, ⟨by (with_reducible repeat (first | apply Kd.R_alloc | apply Kd.R_drewN | apply Kd.R_drew)); exact Kd.R_mono HO683.out (fun _ hk => hk.1.2)⟩, ⟨by (with_reducible repeat (first | apply Kd.R_alloc | apply Kd.R_drewN | apply Kd.R_drew)); exact Kd.R_mono HO696.out (fun _ hk => hk.1.1.1.2)⟩, ⟨by repeat (first | (with_reducible first | exact HB.out | apply below_alloc | apply pw_below_drewN | apply below_drew1) | exact HB.out)⟩⟩
              · replace c25 := Bool.eq_false_iff.mpr c25
                subst c25
                have H1 : (numnahlaw03_SpreadMoved.j0 k t680 t681 t693 true) = some r := by rw [if_neg (show ¬ (false = true) by decide)] at H; exact H
                clear H
                have H := H1
                clear H1
                have H' := Aside0.mk H
                clear H
                obtain ⟨Ao29, co29, eo29⟩ := Kd.R_slice HO692.out
                subst eo29
                go_wp2_with (first | (go_at_call 49; (with_reducible refine (numnahlaw03_ints.calls k _ _ t689 _ _ t681 true _ ?side1 ?side2 ?side3 ?side4 A22.out).mono ?_); (case side1 => repeat (first | exact (Kd.R_reads' HO692.out).2.2 | (with_reducible refine Kd.C_alloc ?_ _) | (with_reducible refine Kd.C_drewN ?_ _) | (with_reducible refine Kd.C_drew ?_))); (case side2 => exact (Kd.R_reads' HO692.out).2.1); (case side3 => repeat (first | exact (Kd.R_reads' HO683.out).2.2 | (with_reducible refine Kd.C_alloc ?_ _) | (with_reducible refine Kd.C_drewN ?_ _) | (with_reducible refine Kd.C_drew ?_))); (case side4 => exact (Kd.R_reads' HO683.out).2.1); rintro e w' ⟨rfl, ⟨nd, rfl⟩⟩; (try first | exact ⟨rfl, _, World.drewN_drewN _ _ _⟩ | exact ⟨rfl, _, Eq.trans (World.drewN_drewN _ _ _) (congrArg (World.drewN _) (Nat.add_assoc _ _ _))⟩); obtain ⟨Ao30, co30, eo30⟩ := Kd.R_slice HO696.out; subst eo30; obtain ⟨Ao31, co31, eo31⟩ := Kd.R_slice HO700.out; subst eo31) | (go_at_call 49; (with_reducible refine (numnahlaw03_ints.calls k _ _ t693 _ _ t697 false _ ?side1 ?side2 ?side3 ?side4 A24.out).mono ?_); (case side1 => repeat (first | exact (Kd.R_reads' HO696.out).2.2 | (with_reducible refine Kd.C_alloc ?_ _) | (with_reducible refine Kd.C_drewN ?_ _) | (with_reducible refine Kd.C_drew ?_))); (case side2 => exact (Kd.R_reads' HO696.out).2.1); (case side3 => repeat (first | exact (Kd.R_reads' HO700.out).2.2 | (with_reducible refine Kd.C_alloc ?_ _) | (with_reducible refine Kd.C_drewN ?_ _) | (with_reducible refine Kd.C_drew ?_))); (case side4 => exact (Kd.R_reads' HO700.out).2.1); rintro e w' ⟨rfl, ⟨nd, rfl⟩⟩; (try first | exact ⟨rfl, _, World.drewN_drewN _ _ _⟩ | exact ⟨rfl, _, Eq.trans (World.drewN_drewN _ _ _) (congrArg (World.drewN _) (Nat.add_assoc _ _ _))⟩)))
                repeat (go_quiet (first | (go_at_call 49; (with_reducible refine (numnahlaw03_ints.calls k _ _ t689 _ _ t681 true _ ?side1 ?side2 ?side3 ?side4 A22.out).mono ?_); (case side1 => repeat (first | exact (Kd.R_reads' HO692.out).2.2 | (with_reducible refine Kd.C_alloc ?_ _) | (with_reducible refine Kd.C_drewN ?_ _) | (with_reducible refine Kd.C_drew ?_))); (case side2 => exact (Kd.R_reads' HO692.out).2.1); (case side3 => repeat (first | exact (Kd.R_reads' HO683.out).2.2 | (with_reducible refine Kd.C_alloc ?_ _) | (with_reducible refine Kd.C_drewN ?_ _) | (with_reducible refine Kd.C_drew ?_))); (case side4 => exact (Kd.R_reads' HO683.out).2.1); rintro e w' ⟨rfl, ⟨nd, rfl⟩⟩; (try first | exact ⟨rfl, _, World.drewN_drewN _ _ _⟩ | exact ⟨rfl, _, Eq.trans (World.drewN_drewN _ _ _) (congrArg (World.drewN _) (Nat.add_assoc _ _ _))⟩); obtain ⟨Ao30, co30, eo30⟩ := Kd.R_slice HO696.out; subst eo30; obtain ⟨Ao31, co31, eo31⟩ := Kd.R_slice HO700.out; subst eo31) | (go_at_call 49; (with_reducible refine (numnahlaw03_ints.calls k _ _ t693 _ _ t697 false _ ?side1 ?side2 ?side3 ?side4 A24.out).mono ?_); (case side1 => repeat (first | exact (Kd.R_reads' HO696.out).2.2 | (with_reducible refine Kd.C_alloc ?_ _) | (with_reducible refine Kd.C_drewN ?_ _) | (with_reducible refine Kd.C_drew ?_))); (case side2 => exact (Kd.R_reads' HO696.out).2.1); (case side3 => repeat (first | exact (Kd.R_reads' HO700.out).2.2 | (with_reducible refine Kd.C_alloc ?_ _) | (with_reducible refine Kd.C_drewN ?_ _) | (with_reducible refine Kd.C_drew ?_))); (case side4 => exact (Kd.R_reads' HO700.out).2.1); rintro e w' ⟨rfl, ⟨nd, rfl⟩⟩; (try first | exact ⟨rfl, _, World.drewN_drewN _ _ _⟩ | exact ⟨rfl, _, Eq.trans (World.drewN_drewN _ _ _) (congrArg (World.drewN _) (Nat.add_assoc _ _ _))⟩))); try go_wp2_with (first | (go_at_call 49; (with_reducible refine (numnahlaw03_ints.calls k _ _ t689 _ _ t681 true _ ?side1 ?side2 ?side3 ?side4 A22.out).mono ?_); (case side1 => repeat (first | exact (Kd.R_reads' HO692.out).2.2 | (with_reducible refine Kd.C_alloc ?_ _) | (with_reducible refine Kd.C_drewN ?_ _) | (with_reducible refine Kd.C_drew ?_))); (case side2 => exact (Kd.R_reads' HO692.out).2.1); (case side3 => repeat (first | exact (Kd.R_reads' HO683.out).2.2 | (with_reducible refine Kd.C_alloc ?_ _) | (with_reducible refine Kd.C_drewN ?_ _) | (with_reducible refine Kd.C_drew ?_))); (case side4 => exact (Kd.R_reads' HO683.out).2.1); rintro e w' ⟨rfl, ⟨nd, rfl⟩⟩; (try first | exact ⟨rfl, _, World.drewN_drewN _ _ _⟩ | exact ⟨rfl, _, Eq.trans (World.drewN_drewN _ _ _) (congrArg (World.drewN _) (Nat.add_assoc _ _ _))⟩); obtain ⟨Ao30, co30, eo30⟩ := Kd.R_slice HO696.out; subst eo30; obtain ⟨Ao31, co31, eo31⟩ := Kd.R_slice HO700.out; subst eo31) | (go_at_call 49; (with_reducible refine (numnahlaw03_ints.calls k _ _ t693 _ _ t697 false _ ?side1 ?side2 ?side3 ?side4 A24.out).mono ?_); (case side1 => repeat (first | exact (Kd.R_reads' HO696.out).2.2 | (with_reducible refine Kd.C_alloc ?_ _) | (with_reducible refine Kd.C_drewN ?_ _) | (with_reducible refine Kd.C_drew ?_))); (case side2 => exact (Kd.R_reads' HO696.out).2.1); (case side3 => repeat (first | exact (Kd.R_reads' HO700.out).2.2 | (with_reducible refine Kd.C_alloc ?_ _) | (with_reducible refine Kd.C_drewN ?_ _) | (with_reducible refine Kd.C_drew ?_))); (case side4 => exact (Kd.R_reads' HO700.out).2.1); rintro e w' ⟨rfl, ⟨nd, rfl⟩⟩; (try first | exact ⟨rfl, _, World.drewN_drewN _ _ _⟩ | exact ⟨rfl, _, Eq.trans (World.drewN_drewN _ _ _) (congrArg (World.drewN _) (Nat.add_assoc _ _ _))⟩))))
                go_meet
                case rel => exact ⟨_, (true), (by first | rfl | (simp; done) | (simp [*]; done)), H', ⟨by first | omega | exact Nat.le_refl _⟩, ⟨by (with_reducible repeat (first | apply Kd.R_alloc | apply Kd.R_drewN | apply Kd.R_drew)); exact Kd.R_mono HO683.out (fun _ hk => hk.1.2)⟩, ⟨by (with_reducible repeat (first | apply Kd.R_alloc | apply Kd.R_drewN | apply Kd.R_drew)); exact Kd.R_mono HO696.out (fun _ hk => hk.1.1.1.2)⟩, ⟨by repeat (first | (with_reducible first | exact HB.out | apply below_alloc | apply pw_below_drewN | apply below_drew1) | exact HB.out)⟩⟩
            · replace c23 := Bool.eq_false_iff.mpr c23
              subst c23
              have H1 : (numnahlaw03_SpreadMoved.j0 k t680 t681 t693 true) = some r := by rw [if_neg (show ¬ (false = true) by decide)] at H; exact H
              clear H
              have H := H1
              clear H1
              have H' := Aside0.mk H
              clear H
              obtain ⟨Ao32, co32, eo32⟩ := Kd.R_slice HO692.out
              subst eo32
              go_wp2_with (first | (go_at_call 49; (with_reducible refine (numnahlaw03_ints.calls k _ _ t689 _ _ t681 false _ ?side1 ?side2 ?side3 ?side4 A22.out).mono ?_); (case side1 => repeat (first | exact (Kd.R_reads' HO692.out).2.2 | (with_reducible refine Kd.C_alloc ?_ _) | (with_reducible refine Kd.C_drewN ?_ _) | (with_reducible refine Kd.C_drew ?_))); (case side2 => exact (Kd.R_reads' HO692.out).2.1); (case side3 => repeat (first | exact (Kd.R_reads' HO683.out).2.2 | (with_reducible refine Kd.C_alloc ?_ _) | (with_reducible refine Kd.C_drewN ?_ _) | (with_reducible refine Kd.C_drew ?_))); (case side4 => exact (Kd.R_reads' HO683.out).2.1); rintro e w' ⟨rfl, ⟨nd, rfl⟩⟩; (try first | exact ⟨rfl, _, World.drewN_drewN _ _ _⟩ | exact ⟨rfl, _, Eq.trans (World.drewN_drewN _ _ _) (congrArg (World.drewN _) (Nat.add_assoc _ _ _))⟩)))
              repeat (go_quiet (first | (go_at_call 49; (with_reducible refine (numnahlaw03_ints.calls k _ _ t689 _ _ t681 false _ ?side1 ?side2 ?side3 ?side4 A22.out).mono ?_); (case side1 => repeat (first | exact (Kd.R_reads' HO692.out).2.2 | (with_reducible refine Kd.C_alloc ?_ _) | (with_reducible refine Kd.C_drewN ?_ _) | (with_reducible refine Kd.C_drew ?_))); (case side2 => exact (Kd.R_reads' HO692.out).2.1); (case side3 => repeat (first | exact (Kd.R_reads' HO683.out).2.2 | (with_reducible refine Kd.C_alloc ?_ _) | (with_reducible refine Kd.C_drewN ?_ _) | (with_reducible refine Kd.C_drew ?_))); (case side4 => exact (Kd.R_reads' HO683.out).2.1); rintro e w' ⟨rfl, ⟨nd, rfl⟩⟩; (try first | exact ⟨rfl, _, World.drewN_drewN _ _ _⟩ | exact ⟨rfl, _, Eq.trans (World.drewN_drewN _ _ _) (congrArg (World.drewN _) (Nat.add_assoc _ _ _))⟩))); try go_wp2_with (first | (go_at_call 49; (with_reducible refine (numnahlaw03_ints.calls k _ _ t689 _ _ t681 false _ ?side1 ?side2 ?side3 ?side4 A22.out).mono ?_); (case side1 => repeat (first | exact (Kd.R_reads' HO692.out).2.2 | (with_reducible refine Kd.C_alloc ?_ _) | (with_reducible refine Kd.C_drewN ?_ _) | (with_reducible refine Kd.C_drew ?_))); (case side2 => exact (Kd.R_reads' HO692.out).2.1); (case side3 => repeat (first | exact (Kd.R_reads' HO683.out).2.2 | (with_reducible refine Kd.C_alloc ?_ _) | (with_reducible refine Kd.C_drewN ?_ _) | (with_reducible refine Kd.C_drew ?_))); (case side4 => exact (Kd.R_reads' HO683.out).2.1); rintro e w' ⟨rfl, ⟨nd, rfl⟩⟩; (try first | exact ⟨rfl, _, World.drewN_drewN _ _ _⟩ | exact ⟨rfl, _, Eq.trans (World.drewN_drewN _ _ _) (congrArg (World.drewN _) (Nat.add_assoc _ _ _))⟩))))
              go_meet
              case rel => exact ⟨_, (true), (by first | rfl | (simp; done) | (simp [*]; done)), H', ⟨by first | omega | exact Nat.le_refl _⟩, ⟨by (with_reducible repeat (first | apply Kd.R_alloc | apply Kd.R_drewN | apply Kd.R_drew)); exact Kd.R_mono HO683.out (fun _ hk => hk.1.2)⟩, ⟨by (with_reducible repeat (first | apply Kd.R_alloc | apply Kd.R_drewN | apply Kd.R_drew)); exact Kd.R_mono HO696.out (fun _ hk => hk.1.1.1.2)⟩, ⟨by repeat (first | (with_reducible first | exact HB.out | apply below_alloc | apply pw_below_drewN | apply below_drew1) | exact HB.out)⟩⟩
          · rw [if_neg c21] at H
            have c21b0 : (t698 == 0) = false := beq_eq_false_iff_ne.mpr c21
            have c21b1 : (t698 != 0) = true := bne_iff_ne.mpr c21
            have H' := Aside0.mk H
            clear H
            go_wp2
            repeat (go_quiet (fail); try go_wp2)
            go_meet
            case rel => exact ⟨_, (true), (by first | rfl | (simp; done) | (simp [*]; done)), H', ⟨by first | omega | exact Nat.le_refl _⟩, ⟨by (with_reducible repeat (first | apply Kd.R_alloc | apply Kd.R_drewN | apply Kd.R_drew)); exact Kd.R_mono HO683.out (fun _ hk => hk.1.2)⟩, ⟨by (with_reducible repeat (first | apply Kd.R_alloc | apply Kd.R_drewN | apply Kd.R_drew)); exact Kd.R_mono HO696.out (fun _ hk => hk.1.1.1.2)⟩, ⟨by repeat (first | (with_reducible first | exact HB.out | apply below_alloc | apply pw_below_drewN | apply below_drew1) | exact HB.out)⟩⟩
        · rw [if_neg c20] at H
          have c20b0 : (t694 == 0) = false := beq_eq_false_iff_ne.mpr c20
          have c20b1 : (t694 != 0) = true := bne_iff_ne.mpr c20
          have H' := Aside0.mk H
          clear H
          go_wp2
          repeat (go_quiet (fail); try go_wp2)
          go_meet
          case rel => exact ⟨_, (true), (by first | rfl | (simp; done) | (simp [*]; done)), H', ⟨by first | omega | exact Nat.le_refl _⟩, ⟨by (with_reducible repeat (first | apply Kd.R_alloc | apply Kd.R_drewN | apply Kd.R_drew)); exact Kd.R_mono HO683.out (fun _ hk => hk.1.2)⟩, ⟨by (with_reducible repeat (first | apply Kd.R_alloc | apply Kd.R_drewN | apply Kd.R_drew)); exact Kd.R_mono HO696.out (fun _ hk => hk.1.1.1.2)⟩, ⟨by repeat (first | (with_reducible first | exact HB.out | apply below_alloc | apply pw_below_drewN | apply below_drew1) | exact HB.out)⟩⟩
      · rw [if_neg c19] at H
        have c19b0 : (t690 == 0) = false := beq_eq_false_iff_ne.mpr c19
        have c19b1 : (t690 != 0) = true := bne_iff_ne.mpr c19
        have H' := Aside0.mk H
        clear H
        go_wp2
        repeat (go_quiet (fail); try go_wp2)
        go_meet
        case rel => exact ⟨_, (true), (by first | rfl | (simp; done) | (simp [*]; done)), H', ⟨by first | omega | exact Nat.le_refl _⟩, ⟨by (with_reducible repeat (first | apply Kd.R_alloc | apply Kd.R_drewN | apply Kd.R_drew)); exact Kd.R_mono HO683.out (fun _ hk => hk.1.2)⟩, ⟨by (with_reducible repeat (first | apply Kd.R_alloc | apply Kd.R_drewN | apply Kd.R_drew)); exact Kd.R_mono HO696.out (fun _ hk => hk.1.1.1.2)⟩, ⟨by repeat (first | (with_reducible first | exact HB.out | apply below_alloc | apply pw_below_drewN | apply below_drew1) | exact HB.out)⟩⟩
    · rw [if_neg c18] at H
      have c18b0 : (t686 == 0) = false := beq_eq_false_iff_ne.mpr c18
      have c18b1 : (t686 != 0) = true := bne_iff_ne.mpr c18
      (first | rw [c18b0] | (simp only [i64_w, i32_w]; rw [c18b0]) | skip)
      have H' := Aside0.mk H
      clear H
      go_wp2
      repeat (go_quiet (fail); try go_wp2)
      go_meet
      case rel => exact ⟨_, (true), (by first | rfl | (simp; done) | (simp [*]; done)), H', ⟨by first | omega | exact Nat.le_refl _⟩, ⟨by (with_reducible repeat (first | apply Kd.R_alloc | apply Kd.R_drewN | apply Kd.R_drew)); exact Kd.R_mono HO683.out (fun _ hk => hk.1.2)⟩, ⟨by (with_reducible repeat (first | apply Kd.R_alloc | apply Kd.R_drewN | apply Kd.R_drew)); exact Kd.R_mono HO696.out (fun _ hk => hk.1.1.1.2)⟩, ⟨by repeat (first | (with_reducible first | exact HB.out | apply below_alloc | apply pw_below_drewN | apply below_drew1) | exact HB.out)⟩⟩
  case rest =>
    clear HC10
    try clear c1
    try clear c2
    try clear p2
    try clear p6
    try clear c14
    try clear c18
    try clear c18b0
    try clear c18b1
    try clear c19
    try clear c19b0
    try clear c19b1
    try clear c20
    try clear c20b0
    try clear c20b1
    try clear c21
    try clear c21b0
    try clear c21b1
    try clear c23
    try clear c25
    obtain ⟨kq, x87_9, rfl, HA, HJ9, HO_7, HO_12, HB⟩ := hcut
    cases kq with
    | zero => exact absurd HA.out (by simp [numnahlaw03_SpreadMoved.j0])
    | succ kj9 =>
      have H := HA.out
      clear HA
      simp only [numnahlaw03_SpreadMoved.j0] at H
      by_cases c33 : x87_9 = true
      · subst c33
        have H1 : (some false) = some r := by rw [if_pos rfl] at H; exact H
        clear H
        have H := H1
        clear H1
        obtain rfl := Option.some.inj H
        go_wp2
        repeat (go_quiet (fail); try go_wp2)
        go_ret
        exact ⟨by first | rfl | (simp [errW_none, errW_some] <;> rfl) | (simp [*, errW_none, errW_some] <;> rfl), by repeat (first | (with_reducible first | exact HB.out | apply below_alloc | apply pw_below_drewN | apply below_drew1) | exact HB.out)⟩
      · replace c33 := Bool.eq_false_iff.mpr c33
        subst c33
        have H1 : (numnahlaw03_SpreadMoved.l0 kj9 t680 t681 t693 0 0) = some r := by rw [if_neg (show ¬ (false = true) by decide)] at H; exact H
        clear H
        have H := H1
        clear H1
        have H' := Aside0.mk H
        clear H
        go_wp2
        repeat (go_quiet (fail); try go_wp2)
        go_loopg [16, 17] kj9 (fun kq v16 v17 w' => ∃ (x16_2 : Int) (x17_2 : Int), v16 = .int .i64 x16_2 ∧ v17 = .int .i64 x17_2 ∧ Aside0 (numnahlaw03_SpreadMoved.l0 kq t680 t681 t693 x16_2 x17_2 = some r) ∧ Aside0 (kq ≤ kj9) ∧ Aside0 (Kd.R (Kd.int .i64) 3 w' w.heap.size (fun k_ => some k_ ≠ (v695 : Value).ownBlock) (.slice Ao12 t681.length co12) t681) ∧ Aside0 (Kd.R (Kd.int .i64) 3 w' w.heap.size (fun k_ => some k_ ≠ ((.slice Ao12 t681.length co12) : Value).ownBlock) v695 t693) ∧ Aside0 (Below w.heap.size w w'))
        case atStart => exact ⟨(0), (0), (by first | rfl | (simp; done) | (simp [*]; done)), (by first | rfl | (simp; done) | (simp [*]; done)), H', ⟨Nat.le_refl _⟩, ⟨by (with_reducible repeat (first | apply Kd.R_alloc | apply Kd.R_drewN | apply Kd.R_drew)); exact HO_7.out⟩, ⟨by (with_reducible repeat (first | apply Kd.R_alloc | apply Kd.R_drewN | apply Kd.R_drew)); exact HO_12.out⟩, ⟨by repeat (first | (with_reducible first | exact HB.out | apply below_alloc | apply pw_below_drewN | apply below_drew1) | exact HB.out)⟩⟩
        case round =>
          clear H'
          try clear c1
          try clear c2
          try clear p2
          try clear c3
          try clear p6
          try clear c14
          try clear c18
          try clear c18b0
          try clear c18b1
          try clear c19
          try clear c19b0
          try clear c19b1
          try clear c20
          try clear c20b0
          try clear c20b1
          try clear c21
          try clear c21b0
          try clear c21b1
          try clear c23
          try clear c25
          try clear c33
          try clear p2
          try clear p6
          obtain ⟨x16_2, x17_2, rfl, rfl, HA, HK2, HO_7, HO_12, HB⟩ := hrel
          cases gk with
          | zero => exact absurd HA.out (by simp [numnahlaw03_SpreadMoved.l0])
          | succ k2 =>
            have H := HA.out
            clear HA
            simp only [numnahlaw03_SpreadMoved.l0] at H
            by_cases c34 : x17_2 < (t681.length : Int)
            · rw [if_pos c34] at H
              have c34b0 : decide (x17_2 < (t681.length : Int)) = true := decide_eq_true c34
              clear c34
              have H' := Aside0.mk H
              clear H
              go_wp2
              repeat (go_quiet (fail); try go_wp2)
              go_loopg [18, 19] k2 (fun kq v18 v19 w' => ∃ (x18_3 : Bool) (x19_3 : Int), v18 = .bool x18_3 ∧ v19 = .int .i64 x19_3 ∧ Aside0 (numnahlaw03_SpreadMoved.l1 kq t680 t681 t693 x16_2 x17_2 x18_3 x19_3 = some r) ∧ Aside0 (kq ≤ k2) ∧ Aside0 (Kd.R (Kd.int .i64) 3 w' w.heap.size (fun k_ => some k_ ≠ (v695 : Value).ownBlock) (.slice Ao12 t681.length co12) t681) ∧ Aside0 (Kd.R (Kd.int .i64) 3 w' w.heap.size (fun k_ => some k_ ≠ ((.slice Ao12 t681.length co12) : Value).ownBlock) v695 t693) ∧ Aside0 (Below w.heap.size w w'))
              case atStart => exact ⟨(true), (0), (by first | rfl | (simp; done) | (simp [*]; done)), (by first | rfl | (simp; done) | (simp [*]; done)), H', ⟨Nat.le_refl _⟩, ⟨by (with_reducible repeat (first | apply Kd.R_alloc | apply Kd.R_drewN | apply Kd.R_drew)); exact HO_7.out⟩, ⟨by (with_reducible repeat (first | apply Kd.R_alloc | apply Kd.R_drewN | apply Kd.R_drew)); exact HO_12.out⟩, ⟨by repeat (first | (with_reducible first | exact HB.out | apply below_alloc | apply pw_below_drewN | apply below_drew1) | exact HB.out)⟩⟩
              case round =>
                clear H'
                try clear c1
                try clear c2
                try clear p2
                try clear c3
                try clear p6
                try clear c14
                try clear c18
                try clear c18b0
                try clear c18b1
                try clear c19
                try clear c19b0
                try clear c19b1
                try clear c20
                try clear c20b0
                try clear c20b1
                try clear c21
                try clear c21b0
                try clear c21b1
                try clear c23
                try clear c25
                try clear c33
                try clear c34
                try clear c34b0
                try clear p2
                try clear p6
                obtain ⟨x18_3, x19_3, rfl, rfl, HA, HK3, HO_7, HO_12, HB⟩ := hrel
                cases gk with
                | zero => exact absurd HA.out (by simp [numnahlaw03_SpreadMoved.l1])
                | succ k3 =>
                  have H := HA.out
                  clear HA
                  simp only [numnahlaw03_SpreadMoved.l1] at H
                  by_cases c35 : x19_3 < x17_2
                  · rw [if_pos c35] at H
                    have c35b0 : decide (x19_3 < x17_2) = true := decide_eq_true c35
                    clear c35
                    by_cases c36 : x18_3 = true
                    · subst c36
                      have H1 : (if 0 ≤ x19_3 then (if x19_3 < (t681.length : Int) then (if 0 ≤ x17_2 then (if x17_2 < (t681.length : Int) then (numnahlaw03_SpreadMoved.l1 k3 t680 t681 t693 x16_2 x17_2 ((rd t681 x19_3) != (rd t681 x17_2)) (wrap64 (x19_3 + 1))) else (none)) else (none)) else (none)) else (none)) = some r := by rw [if_pos rfl] at H; exact H
                      clear H
                      have H := H1
                      clear H1
                      by_cases c37 : 0 ≤ x19_3
                      · rw [if_pos c37] at H
                        have c37b0 : decide (0 ≤ x19_3) = true := decide_eq_true c37
                        clear c37
                        by_cases c38 : x19_3 < (t681.length : Int)
                        · rw [if_pos c38] at H
                          have c38b0 : decide (x19_3 < (t681.length : Int)) = true := decide_eq_true c38
                          clear c38
                          by_cases c39 : 0 ≤ x17_2
                          · rw [if_pos c39] at H
                            have c39b0 : decide (0 ≤ x17_2) = true := decide_eq_true c39
                            clear c39
                            by_cases c40 : x17_2 < (t681.length : Int)
                            · rw [if_pos c40] at H
                              have c40b0 : decide (x17_2 < (t681.length : Int)) = true := decide_eq_true c40
                              clear c40
                              have H' := Aside0.mk H
                              clear H
                              have p703 : 0 ≤ (x19_3 : Int) := of_decide_eq_true (by first | (with_reducible assumption) | assumption)
                              have q703 : x19_3 < (t681.length : Int) := of_decide_eq_true (by first | (with_reducible assumption) | assumption)
                              obtain ⟨ad703, e703, hx703_0⟩ := Kd.at_int (Kd.R_reads' HO_7.out).2.2 x19_3 p703 q703
                              cases e703
                              replace p703 := eq_true p703
                              replace q703 := eq_true q703
                              have p704 : 0 ≤ (x17_2 : Int) := of_decide_eq_true (by first | (with_reducible assumption) | assumption)
                              have q704 : x17_2 < (t681.length : Int) := of_decide_eq_true (by first | (with_reducible assumption) | assumption)
                              obtain ⟨ad704, e704, hx704_0⟩ := Kd.at_int (Kd.R_reads' HO_7.out).2.2 x17_2 p704 q704
                              obtain rfl : ad703 = ad704 := (by injection e704)
                              replace p704 := eq_true p704
                              replace q704 := eq_true q704
                              go_wp2
                              repeat (go_quiet (fail); try go_wp2)
                              go_roundg k3
                              case measure => have := HJ9.out; have := HK2.out; have := HK3.out; omega
                              case rel => exact ⟨(((rd t681 x19_3) != (rd t681 x17_2))), (wrap64 (x19_3 + 1)), (by first | rfl | (simp; done) | (simp [*]; done)), (by first | rfl | (simp; done) | (simp [*]; done)), H', ⟨by have := HJ9.out; have := HK2.out; have := HK3.out; omega⟩, ⟨by (with_reducible repeat (first | apply Kd.R_alloc | apply Kd.R_drewN | apply Kd.R_drew)); exact HO_7.out⟩, ⟨by (with_reducible repeat (first | apply Kd.R_alloc | apply Kd.R_drewN | apply Kd.R_drew)); exact HO_12.out⟩, ⟨by repeat (first | (with_reducible first | exact HB.out | apply below_alloc | apply pw_below_drewN | apply below_drew1) | exact HB.out)⟩⟩
                            · rw [if_neg c40] at H
                              exact absurd H (by simp)
                          · rw [if_neg c39] at H
                            exact absurd H (by simp)
                        · rw [if_neg c38] at H
                          exact absurd H (by simp)
                      · rw [if_neg c37] at H
                        exact absurd H (by simp)
                    · replace c36 := Bool.eq_false_iff.mpr c36
                      subst c36
                      have H1 : (numnahlaw03_SpreadMoved.l1 k3 t680 t681 t693 x16_2 x17_2 false (wrap64 (x19_3 + 1))) = some r := by rw [if_neg (show ¬ (false = true) by decide)] at H; exact H
                      clear H
                      have H := H1
                      clear H1
                      have H' := Aside0.mk H
                      clear H
                      go_wp2
                      repeat (go_quiet (fail); try go_wp2)
                      go_roundg k3
                      case measure => have := HJ9.out; have := HK2.out; have := HK3.out; omega
                      case rel => exact ⟨(false), (wrap64 (x19_3 + 1)), (by first | rfl | (simp; done) | (simp [*]; done)), (by first | rfl | (simp; done) | (simp [*]; done)), H', ⟨by have := HJ9.out; have := HK2.out; have := HK3.out; omega⟩, ⟨by (with_reducible repeat (first | apply Kd.R_alloc | apply Kd.R_drewN | apply Kd.R_drew)); exact HO_7.out⟩, ⟨by (with_reducible repeat (first | apply Kd.R_alloc | apply Kd.R_drewN | apply Kd.R_drew)); exact HO_12.out⟩, ⟨by repeat (first | (with_reducible first | exact HB.out | apply below_alloc | apply pw_below_drewN | apply below_drew1) | exact HB.out)⟩⟩
                  · rw [if_neg c35] at H
                    have c35b0 : decide (x19_3 < x17_2) = false := decide_eq_false c35
                    clear c35
                    by_cases c41 : x18_3 = true
                    · subst c41
                      have H1 : (numnahlaw03_SpreadMoved.l0 k3 t680 t681 t693 (wrap64 (x16_2 + 1)) (wrap64 (x17_2 + 1))) = some r := by rw [if_pos rfl] at H; exact H
                      clear H
                      have H := H1
                      clear H1
                      have H' := Aside0.mk H
                      clear H
                      go_wp2
                      repeat (go_quiet (fail); try go_wp2)
                      go_roundg k3
                      case measure => have := HJ9.out; have := HK2.out; have := HK3.out; omega
                      case rel => exact ⟨(wrap64 (x16_2 + 1)), (wrap64 (x17_2 + 1)), (by first | rfl | (simp; done) | (simp [*]; done)), (by first | rfl | (simp; done) | (simp [*]; done)), H', ⟨by have := HJ9.out; have := HK2.out; have := HK3.out; omega⟩, ⟨by (with_reducible repeat (first | apply Kd.R_alloc | apply Kd.R_drewN | apply Kd.R_drew)); exact HO_7.out⟩, ⟨by (with_reducible repeat (first | apply Kd.R_alloc | apply Kd.R_drewN | apply Kd.R_drew)); exact HO_12.out⟩, ⟨by repeat (first | (with_reducible first | exact HB.out | apply below_alloc | apply pw_below_drewN | apply below_drew1) | exact HB.out)⟩⟩
                    · replace c41 := Bool.eq_false_iff.mpr c41
                      subst c41
                      have H1 : (numnahlaw03_SpreadMoved.l0 k3 t680 t681 t693 x16_2 (wrap64 (x17_2 + 1))) = some r := by rw [if_neg (show ¬ (false = true) by decide)] at H; exact H
                      clear H
                      have H := H1
                      clear H1
                      have H' := Aside0.mk H
                      clear H
                      go_wp2
                      repeat (go_quiet (fail); try go_wp2)
                      go_roundg k3
                      case measure => have := HJ9.out; have := HK2.out; have := HK3.out; omega
                      case rel => exact ⟨(x16_2), (wrap64 (x17_2 + 1)), (by first | rfl | (simp; done) | (simp [*]; done)), (by first | rfl | (simp; done) | (simp [*]; done)), H', ⟨by have := HJ9.out; have := HK2.out; have := HK3.out; omega⟩, ⟨by (with_reducible repeat (first | apply Kd.R_alloc | apply Kd.R_drewN | apply Kd.R_drew)); exact HO_7.out⟩, ⟨by (with_reducible repeat (first | apply Kd.R_alloc | apply Kd.R_drewN | apply Kd.R_drew)); exact HO_12.out⟩, ⟨by repeat (first | (with_reducible first | exact HB.out | apply below_alloc | apply pw_below_drewN | apply below_drew1) | exact HB.out)⟩⟩
            · rw [if_neg c34] at H
              have c34b0 : decide (x17_2 < (t681.length : Int)) = false := decide_eq_false c34
              clear c34
              have H' := Aside0.mk H
              clear H
              go_wp2
              repeat (go_quiet (fail); try go_wp2)
              go_loopg [20] k2 (fun kq v20 w' => ∃ (x20_3 : Int), v20 = .int .i64 x20_3 ∧ Aside0 (numnahlaw03_SpreadMoved.l2 kq t680 t693 x16_2 x20_3 = some r) ∧ Aside0 (kq ≤ k2) ∧ Aside0 (Kd.R (Kd.int .i64) 3 w' w.heap.size (fun _ => True) v695 t693) ∧ Aside0 (Below w.heap.size w w'))
              case atStart => exact ⟨(0), (by first | rfl | (simp; done) | (simp [*]; done)), H', ⟨Nat.le_refl _⟩, ⟨by (with_reducible repeat (first | apply Kd.R_alloc | apply Kd.R_drewN | apply Kd.R_drew)); exact Kd.R_mono HO_12.out (fun _ hk => trivial)⟩, ⟨by repeat (first | (with_reducible first | exact HB.out | apply below_alloc | apply pw_below_drewN | apply below_drew1) | exact HB.out)⟩⟩
              case round =>
                clear H'
                try clear c1
                try clear c2
                try clear p2
                try clear c3
                try clear c4
                try clear p6
                try clear p7
                try clear q7
                try clear hx7
                try clear c14
                try clear c18
                try clear c18b0
                try clear c18b1
                try clear c19
                try clear c19b0
                try clear c19b1
                try clear c20
                try clear c20b0
                try clear c20b1
                try clear c21
                try clear c21b0
                try clear c21b1
                try clear c23
                try clear c25
                try clear c33
                try clear c34
                try clear c34b0
                try clear c35
                try clear c35b0
                try clear c36
                try clear c37
                try clear c37b0
                try clear c38
                try clear c38b0
                try clear c39
                try clear c39b0
                try clear c40
                try clear c40b0
                try clear c41
                try clear hx703_0
                try clear hx704_0
                try clear p2
                try clear p6
                try clear p703
                try clear p704
                try clear q703
                try clear q704
                obtain ⟨x20_3, rfl, HA, HK3, HO_12, HB⟩ := hrel
                cases gk with
                | zero => exact absurd HA.out (by simp [numnahlaw03_SpreadMoved.l2])
                | succ k3 =>
                  have H := HA.out
                  clear HA
                  simp only [numnahlaw03_SpreadMoved.l2] at H
                  by_cases c42 : x20_3 < (t693.length : Int)
                  · rw [if_pos c42] at H
                    have c42b0 : decide (x20_3 < (t693.length : Int)) = true := decide_eq_true c42
                    clear c42
                    by_cases c43 : 0 ≤ x20_3
                    · rw [if_pos c43] at H
                      have c43b0 : decide (0 ≤ x20_3) = true := decide_eq_true c43
                      clear c43
                      by_cases c44 : (rd t693 x20_3) < 1
                      · rw [if_pos c44] at H
                        have c44b0 : decide ((rd t693 x20_3) < 1) = true := decide_eq_true c44
                        clear c44
                        obtain rfl := Option.some.inj H
                        obtain ⟨Ao45, co45, eo45⟩ := Kd.R_slice HO_12.out
                        subst eo45
                        have p705 : 0 ≤ (x20_3 : Int) := of_decide_eq_true (by first | (with_reducible assumption) | assumption)
                        have q705 : x20_3 < (t693.length : Int) := of_decide_eq_true (by first | (with_reducible assumption) | assumption)
                        obtain ⟨ad705, e705, hx705_0⟩ := Kd.at_int (Kd.R_reads' HO_12.out).2.2 x20_3 p705 q705
                        cases e705
                        replace p705 := eq_true p705
                        replace q705 := eq_true q705
                        go_wp2
                        repeat (go_quiet (fail); try go_wp2)
                        go_ret
                        exact ⟨by first | rfl | (simp [errW_none, errW_some] <;> rfl) | (simp [*, errW_none, errW_some] <;> rfl), by repeat (first | (with_reducible first | exact HB.out | apply below_alloc | apply pw_below_drewN | apply below_drew1) | exact HB.out)⟩
                      · rw [if_neg c44] at H
                        have c44b0 : decide ((rd t693 x20_3) < 1) = false := decide_eq_false c44
                        clear c44
                        by_cases c46 : (rd t693 x20_3) > t680
                        · rw [if_pos c46] at H
                          have c46b0 : decide (t680 < (rd t693 x20_3)) = true := decide_eq_true c46
                          clear c46
                          obtain rfl := Option.some.inj H
                          obtain ⟨Ao47, co47, eo47⟩ := Kd.R_slice HO_12.out
                          subst eo47
                          have p705 : 0 ≤ (x20_3 : Int) := of_decide_eq_true (by first | (with_reducible assumption) | assumption)
                          have q705 : x20_3 < (t693.length : Int) := of_decide_eq_true (by first | (with_reducible assumption) | assumption)
                          obtain ⟨ad705, e705, hx705_0⟩ := Kd.at_int (Kd.R_reads' HO_12.out).2.2 x20_3 p705 q705
                          cases e705
                          replace p705 := eq_true p705
                          replace q705 := eq_true q705
                          have p706 : 0 ≤ (x20_3 : Int) := of_decide_eq_true (by first | (with_reducible assumption) | assumption)
                          have q706 : x20_3 < (t693.length : Int) := of_decide_eq_true (by first | (with_reducible assumption) | assumption)
                          obtain ⟨ad706, e706, hx706_0⟩ := Kd.at_int (Kd.R_reads' HO_12.out).2.2 x20_3 p706 q706
                          obtain rfl : ad705 = ad706 := (by injection e706)
                          replace p706 := eq_true p706
                          replace q706 := eq_true q706
                          go_wp2
                          repeat (go_quiet (fail); try go_wp2)
                          go_ret
                          exact ⟨by first | rfl | (simp [errW_none, errW_some] <;> rfl) | (simp [*, errW_none, errW_some] <;> rfl), by repeat (first | (with_reducible first | exact HB.out | apply below_alloc | apply pw_below_drewN | apply below_drew1) | exact HB.out)⟩
                        · rw [if_neg c46] at H
                          have c46b0 : decide (t680 < (rd t693 x20_3)) = false := decide_eq_false c46
                          clear c46
                          by_cases c48 : x20_3 > 0
                          · rw [if_pos c48] at H
                            have c48b0 : decide (0 < x20_3) = true := decide_eq_true c48
                            clear c48
                            obtain ⟨ji49, hji49⟩ : ∃ j_ : Int, (wrap64 (x20_3 - 1)) = j_ := ⟨_, rfl⟩
                            replace H : (if 0 ≤ (ji49) then (if (ji49) < (t693.length : Int) then (if (rd t693 (ji49)) ≥ (rd t693 x20_3) then (some false) else (numnahlaw03_SpreadMoved.l2 k3 t680 t693 x16_2 (wrap64 (x20_3 + 1)))) else (none)) else (none)) = some r := by first | (rw [hji49] at H; exact H) | (simp only [hji49] at H ⊢; exact H)
                            have hji49w : (IntKind.i64.wrap (x20_3 - 1)) = ji49 := (i64_w _).trans hji49
                            by_cases c50 : 0 ≤ (ji49)
                            · rw [if_pos c50] at H
                              have c50b0 : decide (0 ≤ (ji49)) = true := decide_eq_true c50
                              clear c50
                              by_cases c51 : (ji49) < (t693.length : Int)
                              · rw [if_pos c51] at H
                                have c51b0 : decide ((ji49) < (t693.length : Int)) = true := decide_eq_true c51
                                clear c51
                                by_cases c52 : (rd t693 (ji49)) ≥ (rd t693 x20_3)
                                · rw [if_pos c52] at H
                                  have c52b0 : decide ((rd t693 x20_3) ≤ (rd t693 (ji49))) = true := decide_eq_true c52
                                  clear c52
                                  obtain rfl := Option.some.inj H
                                  obtain ⟨Ao53, co53, eo53⟩ := Kd.R_slice HO_12.out
                                  subst eo53
                                  have p705 : 0 ≤ (x20_3 : Int) := of_decide_eq_true (by first | (with_reducible assumption) | assumption)
                                  have q705 : x20_3 < (t693.length : Int) := of_decide_eq_true (by first | (with_reducible assumption) | assumption)
                                  obtain ⟨ad705, e705, hx705_0⟩ := Kd.at_int (Kd.R_reads' HO_12.out).2.2 x20_3 p705 q705
                                  cases e705
                                  replace p705 := eq_true p705
                                  replace q705 := eq_true q705
                                  have p706 : 0 ≤ (x20_3 : Int) := of_decide_eq_true (by first | (with_reducible assumption) | assumption)
                                  have q706 : x20_3 < (t693.length : Int) := of_decide_eq_true (by first | (with_reducible assumption) | assumption)
                                  obtain ⟨ad706, e706, hx706_0⟩ := Kd.at_int (Kd.R_reads' HO_12.out).2.2 x20_3 p706 q706
                                  obtain rfl : ad705 = ad706 := (by injection e706)
                                  replace p706 := eq_true p706
                                  replace q706 := eq_true q706
                                  have p707 : 0 ≤ ((ji49) : Int) := of_decide_eq_true (by first | (with_reducible assumption) | assumption)
                                  have q707 : (ji49) < (t693.length : Int) := of_decide_eq_true (by first | (with_reducible assumption) | assumption)
                                  obtain ⟨ad707, e707, hx707_0⟩ := Kd.at_int (Kd.R_reads' HO_12.out).2.2 (ji49) p707 q707
                                  obtain rfl : ad705 = ad707 := (by injection e707)
                                  replace p707 := eq_true p707
                                  replace q707 := eq_true q707
                                  have p708 : 0 ≤ (x20_3 : Int) := of_decide_eq_true (by first | (with_reducible assumption) | assumption)
                                  have q708 : x20_3 < (t693.length : Int) := of_decide_eq_true (by first | (with_reducible assumption) | assumption)
                                  obtain ⟨ad708, e708, hx708_0⟩ := Kd.at_int (Kd.R_reads' HO_12.out).2.2 x20_3 p708 q708
                                  obtain rfl : ad705 = ad708 := (by injection e708)
                                  replace p708 := eq_true p708
                                  replace q708 := eq_true q708
                                  go_wp2
                                  repeat (go_quiet (fail); try go_wp2)
                                  go_ret
                                  exact ⟨by first | rfl | (simp [errW_none, errW_some] <;> rfl) | (simp only [← hji49]; first | rfl | (simp [errW_none, errW_some] <;> rfl)) | (simp [*, errW_none, errW_some] <;> rfl), by repeat (first | (with_reducible first | exact HB.out | apply below_alloc | apply pw_below_drewN | apply below_drew1) | exact HB.out)⟩
                                · rw [if_neg c52] at H
                                  have c52b0 : decide ((rd t693 x20_3) ≤ (rd t693 (ji49))) = false := decide_eq_false c52
                                  clear c52
                                  have H' := Aside0.mk H
                                  clear H
                                  obtain ⟨Ao54, co54, eo54⟩ := Kd.R_slice HO_12.out
                                  subst eo54
                                  have p705 : 0 ≤ (x20_3 : Int) := of_decide_eq_true (by first | (with_reducible assumption) | assumption)
                                  have q705 : x20_3 < (t693.length : Int) := of_decide_eq_true (by first | (with_reducible assumption) | assumption)
                                  obtain ⟨ad705, e705, hx705_0⟩ := Kd.at_int (Kd.R_reads' HO_12.out).2.2 x20_3 p705 q705
                                  cases e705
                                  replace p705 := eq_true p705
                                  replace q705 := eq_true q705
                                  have p706 : 0 ≤ (x20_3 : Int) := of_decide_eq_true (by first | (with_reducible assumption) | assumption)
                                  have q706 : x20_3 < (t693.length : Int) := of_decide_eq_true (by first | (with_reducible assumption) | assumption)
                                  obtain ⟨ad706, e706, hx706_0⟩ := Kd.at_int (Kd.R_reads' HO_12.out).2.2 x20_3 p706 q706
                                  obtain rfl : ad705 = ad706 := (by injection e706)
                                  replace p706 := eq_true p706
                                  replace q706 := eq_true q706
                                  have p707 : 0 ≤ ((ji49) : Int) := of_decide_eq_true (by first | (with_reducible assumption) | assumption)
                                  have q707 : (ji49) < (t693.length : Int) := of_decide_eq_true (by first | (with_reducible assumption) | assumption)
                                  obtain ⟨ad707, e707, hx707_0⟩ := Kd.at_int (Kd.R_reads' HO_12.out).2.2 (ji49) p707 q707
                                  obtain rfl : ad705 = ad707 := (by injection e707)
                                  replace p707 := eq_true p707
                                  replace q707 := eq_true q707
                                  have p708 : 0 ≤ (x20_3 : Int) := of_decide_eq_true (by first | (with_reducible assumption) | assumption)
                                  have q708 : x20_3 < (t693.length : Int) := of_decide_eq_true (by first | (with_reducible assumption) | assumption)
                                  obtain ⟨ad708, e708, hx708_0⟩ := Kd.at_int (Kd.R_reads' HO_12.out).2.2 x20_3 p708 q708
                                  obtain rfl : ad705 = ad708 := (by injection e708)
                                  replace p708 := eq_true p708
                                  replace q708 := eq_true q708
                                  go_wp2
                                  repeat (go_quiet (fail); try go_wp2)
                                  go_roundg k3
                                  case measure => have := HJ9.out; have := HK2.out; have := HK3.out; omega
                                  case rel => exact ⟨(wrap64 (x20_3 + 1)), (by first | rfl | (simp; done) | (simp [*]; done)), H', ⟨by have := HJ9.out; have := HK2.out; have := HK3.out; omega⟩, ⟨by (with_reducible repeat (first | apply Kd.R_alloc | apply Kd.R_drewN | apply Kd.R_drew)); exact HO_12.out⟩, ⟨by repeat (first | (with_reducible first | exact HB.out | apply below_alloc | apply pw_below_drewN | apply below_drew1) | exact HB.out)⟩⟩
                              · rw [if_neg c51] at H
                                exact absurd H (by simp)
                            · rw [if_neg c50] at H
                              exact absurd H (by simp)
                          · rw [if_neg c48] at H
                            have c48b0 : decide (0 < x20_3) = false := decide_eq_false c48
                            clear c48
                            have H' := Aside0.mk H
                            clear H
                            obtain ⟨Ao55, co55, eo55⟩ := Kd.R_slice HO_12.out
                            subst eo55
                            have p705 : 0 ≤ (x20_3 : Int) := of_decide_eq_true (by first | (with_reducible assumption) | assumption)
                            have q705 : x20_3 < (t693.length : Int) := of_decide_eq_true (by first | (with_reducible assumption) | assumption)
                            obtain ⟨ad705, e705, hx705_0⟩ := Kd.at_int (Kd.R_reads' HO_12.out).2.2 x20_3 p705 q705
                            cases e705
                            replace p705 := eq_true p705
                            replace q705 := eq_true q705
                            have p706 : 0 ≤ (x20_3 : Int) := of_decide_eq_true (by first | (with_reducible assumption) | assumption)
                            have q706 : x20_3 < (t693.length : Int) := of_decide_eq_true (by first | (with_reducible assumption) | assumption)
                            obtain ⟨ad706, e706, hx706_0⟩ := Kd.at_int (Kd.R_reads' HO_12.out).2.2 x20_3 p706 q706
                            obtain rfl : ad705 = ad706 := (by injection e706)
                            replace p706 := eq_true p706
                            replace q706 := eq_true q706
                            go_wp2
                            repeat (go_quiet (fail); try go_wp2)
                            go_roundg k3
                            case measure => have := HJ9.out; have := HK2.out; have := HK3.out; omega
                            case rel => exact ⟨(wrap64 (x20_3 + 1)), (by first | rfl | (simp; done) | (simp [*]; done)), H', ⟨by have := HJ9.out; have := HK2.out; have := HK3.out; omega⟩, ⟨by (with_reducible repeat (first | apply Kd.R_alloc | apply Kd.R_drewN | apply Kd.R_drew)); exact HO_12.out⟩, ⟨by repeat (first | (with_reducible first | exact HB.out | apply below_alloc | apply pw_below_drewN | apply below_drew1) | exact HB.out)⟩⟩
                    · rw [if_neg c43] at H
                      exact absurd H (by simp)
                  · rw [if_neg c42] at H
                    have c42b0 : decide (x20_3 < (t693.length : Int)) = false := decide_eq_false c42
                    clear c42
                    by_cases c56 : 0 < (t693.length : Int)
                    · rw [if_pos c56] at H
                      have c56b0 : decide (0 < (t693.length : Int)) = true := decide_eq_true c56
                      have c56b1 : decide (0 < t693.length) = true := decide_eq_true (by omega)
                      clear c56
                      by_cases c57 : (wrap64 ((rd t693 0) * x16_2)) ≤ t680
                      · rw [if_pos c57] at H
                        have c57b0 : decide ((wrap64 ((rd t693 0) * x16_2)) ≤ t680) = true := decide_eq_true c57
                        clear c57
                        obtain ⟨ji58, hji58⟩ : ∃ j_ : Int, (wrap64 ((t693.length : Int) - 1)) = j_ := ⟨_, rfl⟩
                        replace H : (if 0 ≤ (ji58) then (if (ji58) < (t693.length : Int) then (if (wrap64 ((rd t693 (ji58)) * x16_2)) ≥ t680 then ((numnahlaw03_awake.f k3).bind fun t711 => (some t711)) else (some false)) else (none)) else (none)) = some r := by first | (rw [hji58] at H; exact H) | (simp only [hji58] at H ⊢; exact H)
                        have hji58w : (IntKind.i64.wrap ((t693.length : Int) - 1)) = ji58 := (i64_w _).trans hji58
                        by_cases c59 : 0 ≤ (ji58)
                        · rw [if_pos c59] at H
                          have c59b0 : decide (0 ≤ (ji58)) = true := decide_eq_true c59
                          clear c59
                          by_cases c60 : (ji58) < (t693.length : Int)
                          · rw [if_pos c60] at H
                            have c60b0 : decide ((ji58) < (t693.length : Int)) = true := decide_eq_true c60
                            clear c60
                            by_cases c61 : (wrap64 ((rd t693 (ji58)) * x16_2)) ≥ t680
                            · rw [if_pos c61] at H
                              have c61b0 : decide (t680 ≤ (wrap64 ((rd t693 (ji58)) * x16_2))) = true := decide_eq_true c61
                              clear c61
                              replace H := Option.bind_eq_some_iff.mp H
                              obtain ⟨t711, A620, H⟩ := H
                              replace H : (some t711) = some r := H
                              have A62 := Aside0.mk A620
                              clear A620
                              obtain rfl := Option.some.inj H
                              obtain ⟨Ao63, co63, eo63⟩ := Kd.R_slice HO_12.out
                              subst eo63
                              have p709 : 0 ≤ (0 : Int) := (by omega)
                              have q709 : 0 < (t693.length : Int) := of_decide_eq_true (by first | (with_reducible assumption) | assumption)
                              obtain ⟨ad709, e709, hx709_0⟩ := Kd.at_int (Kd.R_reads' HO_12.out).2.2 0 p709 q709
                              cases e709
                              have qi709 : (0 < t693.length) = True := eq_true (by omega)
                              (try rw [show ((0 : Int)).toNat = 0 from rfl] at hx709_0)
                              (try rw [Addr.add_zero'] at hx709_0)
                              replace p709 := eq_true p709
                              replace q709 := eq_true q709
                              have p710 : 0 ≤ ((ji58) : Int) := of_decide_eq_true (by first | (with_reducible assumption) | assumption)
                              have q710 : (ji58) < (t693.length : Int) := of_decide_eq_true (by first | (with_reducible assumption) | assumption)
                              obtain ⟨ad710, e710, hx710_0⟩ := Kd.at_int (Kd.R_reads' HO_12.out).2.2 (ji58) p710 q710
                              obtain rfl : ad709 = ad710 := (by injection e710)
                              replace p710 := eq_true p710
                              replace q710 := eq_true q710
                              go_wp2_with (first | (go_at_call 22; (with_reducible refine (numnahlaw03_awake.calls k3  t711 _ A62.out).mono ?_); rintro e w64 ⟨rfl, hb⟩; have n0_ := Aside0.mk (Kd.R_below (by (with_reducible repeat (first | apply Kd.R_alloc | apply Kd.R_drewN | apply Kd.R_drew)); exact HO_12.out) hb); have n1_ := Aside0.mk (below_step (by repeat (first | (with_reducible first | exact HB.out | apply below_alloc | apply pw_below_drewN | apply below_drew1) | exact HB.out)) hb); clear HO_12; clear HB; have HO_12 := n0_; have HB := n1_; clear n0_ n1_; (try clear hb); (try clear hb2); (try clear hk); (try clear hi)))
                              repeat (go_quiet (first | (go_at_call 22; (with_reducible refine (numnahlaw03_awake.calls k3  t711 _ A62.out).mono ?_); rintro e w64 ⟨rfl, hb⟩; have n0_ := Aside0.mk (Kd.R_below (by (with_reducible repeat (first | apply Kd.R_alloc | apply Kd.R_drewN | apply Kd.R_drew)); exact HO_12.out) hb); have n1_ := Aside0.mk (below_step (by repeat (first | (with_reducible first | exact HB.out | apply below_alloc | apply pw_below_drewN | apply below_drew1) | exact HB.out)) hb); clear HO_12; clear HB; have HO_12 := n0_; have HB := n1_; clear n0_ n1_; (try clear hb); (try clear hb2); (try clear hk); (try clear hi))); try go_wp2_with (first | (go_at_call 22; (with_reducible refine (numnahlaw03_awake.calls k3  t711 _ A62.out).mono ?_); rintro e w64 ⟨rfl, hb⟩; have n0_ := Aside0.mk (Kd.R_below (by (with_reducible repeat (first | apply Kd.R_alloc | apply Kd.R_drewN | apply Kd.R_drew)); exact HO_12.out) hb); have n1_ := Aside0.mk (below_step (by repeat (first | (with_reducible first | exact HB.out | apply below_alloc | apply pw_below_drewN | apply below_drew1) | exact HB.out)) hb); clear HO_12; clear HB; have HO_12 := n0_; have HB := n1_; clear n0_ n1_; (try clear hb); (try clear hb2); (try clear hk); (try clear hi))))
                              go_ret
                              exact ⟨by first | rfl | (simp [errW_none, errW_some] <;> rfl) | (simp only [← hji58]; first | rfl | (simp [errW_none, errW_some] <;> rfl)) | (simp [*, errW_none, errW_some] <;> rfl), by repeat (first | (with_reducible first | exact HB.out | apply below_alloc | apply pw_below_drewN | apply below_drew1) | exact HB.out)⟩
                            · rw [if_neg c61] at H
                              have c61b0 : decide (t680 ≤ (wrap64 ((rd t693 (ji58)) * x16_2))) = false := decide_eq_false c61
                              clear c61
                              obtain rfl := Option.some.inj H
                              obtain ⟨Ao65, co65, eo65⟩ := Kd.R_slice HO_12.out
                              subst eo65
                              have p709 : 0 ≤ (0 : Int) := (by omega)
                              have q709 : 0 < (t693.length : Int) := of_decide_eq_true (by first | (with_reducible assumption) | assumption)
                              obtain ⟨ad709, e709, hx709_0⟩ := Kd.at_int (Kd.R_reads' HO_12.out).2.2 0 p709 q709
                              cases e709
                              have qi709 : (0 < t693.length) = True := eq_true (by omega)
                              (try rw [show ((0 : Int)).toNat = 0 from rfl] at hx709_0)
                              (try rw [Addr.add_zero'] at hx709_0)
                              replace p709 := eq_true p709
                              replace q709 := eq_true q709
                              have p710 : 0 ≤ ((ji58) : Int) := of_decide_eq_true (by first | (with_reducible assumption) | assumption)
                              have q710 : (ji58) < (t693.length : Int) := of_decide_eq_true (by first | (with_reducible assumption) | assumption)
                              obtain ⟨ad710, e710, hx710_0⟩ := Kd.at_int (Kd.R_reads' HO_12.out).2.2 (ji58) p710 q710
                              obtain rfl : ad709 = ad710 := (by injection e710)
                              replace p710 := eq_true p710
                              replace q710 := eq_true q710
                              go_wp2
                              repeat (go_quiet (fail); try go_wp2)
                              go_ret
                              exact ⟨by first | rfl | (simp [errW_none, errW_some] <;> rfl) | (simp only [← hji58]; first | rfl | (simp [errW_none, errW_some] <;> rfl)) | (simp [*, errW_none, errW_some] <;> rfl), by repeat (first | (with_reducible first | exact HB.out | apply below_alloc | apply pw_below_drewN | apply below_drew1) | exact HB.out)⟩
                          · rw [if_neg c60] at H
                            exact absurd H (by simp)
                        · rw [if_neg c59] at H
                          exact absurd H (by simp)
                      · rw [if_neg c57] at H
                        have c57b0 : decide ((wrap64 ((rd t693 0) * x16_2)) ≤ t680) = false := decide_eq_false c57
                        clear c57
                        obtain rfl := Option.some.inj H
                        obtain ⟨Ao66, co66, eo66⟩ := Kd.R_slice HO_12.out
                        subst eo66
                        have p709 : 0 ≤ (0 : Int) := (by omega)
                        have q709 : 0 < (t693.length : Int) := of_decide_eq_true (by first | (with_reducible assumption) | assumption)
                        obtain ⟨ad709, e709, hx709_0⟩ := Kd.at_int (Kd.R_reads' HO_12.out).2.2 0 p709 q709
                        cases e709
                        have qi709 : (0 < t693.length) = True := eq_true (by omega)
                        (try rw [show ((0 : Int)).toNat = 0 from rfl] at hx709_0)
                        (try rw [Addr.add_zero'] at hx709_0)
                        replace p709 := eq_true p709
                        replace q709 := eq_true q709
                        go_wp2
                        repeat (go_quiet (fail); try go_wp2)
                        go_ret
                        exact ⟨by first | rfl | (simp [errW_none, errW_some] <;> rfl) | (simp [*, errW_none, errW_some] <;> rfl), by repeat (first | (with_reducible first | exact HB.out | apply below_alloc | apply pw_below_drewN | apply below_drew1) | exact HB.out)⟩
                    · rw [if_neg c56] at H
                      exact absurd H (by simp)

/-- THE ONE PURE STATEMENT of numnahlaw03_SpreadMoved: yours. -/
def numnahlaw03_SpreadMoved.Pure : Prop := ∀ (a0 : Int) (l1 : List Int) (a2 : Int), (Lit.int .i64 a0).wf = true → l1.length ≤ maxLen → l1.length * 8 ≤ 140737488351232 → (∀ x ∈ l1, (Lit.int .i64 x).wf = true) → (Lit.int .i64 a2).wf = true → ∃ k, numnahlaw03_SpreadMoved.f k a0 l1 a2 = some true
theorem numnahlaw03_SpreadMoved.walk (P : numnahlaw03_SpreadMoved.Pure) (a0 : Int) (a1 : Option Addr) (len1 cap1 : Nat) (z1 : List Int) (a2 : Int) (w : World) (w0 : (Lit.int .i64 a0).wf = true) (w1 : (a1 = none ∧ len1 = 0 ∧ cap1 = 0 ∧ z1 = []) ∨ ∃ x, a1 = some x ∧ len1 ≤ cap1 ∧ cap1 ≤ maxLen ∧ z1.length = cap1 ∧ (∀ i, i < z1.length → w.cell? (x.add i) = some (.int .i64 (z1.getD i 0))) ∧ ∀ n ∈ z1, (Lit.int .i64 n).wf = true) (y1 : len1 * 8 ≤ 140737488351232) (w2 : (Lit.int .i64 a2).wf = true) :
    Calls Try.prog 14 #[.int .i64 a0, .slice a1 len1 cap1, .int .i64 a2] w fun e w' => e = .returned (.bool true) ∧ Below w.heap.size w w' := by
  obtain ⟨l1, rfl, hr1, hm1, hw1, hc1⟩ := ReadsInt.ofRowC w1
  obtain ⟨k, h⟩ := P a0 l1 a2 w0 hm1 y1 hw1 w2
  refine (numnahlaw03_SpreadMoved.calls k a0 _ _ l1 a2 true w (Kd.C_of_reads (d := (0 : Int)) (h1 := fun _ => rfl) hr1) hc1 h).mono ?_
  rintro e w' ⟨rfl, hd⟩
  exact ⟨rfl, hd⟩

end Go.Proofs.Ythngclneffngbaa.Pr
