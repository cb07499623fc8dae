-- Laid by wip/tools/inj.py of this project, which drives the kit's printer. Lean checks it.
import Derived.Test.YthngclneffngbaaPr0
import Derived.Test.YthngclneffngbaaHGaps
import Derived.Test.YthngclneffngbaaHLine
import Derived.Test.YthngclneffngbaaPrA1
import Derived.Test.YthngclneffngbaaPrA2
import Derived.Test.YthngclneffngbaaPrA4
import Derived.Test.YthngclneffngbaaPrB1
import Derived.Test.YthngclneffngbaaPrEq1
namespace Go.Proofs.Ythngclneffngbaa.Pr
open Go.RowKit Go.Proofs.YthngclneffngbaaW.PrintWords Go.Proofs.YthngclneffngbaaW.PrintLast Go.Proofs.YthngclneffngbaaW.PrintMore
attribute [local go_sem] max2_int min2_int max_two min_two max_three min_three max_four min_four   -- for this text's walks alone
set_option linter.unusedVariables false
set_option linter.unusedSimpArgs false

attribute [local go_sem high] eqA26
/-! ### numnahlaw03_SpreadEven: function 13 -/
mutual
def numnahlaw03_SpreadEven.j0 : Nat → Int → List Int → Bool → Option (Bool)
  | 0, _, _, _ => none
  | k + 1, x5, x6, x76 => if x76 = true then (some false) else (if 0 ≤ x5 then (if (x5 : Int).toNat ≤ 281474976710656 then (numnahlaw03_SpreadEven.l0 k x5 x6 (List.replicate (x5 : Int).toNat false) 0) else (none)) else (none))
def numnahlaw03_SpreadEven.l0 : Nat → Int → List Int → List Bool → Int → Option (Bool)
  | 0, _, _, _, _ => none
  | k + 1, x5, x6, x14, x15 => if x15 < x5 then (if 0 ≤ x15 then (if x15 < (x6.length : Int) then (if (rd x6 x15) < 0 then (some false) else (if (rd x6 x15) ≥ x5 then (some false) else (if 0 ≤ (rd x6 x15) then (if (rd x6 x15) < (x14.length : Int) then (if rdOf false x14 (rd x6 x15) = true then (some false) else (numnahlaw03_SpreadEven.l0 k x5 x6 (x14.set ((rd x6 x15) : Int).toNat true) (wrap64 (x15 + 1)))) else (none)) else (none)))) else (none)) else (none)) else ((numnahlaw03_awake.f k).bind fun t679 => (some t679))
end
def numnahlaw03_SpreadEven.f (k : Nat) (a0 : Int) (a1 : Int) : Option (Bool) := (numnahlaw03_mod.f a0 15).bind fun t648 => ((numnahlaw03_mod.f a1 5).bind fun t649 => ((numnahref03_Whole.f k (wrap64 (2 + t648)) (wrap64 (1 + t649)) 60).bind fun t650 => (if t650 = 0 then ((numnahlaw03_awake.f k).bind fun t651 => (some t651)) else ((spread_Series.f k (wrap64 (2 + t648)) (wrap64 (1 + t649)) t650).bind fun bt652 => ((spread_Line.f t650 bt652.1).bind fun bt656 => ((spread_Gaps.f t650 bt652.1).bind fun bt662 => (if bt652.2 = 0 then (if bt656.2.2.2.2 = 0 then (if bt662.2 = 0 then (if (bt652.1.length : Int) = t650 then (if (!(bt656.1 == 1) || (!(bt656.2.1 == t650))) = true then (numnahlaw03_SpreadEven.j0 k t650 bt652.1 true) else ((numnahlaw03_ints.f k bt662.1 (([1] : List Int))).bind fun t669 => (numnahlaw03_SpreadEven.j0 k t650 bt652.1 (!t669)))) else (numnahlaw03_SpreadEven.j0 k t650 bt652.1 true)) else (numnahlaw03_SpreadEven.j0 k t650 bt652.1 true)) else (numnahlaw03_SpreadEven.j0 k t650 bt652.1 true)) else (numnahlaw03_SpreadEven.j0 k t650 bt652.1 true))))))))
theorem numnahlaw03_SpreadEven.mono_l : ∀ k, (∀ y0 y1 y2, LeO (numnahlaw03_SpreadEven.j0 k y0 y1 y2) (numnahlaw03_SpreadEven.j0 (k + 1) y0 y1 y2)) ∧ (∀ y0 y1 y2 y3, LeO (numnahlaw03_SpreadEven.l0 k y0 y1 y2 y3) (numnahlaw03_SpreadEven.l0 (k + 1) y0 y1 y2 y3))
  | 0 => ⟨fun _ _ _ r h => by simp [numnahlaw03_SpreadEven.j0] at h, fun _ _ _ _ r h => by simp [numnahlaw03_SpreadEven.l0] at h⟩
  | k + 1 => by
    obtain ⟨ih0, ih1⟩ := numnahlaw03_SpreadEven.mono_l k
    refine ⟨?_, ?_⟩
    · intro y0 y1 y2
      unfold numnahlaw03_SpreadEven.j0
      repeat' first
      | (with_reducible exact ih0 _ _ _)
      | (with_reducible exact ih1 _ _ _ _)
      | (with_reducible exact numnahlaw03_awake.mono _)
      | (with_reducible exact numnahlaw03_ints.mono _ _ _)
      | (with_reducible exact numnahref03_Whole.mono _ _ _ _)
      | (with_reducible exact spread_Series.mono _ _ _ _)
      | (with_reducible exact LeO.refl _)
      | (with_reducible exact LeO.none _)
      | (with_reducible refine LeO.ite ?_ ?_)
      | (with_reducible refine LeO.bind ?_ (fun _ => ?_))
      | exact ih0 _ _ _
      | exact ih1 _ _ _ _
      | exact numnahlaw03_awake.mono _
      | exact numnahlaw03_ints.mono _ _ _
      | exact numnahref03_Whole.mono _ _ _ _
      | exact spread_Series.mono _ _ _ _
      | exact LeO.none _
      | refine LeO.ite ?_ ?_
      | refine LeO.bind ?_ (fun _ => ?_)
    · intro y0 y1 y2 y3
      unfold numnahlaw03_SpreadEven.l0
      repeat' first
      | (with_reducible exact ih0 _ _ _)
      | (with_reducible exact ih1 _ _ _ _)
      | (with_reducible exact numnahlaw03_awake.mono _)
      | (with_reducible exact numnahlaw03_ints.mono _ _ _)
      | (with_reducible exact numnahref03_Whole.mono _ _ _ _)
      | (with_reducible exact spread_Series.mono _ _ _ _)
      | (with_reducible exact LeO.refl _)
      | (with_reducible exact LeO.none _)
      | (with_reducible refine LeO.ite ?_ ?_)
      | (with_reducible refine LeO.bind ?_ (fun _ => ?_))
      | exact ih0 _ _ _
      | exact ih1 _ _ _ _
      | exact numnahlaw03_awake.mono _
      | exact numnahlaw03_ints.mono _ _ _
      | exact numnahref03_Whole.mono _ _ _ _
      | exact spread_Series.mono _ _ _ _
      | exact LeO.none _
      | refine LeO.ite ?_ ?_
      | refine LeO.bind ?_ (fun _ => ?_)
theorem numnahlaw03_SpreadEven.mono : ∀ a0 a1 k, LeO (numnahlaw03_SpreadEven.f k a0 a1) (numnahlaw03_SpreadEven.f (k + 1) a0 a1) := by
  intro a0 a1 k
  obtain ⟨ih0, ih1⟩ := numnahlaw03_SpreadEven.mono_l k
  unfold numnahlaw03_SpreadEven.f
  repeat' first
      | (with_reducible exact ih0 _ _ _)
      | (with_reducible exact ih1 _ _ _ _)
      | (with_reducible exact numnahlaw03_awake.mono _)
      | (with_reducible exact numnahlaw03_ints.mono _ _ _)
      | (with_reducible exact numnahref03_Whole.mono _ _ _ _)
      | (with_reducible exact spread_Series.mono _ _ _ _)
      | (with_reducible exact LeO.refl _)
      | (with_reducible exact LeO.none _)
      | (with_reducible refine LeO.ite ?_ ?_)
      | (with_reducible refine LeO.bind ?_ (fun _ => ?_))
      | exact ih0 _ _ _
      | exact ih1 _ _ _ _
      | exact numnahlaw03_awake.mono _
      | exact numnahlaw03_ints.mono _ _ _
      | exact numnahref03_Whole.mono _ _ _ _
      | exact spread_Series.mono _ _ _ _
      | exact LeO.none _
      | refine LeO.ite ?_ ?_
      | refine LeO.bind ?_ (fun _ => ?_)
set_option maxHeartbeats 8000000 in
set_option maxRecDepth 100000 in
theorem numnahlaw03_SpreadEven.calls (k : Nat) (a0 : Int) (a1 : Int) (r : Bool) (w : World) (h : numnahlaw03_SpreadEven.f k a0 a1 = some r) :
    Calls Try.prog 13 #[.int .i64 a0, .int .i64 a1] w fun e w' => e = .returned (.bool r) ∧ Below w.heap.size w w' := by
  have hu26 := Try.underlying26
  have HB := Aside0.mk (Below.refl w.heap.size w)
  have H : ((numnahlaw03_mod.f a0 15).bind fun t648 => ((numnahlaw03_mod.f a1 5).bind fun t649 => ((numnahref03_Whole.f k (wrap64 (2 + t648)) (wrap64 (1 + t649)) 60).bind fun t650 => (if t650 = 0 then ((numnahlaw03_awake.f k).bind fun t651 => (some t651)) else ((spread_Series.f k (wrap64 (2 + t648)) (wrap64 (1 + t649)) t650).bind fun bt652 => ((spread_Line.f t650 bt652.1).bind fun bt656 => ((spread_Gaps.f t650 bt652.1).bind fun bt662 => (if bt652.2 = 0 then (if bt656.2.2.2.2 = 0 then (if bt662.2 = 0 then (if (bt652.1.length : Int) = t650 then (if (!(bt656.1 == 1) || (!(bt656.2.1 == t650))) = true then (numnahlaw03_SpreadEven.j0 k t650 bt652.1 true) else ((numnahlaw03_ints.f k bt662.1 (([1] : List Int))).bind fun t669 => (numnahlaw03_SpreadEven.j0 k t650 bt652.1 (!t669)))) else (numnahlaw03_SpreadEven.j0 k t650 bt652.1 true)) else (numnahlaw03_SpreadEven.j0 k t650 bt652.1 true)) else (numnahlaw03_SpreadEven.j0 k t650 bt652.1 true)) else (numnahlaw03_SpreadEven.j0 k t650 bt652.1 true))))))))) = some r := h
  clear h
  replace H := Option.bind_eq_some_iff.mp H
  obtain ⟨t648, A30, H⟩ := H
  replace H : ((numnahlaw03_mod.f a1 5).bind fun t649 => ((numnahref03_Whole.f k (wrap64 (2 + t648)) (wrap64 (1 + t649)) 60).bind fun t650 => (if t650 = 0 then ((numnahlaw03_awake.f k).bind fun t651 => (some t651)) else ((spread_Series.f k (wrap64 (2 + t648)) (wrap64 (1 + t649)) t650).bind fun bt652 => ((spread_Line.f t650 bt652.1).bind fun bt656 => ((spread_Gaps.f t650 bt652.1).bind fun bt662 => (if bt652.2 = 0 then (if bt656.2.2.2.2 = 0 then (if bt662.2 = 0 then (if (bt652.1.length : Int) = t650 then (if (!(bt656.1 == 1) || (!(bt656.2.1 == t650))) = true then (numnahlaw03_SpreadEven.j0 k t650 bt652.1 true) else ((numnahlaw03_ints.f k bt662.1 (([1] : List Int))).bind fun t669 => (numnahlaw03_SpreadEven.j0 k t650 bt652.1 (!t669)))) else (numnahlaw03_SpreadEven.j0 k t650 bt652.1 true)) else (numnahlaw03_SpreadEven.j0 k t650 bt652.1 true)) else (numnahlaw03_SpreadEven.j0 k t650 bt652.1 true)) else (numnahlaw03_SpreadEven.j0 k t650 bt652.1 true)))))))) = some r := H
  have A3 := Aside0.mk A30
  clear A30
  replace H := Option.bind_eq_some_iff.mp H
  obtain ⟨t649, A40, H⟩ := H
  replace H : ((numnahref03_Whole.f k (wrap64 (2 + t648)) (wrap64 (1 + t649)) 60).bind fun t650 => (if t650 = 0 then ((numnahlaw03_awake.f k).bind fun t651 => (some t651)) else ((spread_Series.f k (wrap64 (2 + t648)) (wrap64 (1 + t649)) t650).bind fun bt652 => ((spread_Line.f t650 bt652.1).bind fun bt656 => ((spread_Gaps.f t650 bt652.1).bind fun bt662 => (if bt652.2 = 0 then (if bt656.2.2.2.2 = 0 then (if bt662.2 = 0 then (if (bt652.1.length : Int) = t650 then (if (!(bt656.1 == 1) || (!(bt656.2.1 == t650))) = true then (numnahlaw03_SpreadEven.j0 k t650 bt652.1 true) else ((numnahlaw03_ints.f k bt662.1 (([1] : List Int))).bind fun t669 => (numnahlaw03_SpreadEven.j0 k t650 bt652.1 (!t669)))) else (numnahlaw03_SpreadEven.j0 k t650 bt652.1 true)) else (numnahlaw03_SpreadEven.j0 k t650 bt652.1 true)) else (numnahlaw03_SpreadEven.j0 k t650 bt652.1 true)) else (numnahlaw03_SpreadEven.j0 k t650 bt652.1 true))))))) = some r := H
  have A4 := Aside0.mk A40
  clear A40
  replace H := Option.bind_eq_some_iff.mp H
  obtain ⟨t650, A50, H⟩ := H
  replace H : (if t650 = 0 then ((numnahlaw03_awake.f k).bind fun t651 => (some t651)) else ((spread_Series.f k (wrap64 (2 + t648)) (wrap64 (1 + t649)) t650).bind fun bt652 => ((spread_Line.f t650 bt652.1).bind fun bt656 => ((spread_Gaps.f t650 bt652.1).bind fun bt662 => (if bt652.2 = 0 then (if bt656.2.2.2.2 = 0 then (if bt662.2 = 0 then (if (bt652.1.length : Int) = t650 then (if (!(bt656.1 == 1) || (!(bt656.2.1 == t650))) = true then (numnahlaw03_SpreadEven.j0 k t650 bt652.1 true) else ((numnahlaw03_ints.f k bt662.1 (([1] : List Int))).bind fun t669 => (numnahlaw03_SpreadEven.j0 k t650 bt652.1 (!t669)))) else (numnahlaw03_SpreadEven.j0 k t650 bt652.1 true)) else (numnahlaw03_SpreadEven.j0 k t650 bt652.1 true)) else (numnahlaw03_SpreadEven.j0 k t650 bt652.1 true)) else (numnahlaw03_SpreadEven.j0 k t650 bt652.1 true)))))) = some r := H
  have A5 := Aside0.mk A50
  clear A50
  by_cases c6 : t650 = 0
  · rw [if_pos c6] at H
    have c6b0 : (t650 == 0) = true := beq_iff_eq.mpr c6
    have c6b1 : (t650 != 0) = false := bne_eq_false_iff_eq.mpr c6
    clear c6
    replace H := Option.bind_eq_some_iff.mp H
    obtain ⟨t651, A70, H⟩ := H
    replace H : (some t651) = some r := H
    have A7 := Aside0.mk A70
    clear A70
    obtain rfl := Option.some.inj H
    go_enter Try.func13, Try.ntmps13
    go_wp2_with (first | ((with_reducible refine gate_callee (f := 36) rfl ?_); refine goesL_ (some 17) rfl rfl Try.func36 (by kernel_rfl) rfl #[.int .i64 a0, .int .i64 15] rfl (by (try simp only [List.map_toArray, List.map_cons, List.map_nil]); first | done | rfl | (simp only [List.length_drop, List.length_take]; rfl)) ?_; (with_reducible refine (numnahlaw03_mod.calls a0 15 t648 _ A3.out).mono ?_); rintro e w' ⟨rfl, ⟨nd, rfl⟩⟩; refine ⟨_, rfl, ?_⟩) | ((with_reducible refine gate_callee (f := 36) rfl ?_); refine goesL_ (some 20) rfl rfl Try.func36 (by kernel_rfl) rfl #[.int .i64 a1, .int .i64 5] rfl (by (try simp only [List.map_toArray, List.map_cons, List.map_nil]); first | done | rfl | (simp only [List.length_drop, List.length_take]; rfl)) ?_; (with_reducible refine (numnahlaw03_mod.calls a1 5 t649 _ A4.out).mono ?_); rintro e w' ⟨rfl, ⟨nd, rfl⟩⟩; refine ⟨_, rfl, ?_⟩) | ((with_reducible refine gate_callee (f := 31) rfl ?_); refine goesL_ (some 24) rfl rfl Try.func31 (by kernel_rfl) rfl #[.int .i64 (wrap64 (2 + t648)), .int .i64 (wrap64 (1 + t649)), .int .i64 60] rfl (by (try simp only [List.map_toArray, List.map_cons, List.map_nil]); first | done | rfl | (simp only [List.length_drop, List.length_take]; rfl)) ?_; (with_reducible refine (numnahref03_Whole.calls k (wrap64 (2 + t648)) (wrap64 (1 + t649)) 60 t650 _ A5.out).mono ?_); rintro e w' ⟨rfl, ⟨nd, rfl⟩⟩; refine ⟨_, rfl, ?_⟩) | ((with_reducible refine gate_callee (f := 22) rfl ?_); refine goesL_ (some 27) rfl rfl Try.func22 (by kernel_rfl) rfl #[] rfl (by (try simp only [List.map_toArray, List.map_cons, List.map_nil]); first | done | rfl | (simp only [List.length_drop, List.length_take]; rfl)) ?_; (with_reducible refine (numnahlaw03_awake.calls k  t651 _ A7.out).mono ?_); rintro e w8 ⟨rfl, hb⟩; refine ⟨_, rfl, ?_⟩; have n0_ := Aside0.mk (below_step (by repeat (first | (with_reducible first | exact HB.out | apply below_alloc | apply pw_below_drewN | apply below_drew1) | exact HB.out)) hb); clear HB; have HB := n0_; clear n0_; (try clear hb); (try clear hb2); (try clear hk); (try clear hi)))
    go_ret
    exact ⟨by first | rfl | (simp [errW_none, errW_some] <;> rfl) | (simp [*, errW_none, errW_some] <;> rfl), by repeat (first | (with_reducible first | exact HB.out | apply below_alloc | apply pw_below_drewN | apply below_drew1) | exact HB.out)⟩
  · rw [if_neg c6] at H
    have c6b0 : (t650 == 0) = false := beq_eq_false_iff_ne.mpr c6
    have c6b1 : (t650 != 0) = true := bne_iff_ne.mpr c6
    replace H := Option.bind_eq_some_iff.mp H
    obtain ⟨⟨t652, t653⟩, A90, H⟩ := H
    replace H : ((spread_Line.f t650 t652).bind fun bt656 => ((spread_Gaps.f t650 t652).bind fun bt662 => (if t653 = 0 then (if bt656.2.2.2.2 = 0 then (if bt662.2 = 0 then (if (t652.length : Int) = t650 then (if (!(bt656.1 == 1) || (!(bt656.2.1 == t650))) = true then (numnahlaw03_SpreadEven.j0 k t650 t652 true) else ((numnahlaw03_ints.f k bt662.1 (([1] : List Int))).bind fun t669 => (numnahlaw03_SpreadEven.j0 k t650 t652 (!t669)))) else (numnahlaw03_SpreadEven.j0 k t650 t652 true)) else (numnahlaw03_SpreadEven.j0 k t650 t652 true)) else (numnahlaw03_SpreadEven.j0 k t650 t652 true)) else (numnahlaw03_SpreadEven.j0 k t650 t652 true)))) = some r := H
    have A9 := Aside0.mk A90
    clear A90
    replace H := Option.bind_eq_some_iff.mp H
    obtain ⟨⟨t656, t657, t658, t659, t660⟩, A100, H⟩ := H
    replace H : ((spread_Gaps.f t650 t652).bind fun bt662 => (if t653 = 0 then (if t660 = 0 then (if bt662.2 = 0 then (if (t652.length : Int) = t650 then (if (!(t656 == 1) || (!(t657 == t650))) = true then (numnahlaw03_SpreadEven.j0 k t650 t652 true) else ((numnahlaw03_ints.f k bt662.1 (([1] : List Int))).bind fun t669 => (numnahlaw03_SpreadEven.j0 k t650 t652 (!t669)))) else (numnahlaw03_SpreadEven.j0 k t650 t652 true)) else (numnahlaw03_SpreadEven.j0 k t650 t652 true)) else (numnahlaw03_SpreadEven.j0 k t650 t652 true)) else (numnahlaw03_SpreadEven.j0 k t650 t652 true))) = some r := H
    have A10 := Aside0.mk A100
    clear A100
    replace H := Option.bind_eq_some_iff.mp H
    obtain ⟨⟨t662, t663⟩, A110, H⟩ := H
    replace H : (if t653 = 0 then (if t660 = 0 then (if t663 = 0 then (if (t652.length : Int) = t650 then (if (!(t656 == 1) || (!(t657 == t650))) = true then (numnahlaw03_SpreadEven.j0 k t650 t652 true) else ((numnahlaw03_ints.f k t662 (([1] : List Int))).bind fun t669 => (numnahlaw03_SpreadEven.j0 k t650 t652 (!t669)))) else (numnahlaw03_SpreadEven.j0 k t650 t652 true)) else (numnahlaw03_SpreadEven.j0 k t650 t652 true)) else (numnahlaw03_SpreadEven.j0 k t650 t652 true)) else (numnahlaw03_SpreadEven.j0 k t650 t652 true)) = some r := H
    have A11 := Aside0.mk A110
    clear A110
    have HC12 := Aside0.mk H
    clear H
    go_enter Try.func13, Try.ntmps13
    go_upto_region 9 with (first | ((with_reducible refine gate_callee (f := 36) rfl ?_); refine goesL_ (some 17) rfl rfl Try.func36 (by kernel_rfl) rfl #[.int .i64 a0, .int .i64 15] rfl (by (try simp only [List.map_toArray, List.map_cons, List.map_nil]); first | done | rfl | (simp only [List.length_drop, List.length_take]; rfl)) ?_; (with_reducible refine (numnahlaw03_mod.calls a0 15 t648 _ A3.out).mono ?_); rintro e w' ⟨rfl, ⟨nd, rfl⟩⟩; refine ⟨_, rfl, ?_⟩) | ((with_reducible refine gate_callee (f := 36) rfl ?_); refine goesL_ (some 20) rfl rfl Try.func36 (by kernel_rfl) rfl #[.int .i64 a1, .int .i64 5] rfl (by (try simp only [List.map_toArray, List.map_cons, List.map_nil]); first | done | rfl | (simp only [List.length_drop, List.length_take]; rfl)) ?_; (with_reducible refine (numnahlaw03_mod.calls a1 5 t649 _ A4.out).mono ?_); rintro e w' ⟨rfl, ⟨nd, rfl⟩⟩; refine ⟨_, rfl, ?_⟩) | ((with_reducible refine gate_callee (f := 31) rfl ?_); refine goesL_ (some 24) rfl rfl Try.func31 (by kernel_rfl) rfl #[.int .i64 (wrap64 (2 + t648)), .int .i64 (wrap64 (1 + t649)), .int .i64 60] rfl (by (try simp only [List.map_toArray, List.map_cons, List.map_nil]); first | done | rfl | (simp only [List.length_drop, List.length_take]; rfl)) ?_; (with_reducible refine (numnahref03_Whole.calls k (wrap64 (2 + t648)) (wrap64 (1 + t649)) 60 t650 _ A5.out).mono ?_); rintro e w' ⟨rfl, ⟨nd, rfl⟩⟩; refine ⟨_, rfl, ?_⟩) | ((with_reducible refine gate_callee (f := 29) rfl ?_); refine goesL_ (some 32) rfl rfl Try.func29 (by kernel_rfl) rfl #[.int .i64 (wrap64 (2 + t648)), .int .i64 (wrap64 (1 + t649)), .int .i64 t650] rfl (by (try simp only [List.map_toArray, List.map_cons, List.map_nil]); first | done | rfl | (simp only [List.length_drop, List.length_take]; rfl)) ?_; (with_reducible refine (spread_Series.calls k (wrap64 (2 + t648)) (wrap64 (1 + t649)) t650 t652 t653 _ A9.out).mono ?_); rintro e w13 ⟨v654, rfl, ho0, hb⟩; refine ⟨_, rfl, ?_⟩; have n0_ := Aside0.mk (Kd.R_lower ho0 (below_size (by repeat (first | (with_reducible first | exact HB.out | apply below_alloc | apply pw_below_drewN | apply below_drew1) | exact HB.out)))); have n1_ := Aside0.mk (below_step (by repeat (first | (with_reducible first | exact HB.out | apply below_alloc | apply pw_below_drewN | apply below_drew1) | exact HB.out)) hb); clear HB; have HO655 := n0_; have HB := n1_; clear n0_ n1_; (try clear hb); (try clear hb2); (try clear hk); (try clear hi); (try clear ho0); obtain ⟨Ao14, co14, eo14⟩ := Kd.R_slice HO655.out; subst eo14) | ((with_reducible refine gate_callee (f := 20) rfl ?_); refine goesL_ (some 38) rfl rfl Try.func20 (by kernel_rfl) rfl #[.int .i64 t650, .slice Ao14 t652.length co14] rfl (by (try simp only [List.map_toArray, List.map_cons, List.map_nil]); first | done | rfl | (simp only [List.length_drop, List.length_take]; rfl)) ?_; (with_reducible refine (spread_Line.calls t650 _ _ t652 t656 t657 t658 t659 t660 _ ?side1 ?side2 A10.out).mono ?_); (case side1 => repeat (first | exact (Kd.R_reads' HO655.out).2.2 | (with_reducible refine Kd.C_alloc ?_ _) | (with_reducible refine Kd.C_drewN ?_ _) | (with_reducible refine Kd.C_drew ?_))); (case side2 => exact (Kd.R_reads' HO655.out).2.1); rintro e w15 ⟨rfl, hb⟩; refine ⟨_, rfl, ?_⟩; have n0_ := Aside0.mk (Kd.R_below (by (with_reducible repeat (first | apply Kd.R_alloc | apply Kd.R_drewN | apply Kd.R_drew)); exact HO655.out) hb); have n1_ := Aside0.mk (below_step (by repeat (first | (with_reducible first | exact HB.out | apply below_alloc | apply pw_below_drewN | apply below_drew1) | exact HB.out)) hb); clear HO655; clear HB; have HO655 := n0_; have HB := n1_; clear n0_ n1_; (try clear hb); (try clear hb2); (try clear hk); (try clear hi)) | ((with_reducible refine gate_dst (N := 8) rfl ?_); (try (refine gate_guard (by rfl) ?_; dsimp only)); refine box_event ?hg (N := 8) ?hd (cs := #[.int .i64 0, .int .i64 0]) (t := 26) ?hr ?_; (case hd => rfl); (case hg => rfl); (case hr => first | (go_simp; done) | (go_simp; rfl)); intro gb661 hg w16 hbox hb; have n0_ := Aside0.mk (Kd.R_below (by (with_reducible repeat (first | apply Kd.R_alloc | apply Kd.R_drewN | apply Kd.R_drew)); exact HO655.out) hb); have n1_ := Aside0.mk (below_step (by repeat (first | (with_reducible first | exact HB.out | apply below_alloc | apply pw_below_drewN | apply below_drew1) | exact HB.out)) hb); have n2_ := Aside0.mk (hbox); have n3_ := Aside0.mk ((by rw [hg]; exact (below_size (by repeat (first | (with_reducible first | exact HB.out | apply below_alloc | apply pw_below_drewN | apply below_drew1) | exact HB.out))) : w.heap.size ≤ gb661)); have n4_ := Aside0.mk ((by rw [hg]; exact (below_size (by repeat (first | (with_reducible first | exact HB.out | apply below_alloc | apply pw_below_drewN | apply below_drew1) | exact HB.out))) : w.heap.size ≤ gb661)); clear HO655; clear HB; have HO655 := n0_; have HB := n1_; have BK661 := n2_; have GW661 := n3_; have GE661 := n4_; clear n0_ n1_ n2_ n3_ n4_; clear hb hbox hg; have hcz17_0 : w16.cell? ⟨gb661, 0, none⟩ = some (.int .i64 0) := (blk_cell BK661.out 0).trans rfl; have hcz17_1 : w16.cell? ⟨gb661, 1, none⟩ = some (.int .i64 0) := (blk_cell BK661.out 1).trans rfl; have hfz17_0 := blk_frozen BK661.out 0; have hfz17_1 := blk_frozen BK661.out 1) | ((with_reducible refine gate_callee (f := 48) rfl ?_); refine goesL_ (some 46) rfl rfl Try.func48 (by kernel_rfl) rfl #[.int .i64 t650, .slice Ao14 t652.length co14] rfl (by (try simp only [List.map_toArray, List.map_cons, List.map_nil]); first | done | rfl | (simp only [List.length_drop, List.length_take]; rfl)) ?_; (with_reducible refine (spread_Gaps.calls t650 _ _ t652 t662 t663 _ ?side1 ?side2 A11.out).mono ?_); (case side1 => refine (Kd.R_reads' (e := 3) (base := w.heap.size) (ok := fun k_ => True) (n := t652.length) (c := co14) ?_).2.2; exact (by (with_reducible repeat (first | apply Kd.R_alloc | apply Kd.R_drewN | apply Kd.R_drew)); exact (Kd.R_mono (Kd.R_far (p := ⟨gb661, 1, none⟩) (Kd.R_far (p := ⟨gb661, 0, none⟩) (Kd.R_types HO655.out BK661.out (by decide)) (fun _ hk => hk.2) (.int .i64 t656)) (fun _ hk => hk.2) (.int .i64 t657)) (fun _ h_ => h_.1)))); (case side2 => exact (Kd.R_reads' HO655.out).2.1); rintro e w18 ⟨v664, rfl, ho0, hb⟩; refine ⟨_, rfl, ?_⟩; have n0_ := Aside0.mk (Kd.R_elder' (by (with_reducible repeat (first | apply Kd.R_alloc | apply Kd.R_drewN | apply Kd.R_drew)); exact (Kd.R_mono (Kd.R_far (p := ⟨gb661, 1, none⟩) (Kd.R_far (p := ⟨gb661, 0, none⟩) (Kd.R_types HO655.out BK661.out (by decide)) (fun _ hk => hk.2) (.int .i64 t656)) (fun _ hk => hk.2) (.int .i64 t657)) (fun _ h_ => h_.1))) (Kd.R_base ho0) hb); have n1_ := Aside0.mk (Kd.R_lower (Kd.R_new' ho0 (Kd.R_lt (by (with_reducible repeat (first | apply Kd.R_alloc | apply Kd.R_drewN | apply Kd.R_drew)); exact (Kd.R_mono (Kd.R_far (p := ⟨gb661, 1, none⟩) (Kd.R_far (p := ⟨gb661, 0, none⟩) (Kd.R_types HO655.out BK661.out (by decide)) (fun _ hk => hk.2) (.int .i64 t656)) (fun _ hk => hk.2) (.int .i64 t657)) (fun _ h_ => h_.1))))) (below_size (by repeat (first | (with_reducible first | exact HB.out | apply below_alloc | apply pw_below_drewN | apply below_drew1 | refine below_set ?_ GE661.out) | exact HB.out)))); have n2_ := Aside0.mk (blk_below (g := gb661) (o := .cells #[.int .i64 t656, .int .i64 t657] 26 (0, 0)) (by (with_reducible repeat (first | refine blk_drewN ?_ _ | refine blk_drew ?_ | refine blk_alloc ?_ _)); refine blk_put (cs := #[.int .i64 t656, .int .i64 0]) ?_ 1 _ rfl; (with_reducible repeat (first | refine blk_drewN ?_ _ | refine blk_drew ?_ | refine blk_alloc ?_ _)); refine blk_put (cs := #[.int .i64 0, .int .i64 0]) ?_ 0 _ rfl; (with_reducible repeat (first | refine blk_drewN ?_ _ | refine blk_drew ?_ | refine blk_alloc ?_ _)); exact BK661.out) hb); have n3_ := Aside0.mk (below_step (by repeat (first | (with_reducible first | exact HB.out | apply below_alloc | apply pw_below_drewN | apply below_drew1 | refine below_set ?_ GE661.out) | exact HB.out)) hb); clear HO655; clear BK661; clear HB; have HO655 := n0_; have HO665 := n1_; have BK661 := n2_; have HB := n3_; clear n0_ n1_ n2_ n3_; (try clear hb); (try clear hb2); (try clear hk); (try clear hi); (try clear ho0)))
    (try simp only [Act.put, List.setIfInBounds_toArray, List.set_cons_zero, List.set_cons_succ])
    go_cut [76] (fun v76 wc => ∃ (kq : Nat) (x76_11 : Bool), v76 = .bool x76_11 ∧ Aside0 (numnahlaw03_SpreadEven.j0 kq t650 t652 x76_11 = some r) ∧ Aside0 (kq ≤ k) ∧ Aside0 (Kd.R (Kd.int .i64) 3 wc w.heap.size (fun _ => True) (.slice Ao14 t652.length co14) t652) ∧ Aside0 (wc.heap[gb661]? = some (.cells #[.int .i64 t656, .int .i64 t657] 26 (0, 0))) ∧ Aside0 (Below w.heap.size w wc))
    case first =>
      have H := HC12.out
      clear HC12
      by_cases c19 : t653 = 0
      · rw [if_pos c19] at H
        have c19b0 : (t653 == 0) = true := beq_iff_eq.mpr c19
        have c19b1 : (t653 != 0) = false := bne_eq_false_iff_eq.mpr c19
        clear c19
        (first | rw [c19b0] | (simp only [i64_w, i32_w]; rw [c19b0]) | skip)
        by_cases c20 : t660 = 0
        · rw [if_pos c20] at H
          have c20b0 : (t660 == 0) = true := beq_iff_eq.mpr c20
          have c20b1 : (t660 != 0) = false := bne_eq_false_iff_eq.mpr c20
          clear c20
          by_cases c21 : t663 = 0
          · rw [if_pos c21] at H
            have c21b0 : (t663 == 0) = true := beq_iff_eq.mpr c21
            have c21b1 : (t663 != 0) = false := bne_eq_false_iff_eq.mpr c21
            clear c21
            by_cases c22 : (t652.length : Int) = t650
            · rw [if_pos c22] at H
              have c22b0 : ((t652.length : Int) == t650) = true := beq_iff_eq.mpr c22
              have c22b1 : ((t652.length : Int) != t650) = false := bne_eq_false_iff_eq.mpr c22
              clear c22
              by_cases c23 : (!(t656 == 1) || (!(t657 == t650))) = true
              · rw [if_pos c23] at H
                have c23b0 : (!(t656 == 1) || (!(t657 == t650))) = true := c23
                clear c23
                have H' := Aside0.mk H
                clear H
                have hcz24_0 : w18.cell? ⟨gb661, 0, none⟩ = some (.int .i64 t656) := (blk_cell BK661.out 0).trans rfl
                have hcz24_1 : w18.cell? ⟨gb661, 1, none⟩ = some (.int .i64 t657) := (blk_cell BK661.out 1).trans rfl
                have hfz24_0 := blk_frozen BK661.out 0
                have hfz24_1 := blk_frozen BK661.out 1
                go_wp2
                go_meet
                case rel => exact ⟨_, (true), (by first | rfl | (simp; done) | (simp [*]; done)), H', ⟨by first | omega | exact Nat.le_refl _⟩, ⟨by (with_reducible repeat (first | apply Kd.R_alloc | apply Kd.R_drewN | apply Kd.R_drew)); exact Kd.R_mono HO655.out (fun _ hk => trivial)⟩, ⟨by (with_reducible repeat (first | refine blk_drewN ?_ _ | refine blk_drew ?_ | refine blk_alloc ?_ _)); exact BK661.out⟩, ⟨by repeat (first | (with_reducible first | exact HB.out | apply below_alloc | apply pw_below_drewN | apply below_drew1 | refine below_set ?_ GE661.out) | exact HB.out)⟩⟩
              · rw [if_neg c23] at H
                have c23b0 : (!(t656 == 1) || (!(t657 == t650))) = false := by simpa using c23
                clear c23
                obtain ⟨y666, hy666⟩ : ∃ y_ : List Int, y_ = (([1] : List Int)) := ⟨_, rfl⟩
                replace H : ((numnahlaw03_ints.f k t662 y666).bind fun t669 => (numnahlaw03_SpreadEven.j0 k t650 t652 (!t669))) = some r := by first | (rw [hy666]; with_reducible exact H) | (have H2_ := (Option.bind_some _ _).symm.trans H; rw [hy666]; with_reducible exact H2_) | (have H2_ := (Option.bind_some _ _).symm.trans H; with_reducible exact H2_) | with_reducible exact H | (rw [hy666]; exact H) | exact H
                have Ny666 := Aside0.mk hy666
                clear hy666
                replace H := Option.bind_eq_some_iff.mp H
                obtain ⟨t669, A250, H⟩ := H
                replace H : (numnahlaw03_SpreadEven.j0 k t650 t652 (!t669)) = some r := H
                have A25 := Aside0.mk A250
                clear A250
                have H' := Aside0.mk H
                clear H
                have hcz26_0 : w18.cell? ⟨gb661, 0, none⟩ = some (.int .i64 t656) := (blk_cell BK661.out 0).trans rfl
                have hcz26_1 : w18.cell? ⟨gb661, 1, none⟩ = some (.int .i64 t657) := (blk_cell BK661.out 1).trans rfl
                have hfz26_0 := blk_frozen BK661.out 0
                have hfz26_1 := blk_frozen BK661.out 1
                go_wp2_with (first | ((with_reducible refine gate_dst (N := 73) rfl ?_); (try (refine gate_guard (by rfl) ?_; dsimp only)); refine Kd.R_lit (Kd.int .i64) _ 3 ?hg (N := 73) ?hd (xs := ([1] : List Int)) (inner := [.int .i64 1]) (ok := fun _ => True) (okp := fun _ => True) ?hr ?hp (fun _ hk => hk) trivial (Below.refl _ _) (Nat.le_refl _) (by simp) ?_; (case hd => rfl); (case hg => rfl); (case hr => first | (go_simp; done) | (go_simp; rfl)); (case hp => exact (Reps.one (show Kd.M (Kd.int .i64) _ _ _ 1 [.int .i64 1] from rfl) (Reps.none _ _))); intro v667 w27 ho28 hb hg_ hnew_; clear hg_ hnew_; (first | rw [← Ny666.out] at ho28 | (simp only [Int.reduceToNat] at ho28; rw [← Ny666.out] at ho28)); have n0_ := Aside0.mk (Kd.R_elder' (by (with_reducible repeat (first | apply Kd.R_alloc | apply Kd.R_drewN | apply Kd.R_drew)); exact HO655.out) (Kd.R_base ho28) hb); have n1_ := Aside0.mk (Kd.R_elder' (by (with_reducible repeat (first | apply Kd.R_alloc | apply Kd.R_drewN | apply Kd.R_drew)); exact HO665.out) (Kd.R_base ho28) hb); have n2_ := Aside0.mk (Kd.R_lower (Kd.R_new' (Kd.R_new' ho28 (Kd.R_lt (by (with_reducible repeat (first | apply Kd.R_alloc | apply Kd.R_drewN | apply Kd.R_drew)); exact HO655.out))) (Kd.R_lt (by (with_reducible repeat (first | apply Kd.R_alloc | apply Kd.R_drewN | apply Kd.R_drew)); exact HO665.out))) (below_size (by repeat (first | (with_reducible first | exact HB.out | apply below_alloc | apply pw_below_drewN | apply below_drew1 | refine below_set ?_ GE661.out) | exact HB.out)))); have n3_ := Aside0.mk (blk_below (g := gb661) (o := .cells #[.int .i64 t656, .int .i64 t657] 26 (0, 0)) (by (with_reducible repeat (first | refine blk_drewN ?_ _ | refine blk_drew ?_ | refine blk_alloc ?_ _)); exact BK661.out) hb); have n4_ := Aside0.mk (below_step (by repeat (first | (with_reducible first | exact HB.out | apply below_alloc | apply pw_below_drewN | apply below_drew1 | refine below_set ?_ GE661.out) | exact HB.out)) hb); clear HO655; clear HO665; clear BK661; clear HB; have HO655 := n0_; have HO665 := n1_; have HO668 := n2_; have BK661 := n3_; have HB := n4_; clear n0_ n1_ n2_ n3_ n4_; clear hb ho28; obtain ⟨Ao29, co29, eo29⟩ := Kd.R_slice HO665.out; subst eo29; obtain ⟨Ao30, co30, eo30⟩ := Kd.R_slice HO668.out; subst eo30) | (go_at_call 49; (with_reducible refine (numnahlaw03_ints.calls k _ _ t662 _ _ y666 t669 _ ?side1 ?side2 ?side3 ?side4 A25.out).mono ?_); (case side1 => repeat (first | exact (Kd.R_reads' HO665.out).2.2 | (with_reducible refine Kd.C_alloc ?_ _) | (with_reducible refine Kd.C_drewN ?_ _) | (with_reducible refine Kd.C_drew ?_))); (case side2 => exact (Kd.R_reads' HO665.out).2.1); (case side3 => repeat (first | exact (Kd.R_reads' HO668.out).2.2 | (with_reducible refine Kd.C_alloc ?_ _) | (with_reducible refine Kd.C_drewN ?_ _) | (with_reducible refine Kd.C_drew ?_))); (case side4 => exact (Kd.R_reads' HO668.out).2.1); rintro e w' ⟨rfl, ⟨nd, rfl⟩⟩))
                go_meet
                case rel => exact ⟨_, (!t669), (by first | rfl | (simp; done) | (simp [*]; done)), H', ⟨by first | omega | exact Nat.le_refl _⟩, ⟨by (with_reducible repeat (first | apply Kd.R_alloc | apply Kd.R_drewN | apply Kd.R_drew)); exact Kd.R_mono HO655.out (fun _ hk => trivial)⟩, ⟨by (with_reducible repeat (first | refine blk_drewN ?_ _ | refine blk_drew ?_ | refine blk_alloc ?_ _)); exact BK661.out⟩, ⟨by repeat (first | (with_reducible first | exact HB.out | apply below_alloc | apply pw_below_drewN | apply below_drew1 | refine below_set ?_ GE661.out) | exact HB.out)⟩⟩
            · rw [if_neg c22] at H
              have c22b0 : ((t652.length : Int) == t650) = false := beq_eq_false_iff_ne.mpr c22
              have c22b1 : ((t652.length : Int) != t650) = true := bne_iff_ne.mpr c22
              have H' := Aside0.mk H
              clear H
              go_wp2
              go_meet
              case rel => exact ⟨_, (true), (by first | rfl | (simp; done) | (simp [*]; done)), H', ⟨by first | omega | exact Nat.le_refl _⟩, ⟨by (with_reducible repeat (first | apply Kd.R_alloc | apply Kd.R_drewN | apply Kd.R_drew)); exact Kd.R_mono HO655.out (fun _ hk => trivial)⟩, ⟨by (with_reducible repeat (first | refine blk_drewN ?_ _ | refine blk_drew ?_ | refine blk_alloc ?_ _)); exact BK661.out⟩, ⟨by repeat (first | (with_reducible first | exact HB.out | apply below_alloc | apply pw_below_drewN | apply below_drew1 | refine below_set ?_ GE661.out) | exact HB.out)⟩⟩
          · rw [if_neg c21] at H
            have c21b0 : (t663 == 0) = false := beq_eq_false_iff_ne.mpr c21
            have c21b1 : (t663 != 0) = true := bne_iff_ne.mpr c21
            have H' := Aside0.mk H
            clear H
            go_wp2
            go_meet
            case rel => exact ⟨_, (true), (by first | rfl | (simp; done) | (simp [*]; done)), H', ⟨by first | omega | exact Nat.le_refl _⟩, ⟨by (with_reducible repeat (first | apply Kd.R_alloc | apply Kd.R_drewN | apply Kd.R_drew)); exact Kd.R_mono HO655.out (fun _ hk => trivial)⟩, ⟨by (with_reducible repeat (first | refine blk_drewN ?_ _ | refine blk_drew ?_ | refine blk_alloc ?_ _)); exact BK661.out⟩, ⟨by repeat (first | (with_reducible first | exact HB.out | apply below_alloc | apply pw_below_drewN | apply below_drew1 | refine below_set ?_ GE661.out) | exact HB.out)⟩⟩
        · rw [if_neg c20] at H
          have c20b0 : (t660 == 0) = false := beq_eq_false_iff_ne.mpr c20
          have c20b1 : (t660 != 0) = true := bne_iff_ne.mpr c20
          have H' := Aside0.mk H
          clear H
          go_wp2
          go_meet
          case rel => exact ⟨_, (true), (by first | rfl | (simp; done) | (simp [*]; done)), H', ⟨by first | omega | exact Nat.le_refl _⟩, ⟨by (with_reducible repeat (first | apply Kd.R_alloc | apply Kd.R_drewN | apply Kd.R_drew)); exact Kd.R_mono HO655.out (fun _ hk => trivial)⟩, ⟨by (with_reducible repeat (first | refine blk_drewN ?_ _ | refine blk_drew ?_ | refine blk_alloc ?_ _)); exact BK661.out⟩, ⟨by repeat (first | (with_reducible first | exact HB.out | apply below_alloc | apply pw_below_drewN | apply below_drew1 | refine below_set ?_ GE661.out) | exact HB.out)⟩⟩
      · rw [if_neg c19] at H
        have c19b0 : (t653 == 0) = false := beq_eq_false_iff_ne.mpr c19
        have c19b1 : (t653 != 0) = true := bne_iff_ne.mpr c19
        (first | rw [c19b0] | (simp only [i64_w, i32_w]; rw [c19b0]) | skip)
        have H' := Aside0.mk H
        clear H
        go_wp2
        go_meet
        case rel => exact ⟨_, (true), (by first | rfl | (simp; done) | (simp [*]; done)), H', ⟨by first | omega | exact Nat.le_refl _⟩, ⟨by (with_reducible repeat (first | apply Kd.R_alloc | apply Kd.R_drewN | apply Kd.R_drew)); exact Kd.R_mono HO655.out (fun _ hk => trivial)⟩, ⟨by (with_reducible repeat (first | refine blk_drewN ?_ _ | refine blk_drew ?_ | refine blk_alloc ?_ _)); exact BK661.out⟩, ⟨by repeat (first | (with_reducible first | exact HB.out | apply below_alloc | apply pw_below_drewN | apply below_drew1 | refine below_set ?_ GE661.out) | exact HB.out)⟩⟩
    case rest =>
      clear HC12
      try clear c1
      try clear c2
      try clear p2
      try clear c3
      try clear c4
      try clear c6
      try clear c6b0
      try clear c6b1
      try clear p6
      try clear c13
      try clear c19
      try clear c19b0
      try clear c19b1
      try clear c20
      try clear c20b0
      try clear c20b1
      try clear c21
      try clear c21b0
      try clear c21b1
      try clear c22
      try clear c22b0
      try clear c22b1
      try clear c23
      try clear c23b0
      try clear c29
      try clear hcz17_0
      try clear hcz17_1
      try clear hcz24_0
      try clear hcz24_1
      try clear hcz26_0
      try clear hcz26_1
      try clear hfz17_0
      try clear hfz17_1
      try clear hfz24_0
      try clear hfz24_1
      try clear hfz26_0
      try clear hfz26_1
      obtain ⟨kq, x76_11, rfl, HA, HJ11, HO_6, BK661, HB⟩ := hcut
      cases kq with
      | zero => exact absurd HA.out (by simp [numnahlaw03_SpreadEven.j0])
      | succ kj11 =>
        have H := HA.out
        clear HA
        simp only [numnahlaw03_SpreadEven.j0] at H
        by_cases c31 : x76_11 = true
        · subst c31
          have H1 : (some false) = some r := by rw [if_pos rfl] at H; exact H
          clear H
          have H := H1
          clear H1
          obtain rfl := Option.some.inj H
          go_wp2
          go_ret
          exact ⟨by first | rfl | (simp [errW_none, errW_some] <;> rfl) | (simp [*, errW_none, errW_some] <;> rfl), by repeat (first | (with_reducible first | exact HB.out | apply below_alloc | apply pw_below_drewN | apply below_drew1 | refine below_set ?_ GE661.out) | exact HB.out)⟩
        · replace c31 := Bool.eq_false_iff.mpr c31
          subst c31
          have H1 : (if 0 ≤ t650 then (if (t650 : Int).toNat ≤ 281474976710656 then (numnahlaw03_SpreadEven.l0 kj11 t650 t652 (List.replicate (t650 : Int).toNat false) 0) else (none)) else (none)) = some r := by rw [if_neg (show ¬ (false = true) by decide)] at H; exact H
          clear H
          have H := H1
          clear H1
          by_cases c32 : 0 ≤ t650
          · rw [if_pos c32] at H
            have c32b0 := eq_true c32
            have c32b1 : decide (0 ≤ t650) = true := decide_eq_true c32
            clear c32
            by_cases c33 : (t650 : Int).toNat ≤ 281474976710656
            · rw [if_pos c33] at H
              have c33b0 := eq_true c33
              have c33b1 : decide ((t650 : Int).toNat ≤ 281474976710656) = true := decide_eq_true c33
              clear c33
              obtain ⟨y670, hy670⟩ : ∃ y_ : List Bool, y_ = (List.replicate (t650 : Int).toNat false) := ⟨_, rfl⟩
              replace H : (numnahlaw03_SpreadEven.l0 kj11 t650 t652 y670 0) = some r := by first | (rw [hy670]; with_reducible exact H) | (have H2_ := (Option.bind_some _ _).symm.trans H; rw [hy670]; with_reducible exact H2_) | (have H2_ := (Option.bind_some _ _).symm.trans H; with_reducible exact H2_) | with_reducible exact H | (rw [hy670]; exact H) | exact H
              have Ny670 := Aside0.mk hy670
              clear hy670
              have H' := Aside0.mk H
              clear H
              go_wp2_with (first | ((with_reducible refine gate_dst (N := 78) rfl ?_); (try (refine gate_guard (by rfl) ?_; dsimp only)); refine Kd.R_make Kd.bool _ 4 rfl (N := 78) rfl 77 _ _ rfl t650 rfl rfl Try.underlying77 (.bool false) 1 info4 rfl (by decide) (by omega) false (ok := fun _ => True) (okp := fun _ => True) rfl (fun _ hk => hk) trivial (of_decide_eq_true (by first | (with_reducible assumption) | assumption)) (Nat.le_trans (Nat.mul_le_mul_right _ (of_decide_eq_true (by first | (with_reducible assumption) | assumption) : t650.toNat ≤ 281474976710656)) (by omega)) (Below.refl _ _) (Nat.le_refl _) ?_; intro v671 w34 ho35 hb hg_ hnew_; clear hg_ hnew_; (first | rw [← Ny670.out] at ho35 | (simp only [Int.reduceToNat] at ho35; rw [← Ny670.out] at ho35)); have n0_ := Aside0.mk (Kd.R_below (by (with_reducible repeat (first | apply Kd.R_alloc | apply Kd.R_drewN | apply Kd.R_drew)); exact HO_6.out) hb); have n1_ := Aside0.mk (Kd.R_lower ho35 (below_size (by repeat (first | (with_reducible first | exact HB.out | apply below_alloc | apply pw_below_drewN | apply below_drew1 | refine below_set ?_ GE661.out) | exact HB.out)))); have n2_ := Aside0.mk (blk_below (g := gb661) (o := .cells #[.int .i64 t656, .int .i64 t657] 26 (0, 0)) (by (with_reducible repeat (first | refine blk_drewN ?_ _ | refine blk_drew ?_ | refine blk_alloc ?_ _)); exact BK661.out) hb); have n3_ := Aside0.mk (below_step (by repeat (first | (with_reducible first | exact HB.out | apply below_alloc | apply pw_below_drewN | apply below_drew1 | refine below_set ?_ GE661.out) | exact HB.out)) hb); clear HO_6; clear BK661; clear HB; have HO_6 := n0_; have HO672 := n1_; have BK661 := n2_; have HB := n3_; clear n0_ n1_ n2_ n3_; clear hb ho35))
              go_loopg [15] kj11 (fun kq v15 w' => ∃ (x14_2 : List Bool) (x15_2 : Int), v15 = .int .i64 x15_2 ∧ Aside0 (numnahlaw03_SpreadEven.l0 kq t650 t652 x14_2 x15_2 = some r) ∧ Aside0 (kq ≤ kj11) ∧ Aside0 (Kd.R (Kd.int .i64) 3 w' w.heap.size (fun _ => True) (.slice Ao14 t652.length co14) t652) ∧ Aside0 (Kd.R Kd.bool 4 w' w.heap.size (fun _ => True) v671 x14_2) ∧ Aside0 (w'.heap[gb661]? = some (.cells #[.int .i64 t656, .int .i64 t657] 26 (0, 0))) ∧ Aside0 (Below w.heap.size w w'))
              case atStart => exact ⟨(y670), (0), (by first | rfl | (simp; done) | (simp [*]; done)), H', ⟨Nat.le_refl _⟩, ⟨by (with_reducible repeat (first | apply Kd.R_alloc | apply Kd.R_drewN | apply Kd.R_drew)); exact HO_6.out⟩, ⟨by (with_reducible repeat (first | apply Kd.R_alloc | apply Kd.R_drewN | apply Kd.R_drew)); exact HO672.out⟩, ⟨by (with_reducible repeat (first | refine blk_drewN ?_ _ | refine blk_drew ?_ | refine blk_alloc ?_ _)); exact BK661.out⟩, ⟨by repeat (first | (with_reducible first | exact HB.out | apply below_alloc | apply pw_below_drewN | apply below_drew1 | refine below_set ?_ GE661.out) | exact HB.out)⟩⟩
              case round =>
                clear H'
                try clear c1
                try clear c2
                try clear p2
                try clear c3
                try clear c4
                try clear c6
                try clear c6b0
                try clear c6b1
                try clear p6
                try clear c13
                try clear c19
                try clear c19b0
                try clear c19b1
                try clear c20
                try clear c20b0
                try clear c20b1
                try clear c21
                try clear c21b0
                try clear c21b1
                try clear c22
                try clear c22b0
                try clear c22b1
                try clear c23
                try clear c23b0
                try clear c29
                try clear c31
                try clear c32
                try clear c32b0
                try clear c32b1
                try clear c33
                try clear c33b0
                try clear c33b1
                try clear hcz17_0
                try clear hcz17_1
                try clear hcz24_0
                try clear hcz24_1
                try clear hcz26_0
                try clear hcz26_1
                try clear hfz17_0
                try clear hfz17_1
                try clear hfz24_0
                try clear hfz24_1
                try clear hfz26_0
                try clear hfz26_1
                try clear p2
                try clear p6
                obtain ⟨x14_2, x15_2, rfl, HA, HK2, HO_6, HO_14, BK661, HB⟩ := hrel
                cases gk with
                | zero => exact absurd HA.out (by simp [numnahlaw03_SpreadEven.l0])
                | succ k2 =>
                  have H := HA.out
                  clear HA
                  simp only [numnahlaw03_SpreadEven.l0] at H
                  by_cases c36 : x15_2 < t650
                  · rw [if_pos c36] at H
                    have c36b0 : decide (x15_2 < t650) = true := decide_eq_true c36
                    clear c36
                    by_cases c37 : 0 ≤ x15_2
                    · rw [if_pos c37] at H
                      have c37b0 : decide (0 ≤ x15_2) = true := decide_eq_true c37
                      clear c37
                      by_cases c38 : x15_2 < (t652.length : Int)
                      · rw [if_pos c38] at H
                        have c38b0 : decide (x15_2 < (t652.length : Int)) = true := decide_eq_true c38
                        clear c38
                        by_cases c39 : (rd t652 x15_2) < 0
                        · rw [if_pos c39] at H
                          have c39b0 : decide ((rd t652 x15_2) < 0) = true := decide_eq_true c39
                          clear c39
                          obtain rfl := Option.some.inj H
                          have p673 : 0 ≤ (x15_2 : Int) := of_decide_eq_true (by first | (with_reducible assumption) | assumption)
                          have q673 : x15_2 < (t652.length : Int) := of_decide_eq_true (by first | (with_reducible assumption) | assumption)
                          obtain ⟨ad673, e673, hx673_0⟩ := Kd.at_int (Kd.R_reads' HO_6.out).2.2 x15_2 p673 q673
                          cases e673
                          replace p673 := eq_true p673
                          replace q673 := eq_true q673
                          go_wp2
                          go_ret
                          exact ⟨by first | rfl | (simp [errW_none, errW_some] <;> rfl) | (simp [*, errW_none, errW_some] <;> rfl), by repeat (first | (with_reducible first | exact HB.out | apply below_alloc | apply pw_below_drewN | apply below_drew1 | refine below_set ?_ GE661.out) | exact HB.out)⟩
                        · rw [if_neg c39] at H
                          have c39b0 : decide ((rd t652 x15_2) < 0) = false := decide_eq_false c39
                          clear c39
                          by_cases c40 : (rd t652 x15_2) ≥ t650
                          · rw [if_pos c40] at H
                            have c40b0 : decide (t650 ≤ (rd t652 x15_2)) = true := decide_eq_true c40
                            clear c40
                            obtain rfl := Option.some.inj H
                            have p673 : 0 ≤ (x15_2 : Int) := of_decide_eq_true (by first | (with_reducible assumption) | assumption)
                            have q673 : x15_2 < (t652.length : Int) := of_decide_eq_true (by first | (with_reducible assumption) | assumption)
                            obtain ⟨ad673, e673, hx673_0⟩ := Kd.at_int (Kd.R_reads' HO_6.out).2.2 x15_2 p673 q673
                            cases e673
                            replace p673 := eq_true p673
                            replace q673 := eq_true q673
                            have p674 : 0 ≤ (x15_2 : Int) := of_decide_eq_true (by first | (with_reducible assumption) | assumption)
                            have q674 : x15_2 < (t652.length : Int) := of_decide_eq_true (by first | (with_reducible assumption) | assumption)
                            obtain ⟨ad674, e674, hx674_0⟩ := Kd.at_int (Kd.R_reads' HO_6.out).2.2 x15_2 p674 q674
                            obtain rfl : ad673 = ad674 := (by injection e674)
                            replace p674 := eq_true p674
                            replace q674 := eq_true q674
                            go_wp2
                            go_ret
                            exact ⟨by first | rfl | (simp [errW_none, errW_some] <;> rfl) | (simp [*, errW_none, errW_some] <;> rfl), by repeat (first | (with_reducible first | exact HB.out | apply below_alloc | apply pw_below_drewN | apply below_drew1 | refine below_set ?_ GE661.out) | exact HB.out)⟩
                          · rw [if_neg c40] at H
                            have c40b0 : decide (t650 ≤ (rd t652 x15_2)) = false := decide_eq_false c40
                            clear c40
                            by_cases c41 : 0 ≤ (rd t652 x15_2)
                            · rw [if_pos c41] at H
                              have c41b0 : decide (0 ≤ (rd t652 x15_2)) = true := decide_eq_true c41
                              clear c41
                              by_cases c42 : (rd t652 x15_2) < (x14_2.length : Int)
                              · rw [if_pos c42] at H
                                have c42b0 : decide ((rd t652 x15_2) < (x14_2.length : Int)) = true := decide_eq_true c42
                                clear c42
                                obtain ⟨bq43, hbq43⟩ : ∃ b_ : Bool, b_ = (rdOf false x14_2 (rd t652 x15_2)) := ⟨_, rfl⟩
                                replace H : (if bq43 = true then (some false) else (numnahlaw03_SpreadEven.l0 k2 t650 t652 (x14_2.set ((rd t652 x15_2) : Int).toNat true) (wrap64 (x15_2 + 1)))) = some r := by rw [← hbq43] at H; exact H
                                have Nbq43 := Aside0.mk hbq43
                                clear hbq43
                                by_cases c44 : bq43 = true
                                · subst c44
                                  have H1 : (some false) = some r := by rw [if_pos rfl] at H; exact H
                                  clear H
                                  have H := H1
                                  clear H1
                                  obtain rfl := Option.some.inj H
                                  have p673 : 0 ≤ (x15_2 : Int) := of_decide_eq_true (by first | (with_reducible assumption) | assumption)
                                  have q673 : x15_2 < (t652.length : Int) := of_decide_eq_true (by first | (with_reducible assumption) | assumption)
                                  obtain ⟨ad673, e673, hx673_0⟩ := Kd.at_int (Kd.R_reads' HO_6.out).2.2 x15_2 p673 q673
                                  cases e673
                                  replace p673 := eq_true p673
                                  replace q673 := eq_true q673
                                  have p674 : 0 ≤ (x15_2 : Int) := of_decide_eq_true (by first | (with_reducible assumption) | assumption)
                                  have q674 : x15_2 < (t652.length : Int) := of_decide_eq_true (by first | (with_reducible assumption) | assumption)
                                  obtain ⟨ad674, e674, hx674_0⟩ := Kd.at_int (Kd.R_reads' HO_6.out).2.2 x15_2 p674 q674
                                  obtain rfl : ad673 = ad674 := (by injection e674)
                                  replace p674 := eq_true p674
                                  replace q674 := eq_true q674
                                  have p675 : 0 ≤ (x15_2 : Int) := of_decide_eq_true (by first | (with_reducible assumption) | assumption)
                                  have q675 : x15_2 < (t652.length : Int) := of_decide_eq_true (by first | (with_reducible assumption) | assumption)
                                  obtain ⟨ad675, e675, hx675_0⟩ := Kd.at_int (Kd.R_reads' HO_6.out).2.2 x15_2 p675 q675
                                  obtain rfl : ad673 = ad675 := (by injection e675)
                                  replace p675 := eq_true p675
                                  replace q675 := eq_true q675
                                  obtain ⟨Ao45, co45, eo45⟩ := Kd.R_slice HO_14.out
                                  subst eo45
                                  have p676 : 0 ≤ ((rd t652 x15_2) : Int) := of_decide_eq_true (by first | (with_reducible assumption) | assumption)
                                  have q676 : (rd t652 x15_2) < (x14_2.length : Int) := of_decide_eq_true (by first | (with_reducible assumption) | assumption)
                                  obtain ⟨ad676, e676, hx676_0⟩ := Kd.at_bool (Kd.R_reads' HO_14.out).2.2 (rd t652 x15_2) p676 q676
                                  (try rw [← Nbq43.out] at hx676_0)
                                  cases e676
                                  replace p676 := eq_true p676
                                  replace q676 := eq_true q676
                                  go_wp2
                                  go_ret
                                  exact ⟨by first | rfl | (simp [errW_none, errW_some] <;> rfl) | (simp [*, errW_none, errW_some] <;> rfl), by repeat (first | (with_reducible first | exact HB.out | apply below_alloc | apply pw_below_drewN | apply below_drew1 | refine below_set ?_ GE661.out) | exact HB.out)⟩
                                · replace c44 := Bool.eq_false_iff.mpr c44
                                  subst c44
                                  have H1 : (numnahlaw03_SpreadEven.l0 k2 t650 t652 (x14_2.set ((rd t652 x15_2) : Int).toNat true) (wrap64 (x15_2 + 1))) = some r := by rw [if_neg (show ¬ (false = true) by decide)] at H; exact H
                                  clear H
                                  have H := H1
                                  clear H1
                                  obtain ⟨y678, hy678⟩ : ∃ y_ : List Bool, y_ = (x14_2.set ((rd t652 x15_2) : Int).toNat true) := ⟨_, rfl⟩
                                  replace H : (numnahlaw03_SpreadEven.l0 k2 t650 t652 y678 (wrap64 (x15_2 + 1))) = some r := by first | (rw [hy678]; with_reducible exact H) | (have H2_ := (Option.bind_some _ _).symm.trans H; rw [hy678]; with_reducible exact H2_) | (have H2_ := (Option.bind_some _ _).symm.trans H; with_reducible exact H2_) | with_reducible exact H | (rw [hy678]; exact H) | exact H
                                  have Ny678 := Aside0.mk hy678
                                  clear hy678
                                  have H' := Aside0.mk H
                                  clear H
                                  have p673 : 0 ≤ (x15_2 : Int) := of_decide_eq_true (by first | (with_reducible assumption) | assumption)
                                  have q673 : x15_2 < (t652.length : Int) := of_decide_eq_true (by first | (with_reducible assumption) | assumption)
                                  obtain ⟨ad673, e673, hx673_0⟩ := Kd.at_int (Kd.R_reads' HO_6.out).2.2 x15_2 p673 q673
                                  cases e673
                                  replace p673 := eq_true p673
                                  replace q673 := eq_true q673
                                  have p674 : 0 ≤ (x15_2 : Int) := of_decide_eq_true (by first | (with_reducible assumption) | assumption)
                                  have q674 : x15_2 < (t652.length : Int) := of_decide_eq_true (by first | (with_reducible assumption) | assumption)
                                  obtain ⟨ad674, e674, hx674_0⟩ := Kd.at_int (Kd.R_reads' HO_6.out).2.2 x15_2 p674 q674
                                  obtain rfl : ad673 = ad674 := (by injection e674)
                                  replace p674 := eq_true p674
                                  replace q674 := eq_true q674
                                  have p675 : 0 ≤ (x15_2 : Int) := of_decide_eq_true (by first | (with_reducible assumption) | assumption)
                                  have q675 : x15_2 < (t652.length : Int) := of_decide_eq_true (by first | (with_reducible assumption) | assumption)
                                  obtain ⟨ad675, e675, hx675_0⟩ := Kd.at_int (Kd.R_reads' HO_6.out).2.2 x15_2 p675 q675
                                  obtain rfl : ad673 = ad675 := (by injection e675)
                                  replace p675 := eq_true p675
                                  replace q675 := eq_true q675
                                  obtain ⟨Ao47, co47, eo47⟩ := Kd.R_slice HO_14.out
                                  subst eo47
                                  have p676 : 0 ≤ ((rd t652 x15_2) : Int) := of_decide_eq_true (by first | (with_reducible assumption) | assumption)
                                  have q676 : (rd t652 x15_2) < (x14_2.length : Int) := of_decide_eq_true (by first | (with_reducible assumption) | assumption)
                                  obtain ⟨ad676, e676, hx676_0⟩ := Kd.at_bool (Kd.R_reads' HO_14.out).2.2 (rd t652 x15_2) p676 q676
                                  (try rw [← Nbq43.out] at hx676_0)
                                  cases e676
                                  replace p676 := eq_true p676
                                  replace q676 := eq_true q676
                                  have p677 : 0 ≤ (x15_2 : Int) := of_decide_eq_true (by first | (with_reducible assumption) | assumption)
                                  have q677 : x15_2 < (t652.length : Int) := of_decide_eq_true (by first | (with_reducible assumption) | assumption)
                                  obtain ⟨ad677, e677, hx677_0⟩ := Kd.at_int (Kd.R_reads' HO_6.out).2.2 x15_2 p677 q677
                                  obtain rfl : ad673 = ad677 := (by injection e677)
                                  replace p677 := eq_true p677
                                  replace q677 := eq_true q677
                                  have p46 : 0 ≤ ((rd t652 x15_2) : Int) := of_decide_eq_true (by first | (with_reducible assumption) | assumption)
                                  have q46 : ((rd t652 x15_2) : Int) < ((x14_2.length : Int) : Int) := of_decide_eq_true (by first | (with_reducible assumption) | assumption)
                                  obtain ⟨go46, co46, eo46, gb46, gl46, cl46, HG46⟩ := Kd.R_form HO_14.out (by omega)
                                  (first | cases eo46 | (injection eo46 with ea_ en_ ec_; (first | subst ea_ | (injection ea_ with ea_; subst ea_)); subst ec_; clear en_))
                                  have GB46 := Aside0.mk gb46
                                  have GG46 := Aside0.mk HG46
                                  clear gb46 gl46 HG46
                                  (first | simp only [add_plain] at hx676_0 | skip)
                                  obtain ⟨hx46_0, hf46_0⟩ := Kd.R_celln false HO_14.out ((rd t652 x15_2) : Int) p46 q46
                                  replace p46 := eq_true p46
                                  replace q46 := eq_true q46
                                  have HP48 := Kd.R_putg HO_14.out ((rd t652 x15_2) : Int) true
                                  go_wp2_with (first | ((with_reducible refine gate_store (t := 4) (p := 111) rfl ?_); refine store_event (t := 4) (p := 111) (v := ?vo_w49) (w1 := (wr.setCell ⟨go46, ((rd t652 x15_2) : Int).toNat, none⟩ (.bool true))) ?hg ?ho ?hn ?hr ?_; (case ho => rfl); (case hg => rfl); (case hn => rfl); (case hr => first | (go_simp; done) | (go_simp; rfl)); intro w49 hw; have hg : wr.grownBy w49 (some go46) := (by rw [hw]; exact HP48.2); have hp_ : Kd.R Kd.bool 4 w49 w.heap.size (fun _ => True) (.slice (some ⟨go46, 0, none⟩) x14_2.length co47) y678 := (by rw [hw, Ny678.out]; exact HP48.1); clear HP48; have n0_ := Aside0.mk (Kd.R_over' (v := (.slice (some ⟨go46, 0, none⟩) x14_2.length co47)) (by (with_reducible repeat (first | apply Kd.R_alloc | apply Kd.R_drewN | apply Kd.R_drew)); exact HO_6.out) (Kd.R_typed HO_14.out) (by decide) hg); have n1_ := Aside0.mk (hp_); have n2_ := Aside0.mk (blk_grown (g := gb661) (o := .cells #[.int .i64 t656, .int .i64 t657] 26 (0, 0)) (by (with_reducible repeat (first | refine blk_drewN ?_ _ | refine blk_drew ?_ | refine blk_alloc ?_ _)); exact BK661.out) hg (Kd.R_ne HO_14.out BK661.out (by decide))); have n3_ := Aside0.mk ((by rw [hw]; exact below_set (HB.out) GB46.out : Below w.heap.size w w49)); clear HO_6; clear HO_14; clear BK661; clear HB; have HO_6 := n0_; have HO_14 := n1_; have BK661 := n2_; have HB := n3_; clear n0_ n1_ n2_ n3_; clear hg hw hp_))
                                  go_roundg k2
                                  case measure => have := HJ11.out; have := HK2.out; omega
                                  case rel => exact ⟨(y678), (wrap64 (x15_2 + 1)), (by first | rfl | (simp; done) | (simp [*]; done)), H', ⟨by have := HJ11.out; have := HK2.out; omega⟩, ⟨by (with_reducible repeat (first | apply Kd.R_alloc | apply Kd.R_drewN | apply Kd.R_drew)); exact HO_6.out⟩, ⟨by (with_reducible repeat (first | apply Kd.R_alloc | apply Kd.R_drewN | apply Kd.R_drew)); exact HO_14.out⟩, ⟨by (with_reducible repeat (first | refine blk_drewN ?_ _ | refine blk_drew ?_ | refine blk_alloc ?_ _)); exact BK661.out⟩, ⟨by repeat (first | (with_reducible first | exact HB.out | apply below_alloc | apply pw_below_drewN | apply below_drew1 | refine below_set ?_ GE661.out) | exact HB.out)⟩⟩
                              · rw [if_neg c42] at H
                                exact absurd H (by simp)
                            · rw [if_neg c41] at H
                              exact absurd H (by simp)
                      · rw [if_neg c38] at H
                        exact absurd H (by simp)
                    · rw [if_neg c37] at H
                      exact absurd H (by simp)
                  · rw [if_neg c36] at H
                    have c36b0 : decide (x15_2 < t650) = false := decide_eq_false c36
                    clear c36
                    replace H := Option.bind_eq_some_iff.mp H
                    obtain ⟨t679, A500, H⟩ := H
                    replace H : (some t679) = some r := H
                    have A50 := Aside0.mk A500
                    clear A500
                    obtain rfl := Option.some.inj H
                    go_wp2_with (first | ((with_reducible refine gate_callee (f := 22) rfl ?_); refine goesL_ (some 112) rfl rfl Try.func22 (by kernel_rfl) rfl #[] rfl (by (try simp only [List.map_toArray, List.map_cons, List.map_nil]); first | done | rfl | (simp only [List.length_drop, List.length_take]; rfl)) ?_; (with_reducible refine (numnahlaw03_awake.calls k2  t679 _ A50.out).mono ?_); rintro e w51 ⟨rfl, hb⟩; refine ⟨_, rfl, ?_⟩; have n0_ := Aside0.mk (Kd.R_below (by (with_reducible repeat (first | apply Kd.R_alloc | apply Kd.R_drewN | apply Kd.R_drew)); exact HO_6.out) hb); have n1_ := Aside0.mk (Kd.R_below (by (with_reducible repeat (first | apply Kd.R_alloc | apply Kd.R_drewN | apply Kd.R_drew)); exact HO_14.out) hb); have n2_ := Aside0.mk (blk_below (g := gb661) (o := .cells #[.int .i64 t656, .int .i64 t657] 26 (0, 0)) (by (with_reducible repeat (first | refine blk_drewN ?_ _ | refine blk_drew ?_ | refine blk_alloc ?_ _)); exact BK661.out) hb); have n3_ := Aside0.mk (below_step (by repeat (first | (with_reducible first | exact HB.out | apply below_alloc | apply pw_below_drewN | apply below_drew1 | refine below_set ?_ GE661.out) | exact HB.out)) hb); clear HO_6; clear HO_14; clear BK661; clear HB; have HO_6 := n0_; have HO_14 := n1_; have BK661 := n2_; have HB := n3_; clear n0_ n1_ n2_ n3_; (try clear hb); (try clear hb2); (try clear hk); (try clear hi)))
                    go_ret
                    exact ⟨by first | rfl | (simp [errW_none, errW_some] <;> rfl) | (simp [*, errW_none, errW_some] <;> rfl), by repeat (first | (with_reducible first | exact HB.out | apply below_alloc | apply pw_below_drewN | apply below_drew1 | refine below_set ?_ GE661.out) | exact HB.out)⟩
            · rw [if_neg c33] at H
              exact absurd H (by simp)
          · rw [if_neg c32] at H
            exact absurd H (by simp)

/-- THE ONE PURE STATEMENT of numnahlaw03_SpreadEven: yours. -/
def numnahlaw03_SpreadEven.Pure : Prop := ∀ (a0 : Int) (a1 : Int), (Lit.int .i64 a0).wf = true → (Lit.int .i64 a1).wf = true → ∃ k, numnahlaw03_SpreadEven.f k a0 a1 = some true
theorem numnahlaw03_SpreadEven.walk (P : numnahlaw03_SpreadEven.Pure) (a0 : Int) (a1 : Int) (w : World) (w0 : (Lit.int .i64 a0).wf = true) (w1 : (Lit.int .i64 a1).wf = true) :
    Calls Try.prog 13 #[.int .i64 a0, .int .i64 a1] w fun e w' => e = .returned (.bool true) ∧ Below w.heap.size w w' := by
  obtain ⟨k, h⟩ := P a0 a1 w0 w1
  refine (numnahlaw03_SpreadEven.calls k a0 a1 true w h).mono ?_
  rintro e w' ⟨rfl, hd⟩
  exact ⟨rfl, hd⟩

end Go.Proofs.Ythngclneffngbaa.Pr
