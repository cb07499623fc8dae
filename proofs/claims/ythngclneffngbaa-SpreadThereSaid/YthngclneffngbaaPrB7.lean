-- Laid by wip/tools/inj.py of this project, which drives the kit's printer. Lean checks it.
import Derived.Test.YthngclneffngbaaPr0
import Derived.Test.YthngclneffngbaaHAdd
import Derived.Test.YthngclneffngbaaPrA1
import Derived.Test.YthngclneffngbaaPrA2
import Derived.Test.YthngclneffngbaaPrA3
import Derived.Test.YthngclneffngbaaPrA5
import Derived.Test.YthngclneffngbaaPrB1
import Derived.Test.YthngclneffngbaaPrEq1
namespace Go.Proofs.Ythngclneffngbaa.Pr
open Go.RowKit Go.Proofs.YthngclneffngbaaW.PrintWords Go.Proofs.YthngclneffngbaaW.PrintLast Go.Proofs.YthngclneffngbaaW.PrintMore
attribute [local go_sem] max2_int min2_int max_two min_two max_three min_three max_four min_four   -- for this text's walks alone
set_option linter.unusedVariables false
set_option linter.unusedSimpArgs false

attribute [local go_sem high] eqA26
/-! ### numnahlaw03_SpreadThere: function 10 -/
def numnahlaw03_SpreadThere.j0 : Nat → Int → Int → Bool → Int → Int → Int → Int → Option (Bool)
  | 0, _, _, _, _, _, _, _ => none
  | k + 1, x0, x2, x83, x375000, x375001, x381000, x381001 => if x83 = true then (some false) else ((numnahref03_Reduced.f k x375000 (wrap64 (x375001 * x0))).bind fun bt382 => ((numnahref03_Reduced.f k x2 x0).bind fun bt384 => ((spread_Add.f bt382.1 bt382.2 bt384.1 bt384.2).bind fun bt386 => (if bt386.2.2 = 0 then (if (bt386.1 == x381000 && (bt386.2.1 == x381001)) = true then ((numnahlaw03_awake.f k).bind fun t390 => (some t390)) else (some false)) else (some false)))))
def numnahlaw03_SpreadThere.f (k : Nat) (a0 : Int) (a1 : Int) (a2 : Int) : Option (Bool) := (numnahlaw03_mod.f a0 15).bind fun t368 => (if (wrap64 (2 + t368)) = 0 then (none) else ((numnahlaw03_mod.f a1 (wrap64 (Int.tdiv (1000000 : Int) (wrap64 (2 + t368))))).bind fun t369 => ((numnahlaw03_mod.f a2 (wrap64 (2 + t368))).bind fun t370 => ((spread_Mirror.f k (wrap64 (2 + t368)) t369).bind fun bt371 => ((spread_Back.f k (wrap64 (2 + t368)) bt371.1 bt371.2.1).bind fun bt375 => ((spread_Mirror.f k (wrap64 (2 + t368)) (wrap64 ((wrap64 (t369 * (wrap64 (2 + t368)))) + t370))).bind fun bt377 => (if bt371.2.2 = 0 then (if bt375.2 = 0 then (if bt377.2.2 = 0 then (if bt375.1 = t369 then ((numnahref03_Valid.f k bt371.1 bt371.2.1).bind fun t381 => (if t381 = true then (if bt371.1 < 0 then (numnahlaw03_SpreadThere.j0 k (wrap64 (2 + t368)) t370 true bt371.1 bt371.2.1 bt377.1 bt377.2.1) else (if bt371.1 ≥ bt371.2.1 then (numnahlaw03_SpreadThere.j0 k (wrap64 (2 + t368)) t370 true bt371.1 bt371.2.1 bt377.1 bt377.2.1) else (numnahlaw03_SpreadThere.j0 k (wrap64 (2 + t368)) t370 (decide (bt371.2.1 > 16000000)) bt371.1 bt371.2.1 bt377.1 bt377.2.1))) else (numnahlaw03_SpreadThere.j0 k (wrap64 (2 + t368)) t370 true bt371.1 bt371.2.1 bt377.1 bt377.2.1))) else (numnahlaw03_SpreadThere.j0 k (wrap64 (2 + t368)) t370 true bt371.1 bt371.2.1 bt377.1 bt377.2.1)) else (numnahlaw03_SpreadThere.j0 k (wrap64 (2 + t368)) t370 true bt371.1 bt371.2.1 bt377.1 bt377.2.1)) else (numnahlaw03_SpreadThere.j0 k (wrap64 (2 + t368)) t370 true bt371.1 bt371.2.1 bt377.1 bt377.2.1)) else (numnahlaw03_SpreadThere.j0 k (wrap64 (2 + t368)) t370 true bt371.1 bt371.2.1 bt377.1 bt377.2.1))))))))
theorem numnahlaw03_SpreadThere.mono_l : ∀ k, (∀ y0 y1 y2 y3 y4 y5 y6, LeO (numnahlaw03_SpreadThere.j0 k y0 y1 y2 y3 y4 y5 y6) (numnahlaw03_SpreadThere.j0 (k + 1) y0 y1 y2 y3 y4 y5 y6))
  | 0 => fun _ _ _ _ _ _ _ r h => by simp [numnahlaw03_SpreadThere.j0] at h
  | k + 1 => by
    have ih0 := numnahlaw03_SpreadThere.mono_l k
    · intro y0 y1 y2 y3 y4 y5 y6
      unfold numnahlaw03_SpreadThere.j0
      repeat' first
      | (with_reducible exact ih0 _ _ _ _ _ _ _)
      | (with_reducible exact numnahlaw03_awake.mono _)
      | (with_reducible exact numnahref03_Reduced.mono _ _ _)
      | (with_reducible exact numnahref03_Valid.mono _ _ _)
      | (with_reducible exact spread_Back.mono _ _ _ _)
      | (with_reducible exact spread_Mirror.mono _ _ _)
      | (with_reducible exact LeO.refl _)
      | (with_reducible exact LeO.none _)
      | (with_reducible refine LeO.ite ?_ ?_)
      | (with_reducible refine LeO.bind ?_ (fun _ => ?_))
      | exact ih0 _ _ _ _ _ _ _
      | exact numnahlaw03_awake.mono _
      | exact numnahref03_Reduced.mono _ _ _
      | exact numnahref03_Valid.mono _ _ _
      | exact spread_Back.mono _ _ _ _
      | exact spread_Mirror.mono _ _ _
      | exact LeO.none _
      | refine LeO.ite ?_ ?_
      | refine LeO.bind ?_ (fun _ => ?_)
theorem numnahlaw03_SpreadThere.mono : ∀ a0 a1 a2 k, LeO (numnahlaw03_SpreadThere.f k a0 a1 a2) (numnahlaw03_SpreadThere.f (k + 1) a0 a1 a2) := by
  intro a0 a1 a2 k
  have ih0 := numnahlaw03_SpreadThere.mono_l k
  unfold numnahlaw03_SpreadThere.f
  repeat' first
      | (with_reducible exact ih0 _ _ _ _ _ _ _)
      | (with_reducible exact numnahlaw03_awake.mono _)
      | (with_reducible exact numnahref03_Reduced.mono _ _ _)
      | (with_reducible exact numnahref03_Valid.mono _ _ _)
      | (with_reducible exact spread_Back.mono _ _ _ _)
      | (with_reducible exact spread_Mirror.mono _ _ _)
      | (with_reducible exact LeO.refl _)
      | (with_reducible exact LeO.none _)
      | (with_reducible refine LeO.ite ?_ ?_)
      | (with_reducible refine LeO.bind ?_ (fun _ => ?_))
      | exact ih0 _ _ _ _ _ _ _
      | exact numnahlaw03_awake.mono _
      | exact numnahref03_Reduced.mono _ _ _
      | exact numnahref03_Valid.mono _ _ _
      | exact spread_Back.mono _ _ _ _
      | exact spread_Mirror.mono _ _ _
      | exact LeO.none _
      | refine LeO.ite ?_ ?_
      | refine LeO.bind ?_ (fun _ => ?_)
set_option maxHeartbeats 8000000 in
set_option maxRecDepth 100000 in
theorem numnahlaw03_SpreadThere.calls (k : Nat) (a0 : Int) (a1 : Int) (a2 : Int) (r : Bool) (w : World) (h : numnahlaw03_SpreadThere.f k a0 a1 a2 = some r) :
    Calls Try.prog 10 #[.int .i64 a0, .int .i64 a1, .int .i64 a2] w fun e w' => e = .returned (.bool r) ∧ Below w.heap.size w w' := by
  have hu26 := Try.underlying26
  have HB := Aside0.mk (Below.refl w.heap.size w)
  have H : ((numnahlaw03_mod.f a0 15).bind fun t368 => (if (wrap64 (2 + t368)) = 0 then (none) else ((numnahlaw03_mod.f a1 (wrap64 (Int.tdiv (1000000 : Int) (wrap64 (2 + t368))))).bind fun t369 => ((numnahlaw03_mod.f a2 (wrap64 (2 + t368))).bind fun t370 => ((spread_Mirror.f k (wrap64 (2 + t368)) t369).bind fun bt371 => ((spread_Back.f k (wrap64 (2 + t368)) bt371.1 bt371.2.1).bind fun bt375 => ((spread_Mirror.f k (wrap64 (2 + t368)) (wrap64 ((wrap64 (t369 * (wrap64 (2 + t368)))) + t370))).bind fun bt377 => (if bt371.2.2 = 0 then (if bt375.2 = 0 then (if bt377.2.2 = 0 then (if bt375.1 = t369 then ((numnahref03_Valid.f k bt371.1 bt371.2.1).bind fun t381 => (if t381 = true then (if bt371.1 < 0 then (numnahlaw03_SpreadThere.j0 k (wrap64 (2 + t368)) t370 true bt371.1 bt371.2.1 bt377.1 bt377.2.1) else (if bt371.1 ≥ bt371.2.1 then (numnahlaw03_SpreadThere.j0 k (wrap64 (2 + t368)) t370 true bt371.1 bt371.2.1 bt377.1 bt377.2.1) else (numnahlaw03_SpreadThere.j0 k (wrap64 (2 + t368)) t370 (decide (bt371.2.1 > 16000000)) bt371.1 bt371.2.1 bt377.1 bt377.2.1))) else (numnahlaw03_SpreadThere.j0 k (wrap64 (2 + t368)) t370 true bt371.1 bt371.2.1 bt377.1 bt377.2.1))) else (numnahlaw03_SpreadThere.j0 k (wrap64 (2 + t368)) t370 true bt371.1 bt371.2.1 bt377.1 bt377.2.1)) else (numnahlaw03_SpreadThere.j0 k (wrap64 (2 + t368)) t370 true bt371.1 bt371.2.1 bt377.1 bt377.2.1)) else (numnahlaw03_SpreadThere.j0 k (wrap64 (2 + t368)) t370 true bt371.1 bt371.2.1 bt377.1 bt377.2.1)) else (numnahlaw03_SpreadThere.j0 k (wrap64 (2 + t368)) t370 true bt371.1 bt371.2.1 bt377.1 bt377.2.1))))))))) = some r := h
  clear h
  replace H := Option.bind_eq_some_iff.mp H
  obtain ⟨t368, A40, H⟩ := H
  replace H : (if (wrap64 (2 + t368)) = 0 then (none) else ((numnahlaw03_mod.f a1 (wrap64 (Int.tdiv (1000000 : Int) (wrap64 (2 + t368))))).bind fun t369 => ((numnahlaw03_mod.f a2 (wrap64 (2 + t368))).bind fun t370 => ((spread_Mirror.f k (wrap64 (2 + t368)) t369).bind fun bt371 => ((spread_Back.f k (wrap64 (2 + t368)) bt371.1 bt371.2.1).bind fun bt375 => ((spread_Mirror.f k (wrap64 (2 + t368)) (wrap64 ((wrap64 (t369 * (wrap64 (2 + t368)))) + t370))).bind fun bt377 => (if bt371.2.2 = 0 then (if bt375.2 = 0 then (if bt377.2.2 = 0 then (if bt375.1 = t369 then ((numnahref03_Valid.f k bt371.1 bt371.2.1).bind fun t381 => (if t381 = true then (if bt371.1 < 0 then (numnahlaw03_SpreadThere.j0 k (wrap64 (2 + t368)) t370 true bt371.1 bt371.2.1 bt377.1 bt377.2.1) else (if bt371.1 ≥ bt371.2.1 then (numnahlaw03_SpreadThere.j0 k (wrap64 (2 + t368)) t370 true bt371.1 bt371.2.1 bt377.1 bt377.2.1) else (numnahlaw03_SpreadThere.j0 k (wrap64 (2 + t368)) t370 (decide (bt371.2.1 > 16000000)) bt371.1 bt371.2.1 bt377.1 bt377.2.1))) else (numnahlaw03_SpreadThere.j0 k (wrap64 (2 + t368)) t370 true bt371.1 bt371.2.1 bt377.1 bt377.2.1))) else (numnahlaw03_SpreadThere.j0 k (wrap64 (2 + t368)) t370 true bt371.1 bt371.2.1 bt377.1 bt377.2.1)) else (numnahlaw03_SpreadThere.j0 k (wrap64 (2 + t368)) t370 true bt371.1 bt371.2.1 bt377.1 bt377.2.1)) else (numnahlaw03_SpreadThere.j0 k (wrap64 (2 + t368)) t370 true bt371.1 bt371.2.1 bt377.1 bt377.2.1)) else (numnahlaw03_SpreadThere.j0 k (wrap64 (2 + t368)) t370 true bt371.1 bt371.2.1 bt377.1 bt377.2.1)))))))) = some r := H
  have A4 := Aside0.mk A40
  clear A40
  by_cases c5 : (wrap64 (2 + t368)) = 0
  · rw [if_pos c5] at H
    exact absurd H (by simp)
  · rw [if_neg c5] at H
    have c5b0 : ((wrap64 (2 + t368)) == 0) = false := beq_eq_false_iff_ne.mpr c5
    have c5b1 : ((wrap64 (2 + t368)) != 0) = true := bne_iff_ne.mpr c5
    replace H := Option.bind_eq_some_iff.mp H
    obtain ⟨t369, A60, H⟩ := H
    replace H : ((numnahlaw03_mod.f a2 (wrap64 (2 + t368))).bind fun t370 => ((spread_Mirror.f k (wrap64 (2 + t368)) t369).bind fun bt371 => ((spread_Back.f k (wrap64 (2 + t368)) bt371.1 bt371.2.1).bind fun bt375 => ((spread_Mirror.f k (wrap64 (2 + t368)) (wrap64 ((wrap64 (t369 * (wrap64 (2 + t368)))) + t370))).bind fun bt377 => (if bt371.2.2 = 0 then (if bt375.2 = 0 then (if bt377.2.2 = 0 then (if bt375.1 = t369 then ((numnahref03_Valid.f k bt371.1 bt371.2.1).bind fun t381 => (if t381 = true then (if bt371.1 < 0 then (numnahlaw03_SpreadThere.j0 k (wrap64 (2 + t368)) t370 true bt371.1 bt371.2.1 bt377.1 bt377.2.1) else (if bt371.1 ≥ bt371.2.1 then (numnahlaw03_SpreadThere.j0 k (wrap64 (2 + t368)) t370 true bt371.1 bt371.2.1 bt377.1 bt377.2.1) else (numnahlaw03_SpreadThere.j0 k (wrap64 (2 + t368)) t370 (decide (bt371.2.1 > 16000000)) bt371.1 bt371.2.1 bt377.1 bt377.2.1))) else (numnahlaw03_SpreadThere.j0 k (wrap64 (2 + t368)) t370 true bt371.1 bt371.2.1 bt377.1 bt377.2.1))) else (numnahlaw03_SpreadThere.j0 k (wrap64 (2 + t368)) t370 true bt371.1 bt371.2.1 bt377.1 bt377.2.1)) else (numnahlaw03_SpreadThere.j0 k (wrap64 (2 + t368)) t370 true bt371.1 bt371.2.1 bt377.1 bt377.2.1)) else (numnahlaw03_SpreadThere.j0 k (wrap64 (2 + t368)) t370 true bt371.1 bt371.2.1 bt377.1 bt377.2.1)) else (numnahlaw03_SpreadThere.j0 k (wrap64 (2 + t368)) t370 true bt371.1 bt371.2.1 bt377.1 bt377.2.1)))))) = some r := H
    have A6 := Aside0.mk A60
    clear A60
    replace H := Option.bind_eq_some_iff.mp H
    obtain ⟨t370, A70, H⟩ := H
    replace H : ((spread_Mirror.f k (wrap64 (2 + t368)) t369).bind fun bt371 => ((spread_Back.f k (wrap64 (2 + t368)) bt371.1 bt371.2.1).bind fun bt375 => ((spread_Mirror.f k (wrap64 (2 + t368)) (wrap64 ((wrap64 (t369 * (wrap64 (2 + t368)))) + t370))).bind fun bt377 => (if bt371.2.2 = 0 then (if bt375.2 = 0 then (if bt377.2.2 = 0 then (if bt375.1 = t369 then ((numnahref03_Valid.f k bt371.1 bt371.2.1).bind fun t381 => (if t381 = true then (if bt371.1 < 0 then (numnahlaw03_SpreadThere.j0 k (wrap64 (2 + t368)) t370 true bt371.1 bt371.2.1 bt377.1 bt377.2.1) else (if bt371.1 ≥ bt371.2.1 then (numnahlaw03_SpreadThere.j0 k (wrap64 (2 + t368)) t370 true bt371.1 bt371.2.1 bt377.1 bt377.2.1) else (numnahlaw03_SpreadThere.j0 k (wrap64 (2 + t368)) t370 (decide (bt371.2.1 > 16000000)) bt371.1 bt371.2.1 bt377.1 bt377.2.1))) else (numnahlaw03_SpreadThere.j0 k (wrap64 (2 + t368)) t370 true bt371.1 bt371.2.1 bt377.1 bt377.2.1))) else (numnahlaw03_SpreadThere.j0 k (wrap64 (2 + t368)) t370 true bt371.1 bt371.2.1 bt377.1 bt377.2.1)) else (numnahlaw03_SpreadThere.j0 k (wrap64 (2 + t368)) t370 true bt371.1 bt371.2.1 bt377.1 bt377.2.1)) else (numnahlaw03_SpreadThere.j0 k (wrap64 (2 + t368)) t370 true bt371.1 bt371.2.1 bt377.1 bt377.2.1)) else (numnahlaw03_SpreadThere.j0 k (wrap64 (2 + t368)) t370 true bt371.1 bt371.2.1 bt377.1 bt377.2.1))))) = some r := H
    have A7 := Aside0.mk A70
    clear A70
    replace H := Option.bind_eq_some_iff.mp H
    obtain ⟨⟨t371, t372, t373⟩, A80, H⟩ := H
    replace H : ((spread_Back.f k (wrap64 (2 + t368)) t371 t372).bind fun bt375 => ((spread_Mirror.f k (wrap64 (2 + t368)) (wrap64 ((wrap64 (t369 * (wrap64 (2 + t368)))) + t370))).bind fun bt377 => (if t373 = 0 then (if bt375.2 = 0 then (if bt377.2.2 = 0 then (if bt375.1 = t369 then ((numnahref03_Valid.f k t371 t372).bind fun t381 => (if t381 = true then (if t371 < 0 then (numnahlaw03_SpreadThere.j0 k (wrap64 (2 + t368)) t370 true t371 t372 bt377.1 bt377.2.1) else (if t371 ≥ t372 then (numnahlaw03_SpreadThere.j0 k (wrap64 (2 + t368)) t370 true t371 t372 bt377.1 bt377.2.1) else (numnahlaw03_SpreadThere.j0 k (wrap64 (2 + t368)) t370 (decide (t372 > 16000000)) t371 t372 bt377.1 bt377.2.1))) else (numnahlaw03_SpreadThere.j0 k (wrap64 (2 + t368)) t370 true t371 t372 bt377.1 bt377.2.1))) else (numnahlaw03_SpreadThere.j0 k (wrap64 (2 + t368)) t370 true t371 t372 bt377.1 bt377.2.1)) else (numnahlaw03_SpreadThere.j0 k (wrap64 (2 + t368)) t370 true t371 t372 bt377.1 bt377.2.1)) else (numnahlaw03_SpreadThere.j0 k (wrap64 (2 + t368)) t370 true t371 t372 bt377.1 bt377.2.1)) else (numnahlaw03_SpreadThere.j0 k (wrap64 (2 + t368)) t370 true t371 t372 bt377.1 bt377.2.1)))) = some r := H
    have A8 := Aside0.mk A80
    clear A80
    replace H := Option.bind_eq_some_iff.mp H
    obtain ⟨⟨t375, t376⟩, A90, H⟩ := H
    replace H : ((spread_Mirror.f k (wrap64 (2 + t368)) (wrap64 ((wrap64 (t369 * (wrap64 (2 + t368)))) + t370))).bind fun bt377 => (if t373 = 0 then (if t376 = 0 then (if bt377.2.2 = 0 then (if t375 = t369 then ((numnahref03_Valid.f k t371 t372).bind fun t381 => (if t381 = true then (if t371 < 0 then (numnahlaw03_SpreadThere.j0 k (wrap64 (2 + t368)) t370 true t371 t372 bt377.1 bt377.2.1) else (if t371 ≥ t372 then (numnahlaw03_SpreadThere.j0 k (wrap64 (2 + t368)) t370 true t371 t372 bt377.1 bt377.2.1) else (numnahlaw03_SpreadThere.j0 k (wrap64 (2 + t368)) t370 (decide (t372 > 16000000)) t371 t372 bt377.1 bt377.2.1))) else (numnahlaw03_SpreadThere.j0 k (wrap64 (2 + t368)) t370 true t371 t372 bt377.1 bt377.2.1))) else (numnahlaw03_SpreadThere.j0 k (wrap64 (2 + t368)) t370 true t371 t372 bt377.1 bt377.2.1)) else (numnahlaw03_SpreadThere.j0 k (wrap64 (2 + t368)) t370 true t371 t372 bt377.1 bt377.2.1)) else (numnahlaw03_SpreadThere.j0 k (wrap64 (2 + t368)) t370 true t371 t372 bt377.1 bt377.2.1)) else (numnahlaw03_SpreadThere.j0 k (wrap64 (2 + t368)) t370 true t371 t372 bt377.1 bt377.2.1))) = some r := H
    have A9 := Aside0.mk A90
    clear A90
    replace H := Option.bind_eq_some_iff.mp H
    obtain ⟨⟨t377, t378, t379⟩, A100, H⟩ := H
    replace H : (if t373 = 0 then (if t376 = 0 then (if t379 = 0 then (if t375 = t369 then ((numnahref03_Valid.f k t371 t372).bind fun t381 => (if t381 = true then (if t371 < 0 then (numnahlaw03_SpreadThere.j0 k (wrap64 (2 + t368)) t370 true t371 t372 t377 t378) else (if t371 ≥ t372 then (numnahlaw03_SpreadThere.j0 k (wrap64 (2 + t368)) t370 true t371 t372 t377 t378) else (numnahlaw03_SpreadThere.j0 k (wrap64 (2 + t368)) t370 (decide (t372 > 16000000)) t371 t372 t377 t378))) else (numnahlaw03_SpreadThere.j0 k (wrap64 (2 + t368)) t370 true t371 t372 t377 t378))) else (numnahlaw03_SpreadThere.j0 k (wrap64 (2 + t368)) t370 true t371 t372 t377 t378)) else (numnahlaw03_SpreadThere.j0 k (wrap64 (2 + t368)) t370 true t371 t372 t377 t378)) else (numnahlaw03_SpreadThere.j0 k (wrap64 (2 + t368)) t370 true t371 t372 t377 t378)) else (numnahlaw03_SpreadThere.j0 k (wrap64 (2 + t368)) t370 true t371 t372 t377 t378)) = some r := H
    have A10 := Aside0.mk A100
    clear A100
    have HC11 := Aside0.mk H
    clear H
    go_enter Try.func10, Try.ntmps10
    go_upto_region 7 with (first | ((with_reducible refine gate_callee (f := 36) rfl ?_); refine goesL_ (some 16) rfl rfl Try.func36 (by kernel_rfl) rfl #[.int .i64 a0, .int .i64 15] rfl (by (try simp only [List.map_toArray, List.map_cons, List.map_nil]); first | done | rfl | (simp only [List.length_drop, List.length_take]; rfl)) ?_; (with_reducible refine (numnahlaw03_mod.calls a0 15 t368 _ A4.out).mono ?_); rintro e w' ⟨rfl, ⟨nd, rfl⟩⟩; refine ⟨_, rfl, ?_⟩) | ((with_reducible refine gate_callee (f := 36) rfl ?_); refine goesL_ (some 21) rfl rfl Try.func36 (by kernel_rfl) rfl #[.int .i64 a1, .int .i64 (wrap64 (Int.tdiv (1000000 : Int) (wrap64 (2 + t368))))] rfl (by (try simp only [List.map_toArray, List.map_cons, List.map_nil]); first | done | rfl | (simp only [List.length_drop, List.length_take]; rfl)) ?_; (with_reducible refine (numnahlaw03_mod.calls a1 (wrap64 (Int.tdiv (1000000 : Int) (wrap64 (2 + t368)))) t369 _ A6.out).mono ?_); rintro e w' ⟨rfl, ⟨nd, rfl⟩⟩; refine ⟨_, rfl, ?_⟩) | ((with_reducible refine gate_callee (f := 36) rfl ?_); refine goesL_ (some 24) rfl rfl Try.func36 (by kernel_rfl) rfl #[.int .i64 a2, .int .i64 (wrap64 (2 + t368))] rfl (by (try simp only [List.map_toArray, List.map_cons, List.map_nil]); first | done | rfl | (simp only [List.length_drop, List.length_take]; rfl)) ?_; (with_reducible refine (numnahlaw03_mod.calls a2 (wrap64 (2 + t368)) t370 _ A7.out).mono ?_); rintro e w' ⟨rfl, ⟨nd, rfl⟩⟩; refine ⟨_, rfl, ?_⟩) | ((with_reducible refine gate_callee (f := 37) rfl ?_); refine goesL_ (some 28) rfl rfl Try.func37 (by kernel_rfl) rfl #[.int .i64 (wrap64 (2 + t368)), .int .i64 t369] rfl (by (try simp only [List.map_toArray, List.map_cons, List.map_nil]); first | done | rfl | (simp only [List.length_drop, List.length_take]; rfl)) ?_; (with_reducible refine (spread_Mirror.calls k (wrap64 (2 + t368)) t369 t371 t372 t373 _ A8.out).mono ?_); rintro e w12 ⟨rfl, hb⟩; refine ⟨_, rfl, ?_⟩; have n0_ := Aside0.mk (below_step (by repeat (first | (with_reducible first | exact HB.out | apply below_alloc | apply pw_below_drewN | apply below_drew1) | exact HB.out)) hb); clear HB; have HB := n0_; clear n0_; (try clear hb); (try clear hb2); (try clear hk); (try clear hi)) | ((with_reducible refine gate_dst (N := 7) rfl ?_); refine box_event ?hg (N := 7) ?hd (cs := #[.int .i64 0, .int .i64 0]) (t := 26) ?hr ?_; (case hd => rfl); (case hg => rfl); (case hr => first | (go_simp; done) | (go_simp; rfl)); intro gb374 hg w13 hbox hb; have n0_ := Aside0.mk (below_step (by repeat (first | (with_reducible first | exact HB.out | apply below_alloc | apply pw_below_drewN | apply below_drew1) | exact HB.out)) hb); have n1_ := Aside0.mk (hbox); have n2_ := Aside0.mk ((by rw [hg]; exact (below_size (by repeat (first | (with_reducible first | exact HB.out | apply below_alloc | apply pw_below_drewN | apply below_drew1) | exact HB.out))) : w.heap.size ≤ gb374)); have n3_ := Aside0.mk ((by rw [hg]; exact (below_size (by repeat (first | (with_reducible first | exact HB.out | apply below_alloc | apply pw_below_drewN | apply below_drew1) | exact HB.out))) : w.heap.size ≤ gb374)); clear HB; have HB := n0_; have BK374 := n1_; have GW374 := n2_; have GE374 := n3_; clear n0_ n1_ n2_ n3_; clear hb hbox hg; have hcz14_0 : w13.cell? ⟨gb374, 0, none⟩ = some (.int .i64 0) := (blk_cell BK374.out 0).trans rfl; have hcz14_1 : w13.cell? ⟨gb374, 1, none⟩ = some (.int .i64 0) := (blk_cell BK374.out 1).trans rfl; have hfz14_0 := blk_frozen BK374.out 0; have hfz14_1 := blk_frozen BK374.out 1) | ((with_reducible refine gate_callee (f := 38) rfl ?_); refine goesL_ (some 34) rfl rfl Try.func38 (by kernel_rfl) rfl #[.int .i64 (wrap64 (2 + t368)), .agg #[.int .i64 t371, .int .i64 t372]] rfl (by (try simp only [List.map_toArray, List.map_cons, List.map_nil]); first | done | rfl | (simp only [List.length_drop, List.length_take]; rfl)) ?_; (with_reducible refine (spread_Back.calls k (wrap64 (2 + t368)) t371 t372 t375 t376 _ A9.out).mono ?_); rintro e w15 ⟨rfl, hb⟩; refine ⟨_, rfl, ?_⟩; have n0_ := Aside0.mk (blk_below (g := gb374) (o := .cells #[.int .i64 t371, .int .i64 t372] 26 (0, 0)) (by (with_reducible repeat (first | refine blk_drewN ?_ _ | refine blk_drew ?_ | refine blk_alloc ?_ _)); refine blk_put (cs := #[.int .i64 t371, .int .i64 0]) ?_ 1 _ rfl; (with_reducible repeat (first | refine blk_drewN ?_ _ | refine blk_drew ?_ | refine blk_alloc ?_ _)); refine blk_put (cs := #[.int .i64 0, .int .i64 0]) ?_ 0 _ rfl; (with_reducible repeat (first | refine blk_drewN ?_ _ | refine blk_drew ?_ | refine blk_alloc ?_ _)); exact BK374.out) hb); have n1_ := Aside0.mk (below_step (by repeat (first | (with_reducible first | exact HB.out | apply below_alloc | apply pw_below_drewN | apply below_drew1 | refine below_set ?_ GE374.out) | exact HB.out)) hb); clear BK374; clear HB; have BK374 := n0_; have HB := n1_; clear n0_ n1_; (try clear hb); (try clear hb2); (try clear hk); (try clear hi)) | ((with_reducible refine gate_callee (f := 37) rfl ?_); refine goesL_ (some 44) rfl rfl Try.func37 (by kernel_rfl) rfl #[.int .i64 (wrap64 (2 + t368)), .int .i64 (wrap64 ((wrap64 (t369 * (wrap64 (2 + t368)))) + t370))] rfl (by (try simp only [List.map_toArray, List.map_cons, List.map_nil]); first | done | rfl | (simp only [List.length_drop, List.length_take]; rfl)) ?_; (with_reducible refine (spread_Mirror.calls k (wrap64 (2 + t368)) (wrap64 ((wrap64 (t369 * (wrap64 (2 + t368)))) + t370)) t377 t378 t379 _ A10.out).mono ?_); rintro e w16 ⟨rfl, hb⟩; refine ⟨_, rfl, ?_⟩; have n0_ := Aside0.mk (blk_below (g := gb374) (o := .cells #[.int .i64 t371, .int .i64 t372] 26 (0, 0)) (by (with_reducible repeat (first | refine blk_drewN ?_ _ | refine blk_drew ?_ | refine blk_alloc ?_ _)); exact BK374.out) hb); have n1_ := Aside0.mk (below_step (by repeat (first | (with_reducible first | exact HB.out | apply below_alloc | apply pw_below_drewN | apply below_drew1 | refine below_set ?_ GE374.out) | exact HB.out)) hb); clear BK374; clear HB; have BK374 := n0_; have HB := n1_; clear n0_ n1_; (try clear hb); (try clear hb2); (try clear hk); (try clear hi)) | ((with_reducible refine gate_dst (N := 11) rfl ?_); refine box_event ?hg (N := 11) ?hd (cs := #[.int .i64 0, .int .i64 0]) (t := 26) ?hr ?_; (case hd => rfl); (case hg => rfl); (case hr => first | (go_simp; done) | (go_simp; rfl)); intro gb380 hg w17 hbox hb; have n0_ := Aside0.mk (blk_below (g := gb374) (o := .cells #[.int .i64 t371, .int .i64 t372] 26 (0, 0)) (by (with_reducible repeat (first | refine blk_drewN ?_ _ | refine blk_drew ?_ | refine blk_alloc ?_ _)); exact BK374.out) hb); have n1_ := Aside0.mk (below_step (by repeat (first | (with_reducible first | exact HB.out | apply below_alloc | apply pw_below_drewN | apply below_drew1 | refine below_set ?_ GE374.out) | exact HB.out)) hb); have n2_ := Aside0.mk (hbox); have n3_ := Aside0.mk ((by rw [hg]; exact (below_size (by repeat (first | (with_reducible first | exact HB.out | apply below_alloc | apply pw_below_drewN | apply below_drew1 | refine below_set ?_ GE374.out) | exact HB.out))) : w.heap.size ≤ gb380)); have n4_ := Aside0.mk ((by rw [hg]; exact (below_size (by repeat (first | (with_reducible first | exact HB.out | apply below_alloc | apply pw_below_drewN | apply below_drew1 | refine below_set ?_ GE374.out) | exact HB.out))) : w.heap.size ≤ gb380)); have n5_ := Aside0.mk ((by rw [hg]; exact Nat.ne_of_lt (blk_lt (g := gb374) (o := .cells #[.int .i64 t371, .int .i64 t372] 26 (0, 0)) (by (with_reducible repeat (first | refine blk_drewN ?_ _ | refine blk_drew ?_ | refine blk_alloc ?_ _)); exact BK374.out)) : gb374 ≠ gb380)); have n6_ := Aside0.mk ((by rw [hg]; exact Nat.ne_of_gt (blk_lt (g := gb374) (o := .cells #[.int .i64 t371, .int .i64 t372] 26 (0, 0)) (by (with_reducible repeat (first | refine blk_drewN ?_ _ | refine blk_drew ?_ | refine blk_alloc ?_ _)); exact BK374.out)) : gb380 ≠ gb374)); clear BK374; clear HB; have BK374 := n0_; have HB := n1_; have BK380 := n2_; have GW380 := n3_; have GE380 := n4_; have NB374_380 := n5_; have NB380_374 := n6_; clear n0_ n1_ n2_ n3_ n4_ n5_ n6_; clear hb hbox hg; have hnb18 := NB380_374.out; have hnc18 := NB374_380.out; have hcz19_0 : w17.cell? ⟨gb380, 0, none⟩ = some (.int .i64 0) := (blk_cell BK380.out 0).trans rfl; have hcz19_1 : w17.cell? ⟨gb380, 1, none⟩ = some (.int .i64 0) := (blk_cell BK380.out 1).trans rfl; have hfz19_0 := blk_frozen BK380.out 0; have hfz19_1 := blk_frozen BK380.out 1))
    (try simp only [Act.put, List.setIfInBounds_toArray, List.set_cons_zero, List.set_cons_succ])
    go_cut [83] (fun v83 wc => ∃ (kq : Nat) (x83_10 : Bool), v83 = .bool x83_10 ∧ Aside0 (numnahlaw03_SpreadThere.j0 kq (wrap64 (2 + t368)) t370 x83_10 t371 t372 t377 t378 = some r) ∧ Aside0 (kq ≤ k) ∧ Aside0 (wc.heap[gb374]? = some (.cells #[.int .i64 t371, .int .i64 t372] 26 (0, 0))) ∧ Aside0 (wc.heap[gb380]? = some (.cells #[.int .i64 t377, .int .i64 t378] 26 (0, 0))) ∧ Aside0 (Below w.heap.size w wc))
    case first =>
      have H := HC11.out
      clear HC11
      by_cases c20 : t373 = 0
      · rw [if_pos c20] at H
        have c20b0 : (t373 == 0) = true := beq_iff_eq.mpr c20
        have c20b1 : (t373 != 0) = false := bne_eq_false_iff_eq.mpr c20
        clear c20
        (first | rw [c20b0] | (simp only [i64_w, i32_w]; rw [c20b0]) | skip)
        by_cases c21 : t376 = 0
        · rw [if_pos c21] at H
          have c21b0 : (t376 == 0) = true := beq_iff_eq.mpr c21
          have c21b1 : (t376 != 0) = false := bne_eq_false_iff_eq.mpr c21
          clear c21
          by_cases c22 : t379 = 0
          · rw [if_pos c22] at H
            have c22b0 : (t379 == 0) = true := beq_iff_eq.mpr c22
            have c22b1 : (t379 != 0) = false := bne_eq_false_iff_eq.mpr c22
            clear c22
            by_cases c23 : t375 = t369
            · rw [if_pos c23] at H
              have c23b0 : (t375 == t369) = true := beq_iff_eq.mpr c23
              have c23b1 : (t375 != t369) = false := bne_eq_false_iff_eq.mpr c23
              clear c23
              replace H := Option.bind_eq_some_iff.mp H
              obtain ⟨t381, A240, H⟩ := H
              replace H : (if t381 = true then (if t371 < 0 then (numnahlaw03_SpreadThere.j0 k (wrap64 (2 + t368)) t370 true t371 t372 t377 t378) else (if t371 ≥ t372 then (numnahlaw03_SpreadThere.j0 k (wrap64 (2 + t368)) t370 true t371 t372 t377 t378) else (numnahlaw03_SpreadThere.j0 k (wrap64 (2 + t368)) t370 (decide (t372 > 16000000)) t371 t372 t377 t378))) else (numnahlaw03_SpreadThere.j0 k (wrap64 (2 + t368)) t370 true t371 t372 t377 t378)) = some r := H
              have A24 := Aside0.mk A240
              clear A240
              by_cases c25 : t381 = true
              · subst c25
                have H1 : (if t371 < 0 then (numnahlaw03_SpreadThere.j0 k (wrap64 (2 + t368)) t370 true t371 t372 t377 t378) else (if t371 ≥ t372 then (numnahlaw03_SpreadThere.j0 k (wrap64 (2 + t368)) t370 true t371 t372 t377 t378) else (numnahlaw03_SpreadThere.j0 k (wrap64 (2 + t368)) t370 (decide (t372 > 16000000)) t371 t372 t377 t378))) = some r := by rw [if_pos rfl] at H; exact H
                clear H
                have H := H1
                clear H1
                by_cases c26 : t371 < 0
                · rw [if_pos c26] at H
                  have c26b0 : decide (t371 < 0) = true := decide_eq_true c26
                  clear c26
                  have H' := Aside0.mk H
                  clear H
                  have hnb27 := NB374_380.out
                  have hnc27 := NB380_374.out
                  have hcz28_0 : w17.cell? ⟨gb374, 0, none⟩ = some (.int .i64 t371) := (blk_cell BK374.out 0).trans rfl
                  have hcz28_1 : w17.cell? ⟨gb374, 1, none⟩ = some (.int .i64 t372) := (blk_cell BK374.out 1).trans rfl
                  have hfz28_0 := blk_frozen BK374.out 0
                  have hfz28_1 := blk_frozen BK374.out 1
                  go_wp2_with (first | (go_at_call 41; (with_reducible refine (numnahref03_Valid.calls k t371 t372 true _ A24.out).mono ?_); rintro e w29 ⟨rfl, hb⟩; have n0_ := Aside0.mk (blk_below (g := gb374) (o := .cells #[.int .i64 t371, .int .i64 t372] 26 (0, 0)) (by (with_reducible repeat (first | refine blk_drewN ?_ _ | refine blk_drew ?_ | refine blk_alloc ?_ _)); refine blk_far ?_ NB374_380.out _; (with_reducible repeat (first | refine blk_drewN ?_ _ | refine blk_drew ?_ | refine blk_alloc ?_ _)); refine blk_far ?_ NB374_380.out _; (with_reducible repeat (first | refine blk_drewN ?_ _ | refine blk_drew ?_ | refine blk_alloc ?_ _)); exact BK374.out) hb); have n1_ := Aside0.mk (blk_below (g := gb380) (o := .cells #[.int .i64 t377, .int .i64 t378] 26 (0, 0)) (by (with_reducible repeat (first | refine blk_drewN ?_ _ | refine blk_drew ?_ | refine blk_alloc ?_ _)); refine blk_put (cs := #[.int .i64 t377, .int .i64 0]) ?_ 1 _ rfl; (with_reducible repeat (first | refine blk_drewN ?_ _ | refine blk_drew ?_ | refine blk_alloc ?_ _)); refine blk_put (cs := #[.int .i64 0, .int .i64 0]) ?_ 0 _ rfl; (with_reducible repeat (first | refine blk_drewN ?_ _ | refine blk_drew ?_ | refine blk_alloc ?_ _)); exact BK380.out) hb); have n2_ := Aside0.mk (below_step (by repeat (first | (with_reducible first | exact HB.out | apply below_alloc | apply pw_below_drewN | apply below_drew1 | refine below_set ?_ GE374.out | refine below_set ?_ GE380.out) | exact HB.out)) hb); clear BK374; clear BK380; clear HB; have BK374 := n0_; have BK380 := n1_; have HB := n2_; clear n0_ n1_ n2_; (try clear hb); (try clear hb2); (try clear hk); (try clear hi); have hcz30_0 : w29.cell? ⟨gb374, 0, none⟩ = some (.int .i64 t371) := (blk_cell BK374.out 0).trans rfl; have hcz30_1 : w29.cell? ⟨gb374, 1, none⟩ = some (.int .i64 t372) := (blk_cell BK374.out 1).trans rfl; have hfz30_0 := blk_frozen BK374.out 0; have hfz30_1 := blk_frozen BK374.out 1))
                  go_meet
                  case rel => exact ⟨_, (true), (by first | rfl | (simp; done) | (simp [*]; done)), H', ⟨by first | omega | exact Nat.le_refl _⟩, ⟨by (with_reducible repeat (first | refine blk_drewN ?_ _ | refine blk_drew ?_ | refine blk_alloc ?_ _)); exact BK374.out⟩, ⟨by (with_reducible repeat (first | refine blk_drewN ?_ _ | refine blk_drew ?_ | refine blk_alloc ?_ _)); exact BK380.out⟩, ⟨by repeat (first | (with_reducible first | exact HB.out | apply below_alloc | apply pw_below_drewN | apply below_drew1 | refine below_set ?_ GE374.out | refine below_set ?_ GE380.out) | exact HB.out)⟩⟩
                · rw [if_neg c26] at H
                  have c26b0 : decide (t371 < 0) = false := decide_eq_false c26
                  clear c26
                  by_cases c31 : t371 ≥ t372
                  · rw [if_pos c31] at H
                    have c31b0 : decide (t372 ≤ t371) = true := decide_eq_true c31
                    clear c31
                    have H' := Aside0.mk H
                    clear H
                    have hnb32 := NB374_380.out
                    have hnc32 := NB380_374.out
                    have hcz33_0 : w17.cell? ⟨gb374, 0, none⟩ = some (.int .i64 t371) := (blk_cell BK374.out 0).trans rfl
                    have hcz33_1 : w17.cell? ⟨gb374, 1, none⟩ = some (.int .i64 t372) := (blk_cell BK374.out 1).trans rfl
                    have hfz33_0 := blk_frozen BK374.out 0
                    have hfz33_1 := blk_frozen BK374.out 1
                    go_wp2_with (first | (go_at_call 41; (with_reducible refine (numnahref03_Valid.calls k t371 t372 true _ A24.out).mono ?_); rintro e w34 ⟨rfl, hb⟩; have n0_ := Aside0.mk (blk_below (g := gb374) (o := .cells #[.int .i64 t371, .int .i64 t372] 26 (0, 0)) (by (with_reducible repeat (first | refine blk_drewN ?_ _ | refine blk_drew ?_ | refine blk_alloc ?_ _)); refine blk_far ?_ NB374_380.out _; (with_reducible repeat (first | refine blk_drewN ?_ _ | refine blk_drew ?_ | refine blk_alloc ?_ _)); refine blk_far ?_ NB374_380.out _; (with_reducible repeat (first | refine blk_drewN ?_ _ | refine blk_drew ?_ | refine blk_alloc ?_ _)); exact BK374.out) hb); have n1_ := Aside0.mk (blk_below (g := gb380) (o := .cells #[.int .i64 t377, .int .i64 t378] 26 (0, 0)) (by (with_reducible repeat (first | refine blk_drewN ?_ _ | refine blk_drew ?_ | refine blk_alloc ?_ _)); refine blk_put (cs := #[.int .i64 t377, .int .i64 0]) ?_ 1 _ rfl; (with_reducible repeat (first | refine blk_drewN ?_ _ | refine blk_drew ?_ | refine blk_alloc ?_ _)); refine blk_put (cs := #[.int .i64 0, .int .i64 0]) ?_ 0 _ rfl; (with_reducible repeat (first | refine blk_drewN ?_ _ | refine blk_drew ?_ | refine blk_alloc ?_ _)); exact BK380.out) hb); have n2_ := Aside0.mk (below_step (by repeat (first | (with_reducible first | exact HB.out | apply below_alloc | apply pw_below_drewN | apply below_drew1 | refine below_set ?_ GE374.out | refine below_set ?_ GE380.out) | exact HB.out)) hb); clear BK374; clear BK380; clear HB; have BK374 := n0_; have BK380 := n1_; have HB := n2_; clear n0_ n1_ n2_; (try clear hb); (try clear hb2); (try clear hk); (try clear hi); have hcz35_0 : w34.cell? ⟨gb374, 0, none⟩ = some (.int .i64 t371) := (blk_cell BK374.out 0).trans rfl; have hcz35_1 : w34.cell? ⟨gb374, 1, none⟩ = some (.int .i64 t372) := (blk_cell BK374.out 1).trans rfl; have hfz35_0 := blk_frozen BK374.out 0; have hfz35_1 := blk_frozen BK374.out 1))
                    go_meet
                    case rel => exact ⟨_, (true), (by first | rfl | (simp; done) | (simp [*]; done)), H', ⟨by first | omega | exact Nat.le_refl _⟩, ⟨by (with_reducible repeat (first | refine blk_drewN ?_ _ | refine blk_drew ?_ | refine blk_alloc ?_ _)); exact BK374.out⟩, ⟨by (with_reducible repeat (first | refine blk_drewN ?_ _ | refine blk_drew ?_ | refine blk_alloc ?_ _)); exact BK380.out⟩, ⟨by repeat (first | (with_reducible first | exact HB.out | apply below_alloc | apply pw_below_drewN | apply below_drew1 | refine below_set ?_ GE374.out | refine below_set ?_ GE380.out) | exact HB.out)⟩⟩
                  · rw [if_neg c31] at H
                    have c31b0 : decide (t372 ≤ t371) = false := decide_eq_false c31
                    clear c31
                    have H' := Aside0.mk H
                    clear H
                    have hnb36 := NB374_380.out
                    have hnc36 := NB380_374.out
                    have hcz37_0 : w17.cell? ⟨gb374, 0, none⟩ = some (.int .i64 t371) := (blk_cell BK374.out 0).trans rfl
                    have hcz37_1 : w17.cell? ⟨gb374, 1, none⟩ = some (.int .i64 t372) := (blk_cell BK374.out 1).trans rfl
                    have hfz37_0 := blk_frozen BK374.out 0
                    have hfz37_1 := blk_frozen BK374.out 1
                    go_wp2_with (first | (go_at_call 41; (with_reducible refine (numnahref03_Valid.calls k t371 t372 true _ A24.out).mono ?_); rintro e w38 ⟨rfl, hb⟩; have n0_ := Aside0.mk (blk_below (g := gb374) (o := .cells #[.int .i64 t371, .int .i64 t372] 26 (0, 0)) (by (with_reducible repeat (first | refine blk_drewN ?_ _ | refine blk_drew ?_ | refine blk_alloc ?_ _)); refine blk_far ?_ NB374_380.out _; (with_reducible repeat (first | refine blk_drewN ?_ _ | refine blk_drew ?_ | refine blk_alloc ?_ _)); refine blk_far ?_ NB374_380.out _; (with_reducible repeat (first | refine blk_drewN ?_ _ | refine blk_drew ?_ | refine blk_alloc ?_ _)); exact BK374.out) hb); have n1_ := Aside0.mk (blk_below (g := gb380) (o := .cells #[.int .i64 t377, .int .i64 t378] 26 (0, 0)) (by (with_reducible repeat (first | refine blk_drewN ?_ _ | refine blk_drew ?_ | refine blk_alloc ?_ _)); refine blk_put (cs := #[.int .i64 t377, .int .i64 0]) ?_ 1 _ rfl; (with_reducible repeat (first | refine blk_drewN ?_ _ | refine blk_drew ?_ | refine blk_alloc ?_ _)); refine blk_put (cs := #[.int .i64 0, .int .i64 0]) ?_ 0 _ rfl; (with_reducible repeat (first | refine blk_drewN ?_ _ | refine blk_drew ?_ | refine blk_alloc ?_ _)); exact BK380.out) hb); have n2_ := Aside0.mk (below_step (by repeat (first | (with_reducible first | exact HB.out | apply below_alloc | apply pw_below_drewN | apply below_drew1 | refine below_set ?_ GE374.out | refine below_set ?_ GE380.out) | exact HB.out)) hb); clear BK374; clear BK380; clear HB; have BK374 := n0_; have BK380 := n1_; have HB := n2_; clear n0_ n1_ n2_; (try clear hb); (try clear hb2); (try clear hk); (try clear hi); have hcz39_0 : w38.cell? ⟨gb374, 0, none⟩ = some (.int .i64 t371) := (blk_cell BK374.out 0).trans rfl; have hcz39_1 : w38.cell? ⟨gb374, 1, none⟩ = some (.int .i64 t372) := (blk_cell BK374.out 1).trans rfl; have hfz39_0 := blk_frozen BK374.out 0; have hfz39_1 := blk_frozen BK374.out 1))
                    go_meet
                    case rel => exact ⟨_, (decide (t372 > 16000000)), (by first | rfl | (simp; done) | (simp [*]; done)), H', ⟨by first | omega | exact Nat.le_refl _⟩, ⟨by (with_reducible repeat (first | refine blk_drewN ?_ _ | refine blk_drew ?_ | refine blk_alloc ?_ _)); exact BK374.out⟩, ⟨by (with_reducible repeat (first | refine blk_drewN ?_ _ | refine blk_drew ?_ | refine blk_alloc ?_ _)); exact BK380.out⟩, ⟨by repeat (first | (with_reducible first | exact HB.out | apply below_alloc | apply pw_below_drewN | apply below_drew1 | refine below_set ?_ GE374.out | refine below_set ?_ GE380.out) | exact HB.out)⟩⟩
              · replace c25 := Bool.eq_false_iff.mpr c25
                subst c25
                have H1 : (numnahlaw03_SpreadThere.j0 k (wrap64 (2 + t368)) t370 true t371 t372 t377 t378) = some r := by rw [if_neg (show ¬ (false = true) by decide)] at H; exact H
                clear H
                have H := H1
                clear H1
                have H' := Aside0.mk H
                clear H
                have hnb40 := NB374_380.out
                have hnc40 := NB380_374.out
                have hcz41_0 : w17.cell? ⟨gb374, 0, none⟩ = some (.int .i64 t371) := (blk_cell BK374.out 0).trans rfl
                have hcz41_1 : w17.cell? ⟨gb374, 1, none⟩ = some (.int .i64 t372) := (blk_cell BK374.out 1).trans rfl
                have hfz41_0 := blk_frozen BK374.out 0
                have hfz41_1 := blk_frozen BK374.out 1
                go_wp2_with (first | (go_at_call 41; (with_reducible refine (numnahref03_Valid.calls k t371 t372 false _ A24.out).mono ?_); rintro e w42 ⟨rfl, hb⟩; have n0_ := Aside0.mk (blk_below (g := gb374) (o := .cells #[.int .i64 t371, .int .i64 t372] 26 (0, 0)) (by (with_reducible repeat (first | refine blk_drewN ?_ _ | refine blk_drew ?_ | refine blk_alloc ?_ _)); refine blk_far ?_ NB374_380.out _; (with_reducible repeat (first | refine blk_drewN ?_ _ | refine blk_drew ?_ | refine blk_alloc ?_ _)); refine blk_far ?_ NB374_380.out _; (with_reducible repeat (first | refine blk_drewN ?_ _ | refine blk_drew ?_ | refine blk_alloc ?_ _)); exact BK374.out) hb); have n1_ := Aside0.mk (blk_below (g := gb380) (o := .cells #[.int .i64 t377, .int .i64 t378] 26 (0, 0)) (by (with_reducible repeat (first | refine blk_drewN ?_ _ | refine blk_drew ?_ | refine blk_alloc ?_ _)); refine blk_put (cs := #[.int .i64 t377, .int .i64 0]) ?_ 1 _ rfl; (with_reducible repeat (first | refine blk_drewN ?_ _ | refine blk_drew ?_ | refine blk_alloc ?_ _)); refine blk_put (cs := #[.int .i64 0, .int .i64 0]) ?_ 0 _ rfl; (with_reducible repeat (first | refine blk_drewN ?_ _ | refine blk_drew ?_ | refine blk_alloc ?_ _)); exact BK380.out) hb); have n2_ := Aside0.mk (below_step (by repeat (first | (with_reducible first | exact HB.out | apply below_alloc | apply pw_below_drewN | apply below_drew1 | refine below_set ?_ GE374.out | refine below_set ?_ GE380.out) | exact HB.out)) hb); clear BK374; clear BK380; clear HB; have BK374 := n0_; have BK380 := n1_; have HB := n2_; clear n0_ n1_ n2_; (try clear hb); (try clear hb2); (try clear hk); (try clear hi)))
                go_meet
                case rel => exact ⟨_, (true), (by first | rfl | (simp; done) | (simp [*]; done)), H', ⟨by first | omega | exact Nat.le_refl _⟩, ⟨by (with_reducible repeat (first | refine blk_drewN ?_ _ | refine blk_drew ?_ | refine blk_alloc ?_ _)); exact BK374.out⟩, ⟨by (with_reducible repeat (first | refine blk_drewN ?_ _ | refine blk_drew ?_ | refine blk_alloc ?_ _)); exact BK380.out⟩, ⟨by repeat (first | (with_reducible first | exact HB.out | apply below_alloc | apply pw_below_drewN | apply below_drew1 | refine below_set ?_ GE374.out | refine below_set ?_ GE380.out) | exact HB.out)⟩⟩
            · rw [if_neg c23] at H
              have c23b0 : (t375 == t369) = false := beq_eq_false_iff_ne.mpr c23
              have c23b1 : (t375 != t369) = true := bne_iff_ne.mpr c23
              have H' := Aside0.mk H
              clear H
              go_wp2
              go_meet
              case rel => exact ⟨_, (true), (by first | rfl | (simp; done) | (simp [*]; done)), H', ⟨by first | omega | exact Nat.le_refl _⟩, ⟨by (with_reducible repeat (first | refine blk_drewN ?_ _ | refine blk_drew ?_ | refine blk_alloc ?_ _)); refine blk_far ?_ NB374_380.out _; (with_reducible repeat (first | refine blk_drewN ?_ _ | refine blk_drew ?_ | refine blk_alloc ?_ _)); refine blk_far ?_ NB374_380.out _; (with_reducible repeat (first | refine blk_drewN ?_ _ | refine blk_drew ?_ | refine blk_alloc ?_ _)); exact BK374.out⟩, ⟨by (with_reducible repeat (first | refine blk_drewN ?_ _ | refine blk_drew ?_ | refine blk_alloc ?_ _)); refine blk_put (cs := #[.int .i64 t377, .int .i64 0]) ?_ 1 _ rfl; (with_reducible repeat (first | refine blk_drewN ?_ _ | refine blk_drew ?_ | refine blk_alloc ?_ _)); refine blk_put (cs := #[.int .i64 0, .int .i64 0]) ?_ 0 _ rfl; (with_reducible repeat (first | refine blk_drewN ?_ _ | refine blk_drew ?_ | refine blk_alloc ?_ _)); exact BK380.out⟩, ⟨by repeat (first | (with_reducible first | exact HB.out | apply below_alloc | apply pw_below_drewN | apply below_drew1 | refine below_set ?_ GE374.out | refine below_set ?_ GE380.out) | exact HB.out)⟩⟩
          · rw [if_neg c22] at H
            have c22b0 : (t379 == 0) = false := beq_eq_false_iff_ne.mpr c22
            have c22b1 : (t379 != 0) = true := bne_iff_ne.mpr c22
            have H' := Aside0.mk H
            clear H
            go_wp2
            go_meet
            case rel => exact ⟨_, (true), (by first | rfl | (simp; done) | (simp [*]; done)), H', ⟨by first | omega | exact Nat.le_refl _⟩, ⟨by (with_reducible repeat (first | refine blk_drewN ?_ _ | refine blk_drew ?_ | refine blk_alloc ?_ _)); refine blk_far ?_ NB374_380.out _; (with_reducible repeat (first | refine blk_drewN ?_ _ | refine blk_drew ?_ | refine blk_alloc ?_ _)); refine blk_far ?_ NB374_380.out _; (with_reducible repeat (first | refine blk_drewN ?_ _ | refine blk_drew ?_ | refine blk_alloc ?_ _)); exact BK374.out⟩, ⟨by (with_reducible repeat (first | refine blk_drewN ?_ _ | refine blk_drew ?_ | refine blk_alloc ?_ _)); refine blk_put (cs := #[.int .i64 t377, .int .i64 0]) ?_ 1 _ rfl; (with_reducible repeat (first | refine blk_drewN ?_ _ | refine blk_drew ?_ | refine blk_alloc ?_ _)); refine blk_put (cs := #[.int .i64 0, .int .i64 0]) ?_ 0 _ rfl; (with_reducible repeat (first | refine blk_drewN ?_ _ | refine blk_drew ?_ | refine blk_alloc ?_ _)); exact BK380.out⟩, ⟨by repeat (first | (with_reducible first | exact HB.out | apply below_alloc | apply pw_below_drewN | apply below_drew1 | refine below_set ?_ GE374.out | refine below_set ?_ GE380.out) | exact HB.out)⟩⟩
        · rw [if_neg c21] at H
          have c21b0 : (t376 == 0) = false := beq_eq_false_iff_ne.mpr c21
          have c21b1 : (t376 != 0) = true := bne_iff_ne.mpr c21
          have H' := Aside0.mk H
          clear H
          go_wp2
          go_meet
          case rel => exact ⟨_, (true), (by first | rfl | (simp; done) | (simp [*]; done)), H', ⟨by first | omega | exact Nat.le_refl _⟩, ⟨by (with_reducible repeat (first | refine blk_drewN ?_ _ | refine blk_drew ?_ | refine blk_alloc ?_ _)); refine blk_far ?_ NB374_380.out _; (with_reducible repeat (first | refine blk_drewN ?_ _ | refine blk_drew ?_ | refine blk_alloc ?_ _)); refine blk_far ?_ NB374_380.out _; (with_reducible repeat (first | refine blk_drewN ?_ _ | refine blk_drew ?_ | refine blk_alloc ?_ _)); exact BK374.out⟩, ⟨by (with_reducible repeat (first | refine blk_drewN ?_ _ | refine blk_drew ?_ | refine blk_alloc ?_ _)); refine blk_put (cs := #[.int .i64 t377, .int .i64 0]) ?_ 1 _ rfl; (with_reducible repeat (first | refine blk_drewN ?_ _ | refine blk_drew ?_ | refine blk_alloc ?_ _)); refine blk_put (cs := #[.int .i64 0, .int .i64 0]) ?_ 0 _ rfl; (with_reducible repeat (first | refine blk_drewN ?_ _ | refine blk_drew ?_ | refine blk_alloc ?_ _)); exact BK380.out⟩, ⟨by repeat (first | (with_reducible first | exact HB.out | apply below_alloc | apply pw_below_drewN | apply below_drew1 | refine below_set ?_ GE374.out | refine below_set ?_ GE380.out) | exact HB.out)⟩⟩
      · rw [if_neg c20] at H
        have c20b0 : (t373 == 0) = false := beq_eq_false_iff_ne.mpr c20
        have c20b1 : (t373 != 0) = true := bne_iff_ne.mpr c20
        (first | rw [c20b0] | (simp only [i64_w, i32_w]; rw [c20b0]) | skip)
        have H' := Aside0.mk H
        clear H
        go_wp2
        go_meet
        case rel => exact ⟨_, (true), (by first | rfl | (simp; done) | (simp [*]; done)), H', ⟨by first | omega | exact Nat.le_refl _⟩, ⟨by (with_reducible repeat (first | refine blk_drewN ?_ _ | refine blk_drew ?_ | refine blk_alloc ?_ _)); refine blk_far ?_ NB374_380.out _; (with_reducible repeat (first | refine blk_drewN ?_ _ | refine blk_drew ?_ | refine blk_alloc ?_ _)); refine blk_far ?_ NB374_380.out _; (with_reducible repeat (first | refine blk_drewN ?_ _ | refine blk_drew ?_ | refine blk_alloc ?_ _)); exact BK374.out⟩, ⟨by (with_reducible repeat (first | refine blk_drewN ?_ _ | refine blk_drew ?_ | refine blk_alloc ?_ _)); refine blk_put (cs := #[.int .i64 t377, .int .i64 0]) ?_ 1 _ rfl; (with_reducible repeat (first | refine blk_drewN ?_ _ | refine blk_drew ?_ | refine blk_alloc ?_ _)); refine blk_put (cs := #[.int .i64 0, .int .i64 0]) ?_ 0 _ rfl; (with_reducible repeat (first | refine blk_drewN ?_ _ | refine blk_drew ?_ | refine blk_alloc ?_ _)); exact BK380.out⟩, ⟨by repeat (first | (with_reducible first | exact HB.out | apply below_alloc | apply pw_below_drewN | apply below_drew1 | refine below_set ?_ GE374.out | refine below_set ?_ GE380.out) | exact HB.out)⟩⟩
    case rest =>
      clear HC11
      try clear c1
      try clear c2
      try clear p2
      try clear c3
      try clear c4
      try clear c5
      try clear c5b0
      try clear c5b1
      try clear p6
      try clear c10
      try clear c18
      try clear c20
      try clear c20b0
      try clear c20b1
      try clear c21
      try clear c21b0
      try clear c21b1
      try clear c22
      try clear c22b0
      try clear c22b1
      try clear c23
      try clear c23b0
      try clear c23b1
      try clear c25
      try clear c26
      try clear c26b0
      try clear c27
      try clear c31
      try clear c31b0
      try clear c32
      try clear c36
      try clear c37
      try clear c38
      try clear c40
      try clear hcz14_0
      try clear hcz14_1
      try clear hcz19_0
      try clear hcz19_1
      try clear hcz28_0
      try clear hcz28_1
      try clear hcz30_0
      try clear hcz30_1
      try clear hcz33_0
      try clear hcz33_1
      try clear hcz35_0
      try clear hcz35_1
      try clear hcz37_0
      try clear hcz37_1
      try clear hcz39_0
      try clear hcz39_1
      try clear hcz41_0
      try clear hcz41_1
      try clear hfz14_0
      try clear hfz14_1
      try clear hfz19_0
      try clear hfz19_1
      try clear hfz28_0
      try clear hfz28_1
      try clear hfz30_0
      try clear hfz30_1
      try clear hfz33_0
      try clear hfz33_1
      try clear hfz35_0
      try clear hfz35_1
      try clear hfz37_0
      try clear hfz37_1
      try clear hfz39_0
      try clear hfz39_1
      try clear hfz41_0
      try clear hfz41_1
      obtain ⟨kq, x83_10, rfl, HA, HJ10, BK374, BK380, HB⟩ := hcut
      cases kq with
      | zero => exact absurd HA.out (by simp [numnahlaw03_SpreadThere.j0])
      | succ kj10 =>
        have H := HA.out
        clear HA
        simp only [numnahlaw03_SpreadThere.j0] at H
        by_cases c43 : x83_10 = true
        · subst c43
          have H1 : (some false) = some r := by rw [if_pos rfl] at H; exact H
          clear H
          have H := H1
          clear H1
          obtain rfl := Option.some.inj H
          go_wp2
          go_ret
          exact ⟨by first | rfl | (simp [errW_none, errW_some] <;> rfl) | (simp [*, errW_none, errW_some] <;> rfl), by repeat (first | (with_reducible first | exact HB.out | apply below_alloc | apply pw_below_drewN | apply below_drew1 | refine below_set ?_ GE374.out | refine below_set ?_ GE380.out) | exact HB.out)⟩
        · replace c43 := Bool.eq_false_iff.mpr c43
          subst c43
          have H1 : ((numnahref03_Reduced.f kj10 t371 (wrap64 (t372 * (wrap64 (2 + t368))))).bind fun bt382 => ((numnahref03_Reduced.f kj10 t370 (wrap64 (2 + t368))).bind fun bt384 => ((spread_Add.f bt382.1 bt382.2 bt384.1 bt384.2).bind fun bt386 => (if bt386.2.2 = 0 then (if (bt386.1 == t377 && (bt386.2.1 == t378)) = true then ((numnahlaw03_awake.f kj10).bind fun t390 => (some t390)) else (some false)) else (some false))))) = some r := by rw [if_neg (show ¬ (false = true) by decide)] at H; exact H
          clear H
          have H := H1
          clear H1
          replace H := Option.bind_eq_some_iff.mp H
          obtain ⟨⟨t382, t383⟩, A440, H⟩ := H
          replace H : ((numnahref03_Reduced.f kj10 t370 (wrap64 (2 + t368))).bind fun bt384 => ((spread_Add.f t382 t383 bt384.1 bt384.2).bind fun bt386 => (if bt386.2.2 = 0 then (if (bt386.1 == t377 && (bt386.2.1 == t378)) = true then ((numnahlaw03_awake.f kj10).bind fun t390 => (some t390)) else (some false)) else (some false)))) = some r := H
          have A44 := Aside0.mk A440
          clear A440
          replace H := Option.bind_eq_some_iff.mp H
          obtain ⟨⟨t384, t385⟩, A450, H⟩ := H
          replace H : ((spread_Add.f t382 t383 t384 t385).bind fun bt386 => (if bt386.2.2 = 0 then (if (bt386.1 == t377 && (bt386.2.1 == t378)) = true then ((numnahlaw03_awake.f kj10).bind fun t390 => (some t390)) else (some false)) else (some false))) = some r := H
          have A45 := Aside0.mk A450
          clear A450
          replace H := Option.bind_eq_some_iff.mp H
          obtain ⟨⟨t386, t387, t388⟩, A460, H⟩ := H
          replace H : (if t388 = 0 then (if (t386 == t377 && (t387 == t378)) = true then ((numnahlaw03_awake.f kj10).bind fun t390 => (some t390)) else (some false)) else (some false)) = some r := H
          have A46 := Aside0.mk A460
          clear A460
          by_cases c47 : t388 = 0
          · rw [if_pos c47] at H
            have c47b0 : (t388 == 0) = true := beq_iff_eq.mpr c47
            have c47b1 : (t388 != 0) = false := bne_eq_false_iff_eq.mpr c47
            clear c47
            by_cases c48 : (t386 == t377 && (t387 == t378)) = true
            · rw [if_pos c48] at H
              have c48b0 : (t386 == t377 && (t387 == t378)) = true := c48
              (try (have c48b1 : decide (t386 = t377 && (t387 == t378)) = true := by simpa using c48))
              (try (have c48b2 : (t386 == t377 && (t387 == t378)) = true := by simpa using c48))
              clear c48
              replace H := Option.bind_eq_some_iff.mp H
              obtain ⟨t390, A490, H⟩ := H
              replace H : (some t390) = some r := H
              have A49 := Aside0.mk A490
              clear A490
              obtain rfl := Option.some.inj H
              have hnb50 := NB374_380.out
              have hnc50 := NB380_374.out
              have hcz51_0 : wc.cell? ⟨gb374, 0, none⟩ = some (.int .i64 t371) := (blk_cell BK374.out 0).trans rfl
              have hcz51_1 : wc.cell? ⟨gb374, 1, none⟩ = some (.int .i64 t372) := (blk_cell BK374.out 1).trans rfl
              have hfz51_0 := blk_frozen BK374.out 0
              have hfz51_1 := blk_frozen BK374.out 1
              go_wp2_with (first | ((with_reducible refine gate_callee (f := 28) rfl ?_); refine goesL_ (some 91) rfl rfl Try.func28 (by kernel_rfl) rfl #[.int .i64 t371, .int .i64 (wrap64 (t372 * (wrap64 (2 + t368))))] rfl (by (try simp only [List.map_toArray, List.map_cons, List.map_nil]); first | done | rfl | (simp only [List.length_drop, List.length_take]; rfl)) ?_; (with_reducible refine (numnahref03_Reduced.calls kj10 t371 (wrap64 (t372 * (wrap64 (2 + t368)))) t382 t383 _ A44.out).mono ?_); rintro e w52 ⟨rfl, hb⟩; refine ⟨_, rfl, ?_⟩; have n0_ := Aside0.mk (blk_below (g := gb374) (o := .cells #[.int .i64 t371, .int .i64 t372] 26 (0, 0)) (by (with_reducible repeat (first | refine blk_drewN ?_ _ | refine blk_drew ?_ | refine blk_alloc ?_ _)); exact BK374.out) hb); have n1_ := Aside0.mk (blk_below (g := gb380) (o := .cells #[.int .i64 t377, .int .i64 t378] 26 (0, 0)) (by (with_reducible repeat (first | refine blk_drewN ?_ _ | refine blk_drew ?_ | refine blk_alloc ?_ _)); exact BK380.out) hb); have n2_ := Aside0.mk (below_step (by repeat (first | (with_reducible first | exact HB.out | apply below_alloc | apply pw_below_drewN | apply below_drew1 | refine below_set ?_ GE374.out | refine below_set ?_ GE380.out) | exact HB.out)) hb); clear BK374; clear BK380; clear HB; have BK374 := n0_; have BK380 := n1_; have HB := n2_; clear n0_ n1_ n2_; (try clear hb); (try clear hb2); (try clear hk); (try clear hi)) | ((with_reducible refine gate_callee (f := 28) rfl ?_); refine goesL_ (some 94) rfl rfl Try.func28 (by kernel_rfl) rfl #[.int .i64 t370, .int .i64 (wrap64 (2 + t368))] rfl (by (try simp only [List.map_toArray, List.map_cons, List.map_nil]); first | done | rfl | (simp only [List.length_drop, List.length_take]; rfl)) ?_; (with_reducible refine (numnahref03_Reduced.calls kj10 t370 (wrap64 (2 + t368)) t384 t385 _ A45.out).mono ?_); rintro e w53 ⟨rfl, hb⟩; refine ⟨_, rfl, ?_⟩; have n0_ := Aside0.mk (blk_below (g := gb374) (o := .cells #[.int .i64 t371, .int .i64 t372] 26 (0, 0)) (by (with_reducible repeat (first | refine blk_drewN ?_ _ | refine blk_drew ?_ | refine blk_alloc ?_ _)); exact BK374.out) hb); have n1_ := Aside0.mk (blk_below (g := gb380) (o := .cells #[.int .i64 t377, .int .i64 t378] 26 (0, 0)) (by (with_reducible repeat (first | refine blk_drewN ?_ _ | refine blk_drew ?_ | refine blk_alloc ?_ _)); exact BK380.out) hb); have n2_ := Aside0.mk (below_step (by repeat (first | (with_reducible first | exact HB.out | apply below_alloc | apply pw_below_drewN | apply below_drew1 | refine below_set ?_ GE374.out | refine below_set ?_ GE380.out) | exact HB.out)) hb); clear BK374; clear BK380; clear HB; have BK374 := n0_; have BK380 := n1_; have HB := n2_; clear n0_ n1_ n2_; (try clear hb); (try clear hb2); (try clear hk); (try clear hi)) | ((with_reducible refine gate_callee (f := 33) rfl ?_); refine goesL_ (some 95) rfl rfl Try.func33 (by kernel_rfl) rfl #[.agg #[.int .i64 t382, .int .i64 t383], .agg #[.int .i64 t384, .int .i64 t385]] rfl (by (try simp only [List.map_toArray, List.map_cons, List.map_nil]); first | done | rfl | (simp only [List.length_drop, List.length_take]; rfl)) ?_; (with_reducible refine (spread_Add.calls t382 t383 t384 t385 t386 t387 t388 _ A46.out).mono ?_); rintro e w54 ⟨rfl, hb⟩; refine ⟨_, rfl, ?_⟩; have n0_ := Aside0.mk (blk_below (g := gb374) (o := .cells #[.int .i64 t371, .int .i64 t372] 26 (0, 0)) (by (with_reducible repeat (first | refine blk_drewN ?_ _ | refine blk_drew ?_ | refine blk_alloc ?_ _)); exact BK374.out) hb); have n1_ := Aside0.mk (blk_below (g := gb380) (o := .cells #[.int .i64 t377, .int .i64 t378] 26 (0, 0)) (by (with_reducible repeat (first | refine blk_drewN ?_ _ | refine blk_drew ?_ | refine blk_alloc ?_ _)); exact BK380.out) hb); have n2_ := Aside0.mk (below_step (by repeat (first | (with_reducible first | exact HB.out | apply below_alloc | apply pw_below_drewN | apply below_drew1 | refine below_set ?_ GE374.out | refine below_set ?_ GE380.out) | exact HB.out)) hb); clear BK374; clear BK380; clear HB; have BK374 := n0_; have BK380 := n1_; have HB := n2_; clear n0_ n1_ n2_; (try clear hb); (try clear hb2); (try clear hk); (try clear hi)) | ((with_reducible refine gate_dst (N := 13) rfl ?_); refine box_event ?hg (N := 13) ?hd (cs := #[.int .i64 0, .int .i64 0]) (t := 26) ?hr ?_; (case hd => rfl); (case hg => rfl); (case hr => first | (go_simp; done) | (go_simp; rfl)); intro gb389 hg w55 hbox hb; have n0_ := Aside0.mk (blk_below (g := gb374) (o := .cells #[.int .i64 t371, .int .i64 t372] 26 (0, 0)) (by (with_reducible repeat (first | refine blk_drewN ?_ _ | refine blk_drew ?_ | refine blk_alloc ?_ _)); exact BK374.out) hb); have n1_ := Aside0.mk (blk_below (g := gb380) (o := .cells #[.int .i64 t377, .int .i64 t378] 26 (0, 0)) (by (with_reducible repeat (first | refine blk_drewN ?_ _ | refine blk_drew ?_ | refine blk_alloc ?_ _)); exact BK380.out) hb); have n2_ := Aside0.mk (below_step (by repeat (first | (with_reducible first | exact HB.out | apply below_alloc | apply pw_below_drewN | apply below_drew1 | refine below_set ?_ GE374.out | refine below_set ?_ GE380.out) | exact HB.out)) hb); have n3_ := Aside0.mk (hbox); have n4_ := Aside0.mk ((by rw [hg]; exact (below_size (by repeat (first | (with_reducible first | exact HB.out | apply below_alloc | apply pw_below_drewN | apply below_drew1 | refine below_set ?_ GE374.out | refine below_set ?_ GE380.out) | exact HB.out))) : w.heap.size ≤ gb389)); have n5_ := Aside0.mk ((by rw [hg]; exact (below_size (by repeat (first | (with_reducible first | exact HB.out | apply below_alloc | apply pw_below_drewN | apply below_drew1 | refine below_set ?_ GE374.out | refine below_set ?_ GE380.out) | exact HB.out))) : w.heap.size ≤ gb389)); have n6_ := Aside0.mk ((by rw [hg]; exact Nat.ne_of_lt (blk_lt (g := gb374) (o := .cells #[.int .i64 t371, .int .i64 t372] 26 (0, 0)) (by (with_reducible repeat (first | refine blk_drewN ?_ _ | refine blk_drew ?_ | refine blk_alloc ?_ _)); exact BK374.out)) : gb374 ≠ gb389)); have n7_ := Aside0.mk ((by rw [hg]; exact Nat.ne_of_gt (blk_lt (g := gb374) (o := .cells #[.int .i64 t371, .int .i64 t372] 26 (0, 0)) (by (with_reducible repeat (first | refine blk_drewN ?_ _ | refine blk_drew ?_ | refine blk_alloc ?_ _)); exact BK374.out)) : gb389 ≠ gb374)); have n8_ := Aside0.mk ((by rw [hg]; exact Nat.ne_of_lt (blk_lt (g := gb380) (o := .cells #[.int .i64 t377, .int .i64 t378] 26 (0, 0)) (by (with_reducible repeat (first | refine blk_drewN ?_ _ | refine blk_drew ?_ | refine blk_alloc ?_ _)); exact BK380.out)) : gb380 ≠ gb389)); have n9_ := Aside0.mk ((by rw [hg]; exact Nat.ne_of_gt (blk_lt (g := gb380) (o := .cells #[.int .i64 t377, .int .i64 t378] 26 (0, 0)) (by (with_reducible repeat (first | refine blk_drewN ?_ _ | refine blk_drew ?_ | refine blk_alloc ?_ _)); exact BK380.out)) : gb389 ≠ gb380)); clear BK374; clear BK380; clear HB; have BK374 := n0_; have BK380 := n1_; have HB := n2_; have BK389 := n3_; have GW389 := n4_; have GE389 := n5_; have NB374_389 := n6_; have NB389_374 := n7_; have NB380_389 := n8_; have NB389_380 := n9_; clear n0_ n1_ n2_ n3_ n4_ n5_ n6_ n7_ n8_ n9_; clear hb hbox hg; have hnb56 := NB389_374.out; have hnc56 := NB374_389.out; have hnb57 := NB389_380.out; have hnc57 := NB380_389.out; have hcz58_0 : w55.cell? ⟨gb389, 0, none⟩ = some (.int .i64 0) := (blk_cell BK389.out 0).trans rfl; have hcz58_1 : w55.cell? ⟨gb389, 1, none⟩ = some (.int .i64 0) := (blk_cell BK389.out 1).trans rfl; have hfz58_0 := blk_frozen BK389.out 0; have hfz58_1 := blk_frozen BK389.out 1; have hcz59_0 : w55.cell? ⟨gb380, 0, none⟩ = some (.int .i64 t377) := (blk_cell BK380.out 0).trans rfl; have hcz59_1 : w55.cell? ⟨gb380, 1, none⟩ = some (.int .i64 t378) := (blk_cell BK380.out 1).trans rfl; have hfz59_0 := blk_frozen BK380.out 0; have hfz59_1 := blk_frozen BK380.out 1) | (go_at_call 22; (with_reducible refine (numnahlaw03_awake.calls kj10  t390 _ A49.out).mono ?_); rintro e w60 ⟨rfl, hb⟩; have n0_ := Aside0.mk (blk_below (g := gb374) (o := .cells #[.int .i64 t371, .int .i64 t372] 26 (0, 0)) (by (with_reducible repeat (first | refine blk_drewN ?_ _ | refine blk_drew ?_ | refine blk_alloc ?_ _)); refine blk_far ?_ NB374_389.out _; (with_reducible repeat (first | refine blk_drewN ?_ _ | refine blk_drew ?_ | refine blk_alloc ?_ _)); refine blk_far ?_ NB374_389.out _; (with_reducible repeat (first | refine blk_drewN ?_ _ | refine blk_drew ?_ | refine blk_alloc ?_ _)); exact BK374.out) hb); have n1_ := Aside0.mk (blk_below (g := gb380) (o := .cells #[.int .i64 t377, .int .i64 t378] 26 (0, 0)) (by (with_reducible repeat (first | refine blk_drewN ?_ _ | refine blk_drew ?_ | refine blk_alloc ?_ _)); refine blk_far ?_ NB380_389.out _; (with_reducible repeat (first | refine blk_drewN ?_ _ | refine blk_drew ?_ | refine blk_alloc ?_ _)); refine blk_far ?_ NB380_389.out _; (with_reducible repeat (first | refine blk_drewN ?_ _ | refine blk_drew ?_ | refine blk_alloc ?_ _)); exact BK380.out) hb); have n2_ := Aside0.mk (blk_below (g := gb389) (o := .cells #[.int .i64 t386, .int .i64 t387] 26 (0, 0)) (by (with_reducible repeat (first | refine blk_drewN ?_ _ | refine blk_drew ?_ | refine blk_alloc ?_ _)); refine blk_put (cs := #[.int .i64 t386, .int .i64 0]) ?_ 1 _ rfl; (with_reducible repeat (first | refine blk_drewN ?_ _ | refine blk_drew ?_ | refine blk_alloc ?_ _)); refine blk_put (cs := #[.int .i64 0, .int .i64 0]) ?_ 0 _ rfl; (with_reducible repeat (first | refine blk_drewN ?_ _ | refine blk_drew ?_ | refine blk_alloc ?_ _)); exact BK389.out) hb); have n3_ := Aside0.mk (below_step (by repeat (first | (with_reducible first | exact HB.out | apply below_alloc | apply pw_below_drewN | apply below_drew1 | refine below_set ?_ GE374.out | refine below_set ?_ GE380.out | refine below_set ?_ GE389.out) | exact HB.out)) hb); clear BK374; clear BK380; clear BK389; clear HB; have BK374 := n0_; have BK380 := n1_; have BK389 := n2_; have HB := n3_; clear n0_ n1_ n2_ n3_; (try clear hb); (try clear hb2); (try clear hk); (try clear hi)))
              go_ret
              exact ⟨by first | rfl | (simp [errW_none, errW_some] <;> rfl) | (simp [*, errW_none, errW_some] <;> rfl), by repeat (first | (with_reducible first | exact HB.out | apply below_alloc | apply pw_below_drewN | apply below_drew1 | refine below_set ?_ GE374.out | refine below_set ?_ GE380.out | refine below_set ?_ GE389.out) | exact HB.out)⟩
            · rw [if_neg c48] at H
              have c48b0 : (t386 == t377 && (t387 == t378)) = false := by simpa using c48
              (try (have c48b1 : decide (t386 = t377 && (t387 == t378)) = false := by simpa using c48))
              (try (have c48b2 : (t386 == t377 && (t387 == t378)) = false := by simpa using c48))
              (try (have c48b3 : ¬ (t386 = t377 && (t387 == t378)) := by simpa using c48))
              clear c48
              obtain rfl := Option.some.inj H
              have hnb61 := NB374_380.out
              have hnc61 := NB380_374.out
              have hcz62_0 : wc.cell? ⟨gb374, 0, none⟩ = some (.int .i64 t371) := (blk_cell BK374.out 0).trans rfl
              have hcz62_1 : wc.cell? ⟨gb374, 1, none⟩ = some (.int .i64 t372) := (blk_cell BK374.out 1).trans rfl
              have hfz62_0 := blk_frozen BK374.out 0
              have hfz62_1 := blk_frozen BK374.out 1
              go_wp2_with (first | ((with_reducible refine gate_callee (f := 28) rfl ?_); refine goesL_ (some 91) rfl rfl Try.func28 (by kernel_rfl) rfl #[.int .i64 t371, .int .i64 (wrap64 (t372 * (wrap64 (2 + t368))))] rfl (by (try simp only [List.map_toArray, List.map_cons, List.map_nil]); first | done | rfl | (simp only [List.length_drop, List.length_take]; rfl)) ?_; (with_reducible refine (numnahref03_Reduced.calls kj10 t371 (wrap64 (t372 * (wrap64 (2 + t368)))) t382 t383 _ A44.out).mono ?_); rintro e w63 ⟨rfl, hb⟩; refine ⟨_, rfl, ?_⟩; have n0_ := Aside0.mk (blk_below (g := gb374) (o := .cells #[.int .i64 t371, .int .i64 t372] 26 (0, 0)) (by (with_reducible repeat (first | refine blk_drewN ?_ _ | refine blk_drew ?_ | refine blk_alloc ?_ _)); exact BK374.out) hb); have n1_ := Aside0.mk (blk_below (g := gb380) (o := .cells #[.int .i64 t377, .int .i64 t378] 26 (0, 0)) (by (with_reducible repeat (first | refine blk_drewN ?_ _ | refine blk_drew ?_ | refine blk_alloc ?_ _)); exact BK380.out) hb); have n2_ := Aside0.mk (below_step (by repeat (first | (with_reducible first | exact HB.out | apply below_alloc | apply pw_below_drewN | apply below_drew1 | refine below_set ?_ GE374.out | refine below_set ?_ GE380.out) | exact HB.out)) hb); clear BK374; clear BK380; clear HB; have BK374 := n0_; have BK380 := n1_; have HB := n2_; clear n0_ n1_ n2_; (try clear hb); (try clear hb2); (try clear hk); (try clear hi)) | ((with_reducible refine gate_callee (f := 28) rfl ?_); refine goesL_ (some 94) rfl rfl Try.func28 (by kernel_rfl) rfl #[.int .i64 t370, .int .i64 (wrap64 (2 + t368))] rfl (by (try simp only [List.map_toArray, List.map_cons, List.map_nil]); first | done | rfl | (simp only [List.length_drop, List.length_take]; rfl)) ?_; (with_reducible refine (numnahref03_Reduced.calls kj10 t370 (wrap64 (2 + t368)) t384 t385 _ A45.out).mono ?_); rintro e w64 ⟨rfl, hb⟩; refine ⟨_, rfl, ?_⟩; have n0_ := Aside0.mk (blk_below (g := gb374) (o := .cells #[.int .i64 t371, .int .i64 t372] 26 (0, 0)) (by (with_reducible repeat (first | refine blk_drewN ?_ _ | refine blk_drew ?_ | refine blk_alloc ?_ _)); exact BK374.out) hb); have n1_ := Aside0.mk (blk_below (g := gb380) (o := .cells #[.int .i64 t377, .int .i64 t378] 26 (0, 0)) (by (with_reducible repeat (first | refine blk_drewN ?_ _ | refine blk_drew ?_ | refine blk_alloc ?_ _)); exact BK380.out) hb); have n2_ := Aside0.mk (below_step (by repeat (first | (with_reducible first | exact HB.out | apply below_alloc | apply pw_below_drewN | apply below_drew1 | refine below_set ?_ GE374.out | refine below_set ?_ GE380.out) | exact HB.out)) hb); clear BK374; clear BK380; clear HB; have BK374 := n0_; have BK380 := n1_; have HB := n2_; clear n0_ n1_ n2_; (try clear hb); (try clear hb2); (try clear hk); (try clear hi)) | ((with_reducible refine gate_callee (f := 33) rfl ?_); refine goesL_ (some 95) rfl rfl Try.func33 (by kernel_rfl) rfl #[.agg #[.int .i64 t382, .int .i64 t383], .agg #[.int .i64 t384, .int .i64 t385]] rfl (by (try simp only [List.map_toArray, List.map_cons, List.map_nil]); first | done | rfl | (simp only [List.length_drop, List.length_take]; rfl)) ?_; (with_reducible refine (spread_Add.calls t382 t383 t384 t385 t386 t387 t388 _ A46.out).mono ?_); rintro e w65 ⟨rfl, hb⟩; refine ⟨_, rfl, ?_⟩; have n0_ := Aside0.mk (blk_below (g := gb374) (o := .cells #[.int .i64 t371, .int .i64 t372] 26 (0, 0)) (by (with_reducible repeat (first | refine blk_drewN ?_ _ | refine blk_drew ?_ | refine blk_alloc ?_ _)); exact BK374.out) hb); have n1_ := Aside0.mk (blk_below (g := gb380) (o := .cells #[.int .i64 t377, .int .i64 t378] 26 (0, 0)) (by (with_reducible repeat (first | refine blk_drewN ?_ _ | refine blk_drew ?_ | refine blk_alloc ?_ _)); exact BK380.out) hb); have n2_ := Aside0.mk (below_step (by repeat (first | (with_reducible first | exact HB.out | apply below_alloc | apply pw_below_drewN | apply below_drew1 | refine below_set ?_ GE374.out | refine below_set ?_ GE380.out) | exact HB.out)) hb); clear BK374; clear BK380; clear HB; have BK374 := n0_; have BK380 := n1_; have HB := n2_; clear n0_ n1_ n2_; (try clear hb); (try clear hb2); (try clear hk); (try clear hi)) | ((with_reducible refine gate_dst (N := 13) rfl ?_); refine box_event ?hg (N := 13) ?hd (cs := #[.int .i64 0, .int .i64 0]) (t := 26) ?hr ?_; (case hd => rfl); (case hg => rfl); (case hr => first | (go_simp; done) | (go_simp; rfl)); intro gb389 hg w66 hbox hb; have n0_ := Aside0.mk (blk_below (g := gb374) (o := .cells #[.int .i64 t371, .int .i64 t372] 26 (0, 0)) (by (with_reducible repeat (first | refine blk_drewN ?_ _ | refine blk_drew ?_ | refine blk_alloc ?_ _)); exact BK374.out) hb); have n1_ := Aside0.mk (blk_below (g := gb380) (o := .cells #[.int .i64 t377, .int .i64 t378] 26 (0, 0)) (by (with_reducible repeat (first | refine blk_drewN ?_ _ | refine blk_drew ?_ | refine blk_alloc ?_ _)); exact BK380.out) hb); have n2_ := Aside0.mk (below_step (by repeat (first | (with_reducible first | exact HB.out | apply below_alloc | apply pw_below_drewN | apply below_drew1 | refine below_set ?_ GE374.out | refine below_set ?_ GE380.out) | exact HB.out)) hb); have n3_ := Aside0.mk (hbox); have n4_ := Aside0.mk ((by rw [hg]; exact (below_size (by repeat (first | (with_reducible first | exact HB.out | apply below_alloc | apply pw_below_drewN | apply below_drew1 | refine below_set ?_ GE374.out | refine below_set ?_ GE380.out) | exact HB.out))) : w.heap.size ≤ gb389)); have n5_ := Aside0.mk ((by rw [hg]; exact (below_size (by repeat (first | (with_reducible first | exact HB.out | apply below_alloc | apply pw_below_drewN | apply below_drew1 | refine below_set ?_ GE374.out | refine below_set ?_ GE380.out) | exact HB.out))) : w.heap.size ≤ gb389)); have n6_ := Aside0.mk ((by rw [hg]; exact Nat.ne_of_lt (blk_lt (g := gb374) (o := .cells #[.int .i64 t371, .int .i64 t372] 26 (0, 0)) (by (with_reducible repeat (first | refine blk_drewN ?_ _ | refine blk_drew ?_ | refine blk_alloc ?_ _)); exact BK374.out)) : gb374 ≠ gb389)); have n7_ := Aside0.mk ((by rw [hg]; exact Nat.ne_of_gt (blk_lt (g := gb374) (o := .cells #[.int .i64 t371, .int .i64 t372] 26 (0, 0)) (by (with_reducible repeat (first | refine blk_drewN ?_ _ | refine blk_drew ?_ | refine blk_alloc ?_ _)); exact BK374.out)) : gb389 ≠ gb374)); have n8_ := Aside0.mk ((by rw [hg]; exact Nat.ne_of_lt (blk_lt (g := gb380) (o := .cells #[.int .i64 t377, .int .i64 t378] 26 (0, 0)) (by (with_reducible repeat (first | refine blk_drewN ?_ _ | refine blk_drew ?_ | refine blk_alloc ?_ _)); exact BK380.out)) : gb380 ≠ gb389)); have n9_ := Aside0.mk ((by rw [hg]; exact Nat.ne_of_gt (blk_lt (g := gb380) (o := .cells #[.int .i64 t377, .int .i64 t378] 26 (0, 0)) (by (with_reducible repeat (first | refine blk_drewN ?_ _ | refine blk_drew ?_ | refine blk_alloc ?_ _)); exact BK380.out)) : gb389 ≠ gb380)); clear BK374; clear BK380; clear HB; have BK374 := n0_; have BK380 := n1_; have HB := n2_; have BK389 := n3_; have GW389 := n4_; have GE389 := n5_; have NB374_389 := n6_; have NB389_374 := n7_; have NB380_389 := n8_; have NB389_380 := n9_; clear n0_ n1_ n2_ n3_ n4_ n5_ n6_ n7_ n8_ n9_; clear hb hbox hg; have hnb67 := NB389_374.out; have hnc67 := NB374_389.out; have hnb68 := NB389_380.out; have hnc68 := NB380_389.out; have hcz69_0 : w66.cell? ⟨gb389, 0, none⟩ = some (.int .i64 0) := (blk_cell BK389.out 0).trans rfl; have hcz69_1 : w66.cell? ⟨gb389, 1, none⟩ = some (.int .i64 0) := (blk_cell BK389.out 1).trans rfl; have hfz69_0 := blk_frozen BK389.out 0; have hfz69_1 := blk_frozen BK389.out 1; have hcz70_0 : w66.cell? ⟨gb380, 0, none⟩ = some (.int .i64 t377) := (blk_cell BK380.out 0).trans rfl; have hcz70_1 : w66.cell? ⟨gb380, 1, none⟩ = some (.int .i64 t378) := (blk_cell BK380.out 1).trans rfl; have hfz70_0 := blk_frozen BK380.out 0; have hfz70_1 := blk_frozen BK380.out 1))
              go_ret
              exact ⟨by first | rfl | (simp [errW_none, errW_some] <;> rfl) | (simp [*, errW_none, errW_some] <;> rfl), by repeat (first | (with_reducible first | exact HB.out | apply below_alloc | apply pw_below_drewN | apply below_drew1 | refine below_set ?_ GE374.out | refine below_set ?_ GE380.out | refine below_set ?_ GE389.out) | exact HB.out)⟩
          · rw [if_neg c47] at H
            have c47b0 : (t388 == 0) = false := beq_eq_false_iff_ne.mpr c47
            have c47b1 : (t388 != 0) = true := bne_iff_ne.mpr c47
            obtain rfl := Option.some.inj H
            have hnb71 := NB374_380.out
            have hnc71 := NB380_374.out
            have hcz72_0 : wc.cell? ⟨gb374, 0, none⟩ = some (.int .i64 t371) := (blk_cell BK374.out 0).trans rfl
            have hcz72_1 : wc.cell? ⟨gb374, 1, none⟩ = some (.int .i64 t372) := (blk_cell BK374.out 1).trans rfl
            have hfz72_0 := blk_frozen BK374.out 0
            have hfz72_1 := blk_frozen BK374.out 1
            go_wp2_with (first | ((with_reducible refine gate_callee (f := 28) rfl ?_); refine goesL_ (some 91) rfl rfl Try.func28 (by kernel_rfl) rfl #[.int .i64 t371, .int .i64 (wrap64 (t372 * (wrap64 (2 + t368))))] rfl (by (try simp only [List.map_toArray, List.map_cons, List.map_nil]); first | done | rfl | (simp only [List.length_drop, List.length_take]; rfl)) ?_; (with_reducible refine (numnahref03_Reduced.calls kj10 t371 (wrap64 (t372 * (wrap64 (2 + t368)))) t382 t383 _ A44.out).mono ?_); rintro e w73 ⟨rfl, hb⟩; refine ⟨_, rfl, ?_⟩; have n0_ := Aside0.mk (blk_below (g := gb374) (o := .cells #[.int .i64 t371, .int .i64 t372] 26 (0, 0)) (by (with_reducible repeat (first | refine blk_drewN ?_ _ | refine blk_drew ?_ | refine blk_alloc ?_ _)); exact BK374.out) hb); have n1_ := Aside0.mk (blk_below (g := gb380) (o := .cells #[.int .i64 t377, .int .i64 t378] 26 (0, 0)) (by (with_reducible repeat (first | refine blk_drewN ?_ _ | refine blk_drew ?_ | refine blk_alloc ?_ _)); exact BK380.out) hb); have n2_ := Aside0.mk (below_step (by repeat (first | (with_reducible first | exact HB.out | apply below_alloc | apply pw_below_drewN | apply below_drew1 | refine below_set ?_ GE374.out | refine below_set ?_ GE380.out) | exact HB.out)) hb); clear BK374; clear BK380; clear HB; have BK374 := n0_; have BK380 := n1_; have HB := n2_; clear n0_ n1_ n2_; (try clear hb); (try clear hb2); (try clear hk); (try clear hi)) | ((with_reducible refine gate_callee (f := 28) rfl ?_); refine goesL_ (some 94) rfl rfl Try.func28 (by kernel_rfl) rfl #[.int .i64 t370, .int .i64 (wrap64 (2 + t368))] rfl (by (try simp only [List.map_toArray, List.map_cons, List.map_nil]); first | done | rfl | (simp only [List.length_drop, List.length_take]; rfl)) ?_; (with_reducible refine (numnahref03_Reduced.calls kj10 t370 (wrap64 (2 + t368)) t384 t385 _ A45.out).mono ?_); rintro e w74 ⟨rfl, hb⟩; refine ⟨_, rfl, ?_⟩; have n0_ := Aside0.mk (blk_below (g := gb374) (o := .cells #[.int .i64 t371, .int .i64 t372] 26 (0, 0)) (by (with_reducible repeat (first | refine blk_drewN ?_ _ | refine blk_drew ?_ | refine blk_alloc ?_ _)); exact BK374.out) hb); have n1_ := Aside0.mk (blk_below (g := gb380) (o := .cells #[.int .i64 t377, .int .i64 t378] 26 (0, 0)) (by (with_reducible repeat (first | refine blk_drewN ?_ _ | refine blk_drew ?_ | refine blk_alloc ?_ _)); exact BK380.out) hb); have n2_ := Aside0.mk (below_step (by repeat (first | (with_reducible first | exact HB.out | apply below_alloc | apply pw_below_drewN | apply below_drew1 | refine below_set ?_ GE374.out | refine below_set ?_ GE380.out) | exact HB.out)) hb); clear BK374; clear BK380; clear HB; have BK374 := n0_; have BK380 := n1_; have HB := n2_; clear n0_ n1_ n2_; (try clear hb); (try clear hb2); (try clear hk); (try clear hi)) | ((with_reducible refine gate_callee (f := 33) rfl ?_); refine goesL_ (some 95) rfl rfl Try.func33 (by kernel_rfl) rfl #[.agg #[.int .i64 t382, .int .i64 t383], .agg #[.int .i64 t384, .int .i64 t385]] rfl (by (try simp only [List.map_toArray, List.map_cons, List.map_nil]); first | done | rfl | (simp only [List.length_drop, List.length_take]; rfl)) ?_; (with_reducible refine (spread_Add.calls t382 t383 t384 t385 t386 t387 t388 _ A46.out).mono ?_); rintro e w75 ⟨rfl, hb⟩; refine ⟨_, rfl, ?_⟩; have n0_ := Aside0.mk (blk_below (g := gb374) (o := .cells #[.int .i64 t371, .int .i64 t372] 26 (0, 0)) (by (with_reducible repeat (first | refine blk_drewN ?_ _ | refine blk_drew ?_ | refine blk_alloc ?_ _)); exact BK374.out) hb); have n1_ := Aside0.mk (blk_below (g := gb380) (o := .cells #[.int .i64 t377, .int .i64 t378] 26 (0, 0)) (by (with_reducible repeat (first | refine blk_drewN ?_ _ | refine blk_drew ?_ | refine blk_alloc ?_ _)); exact BK380.out) hb); have n2_ := Aside0.mk (below_step (by repeat (first | (with_reducible first | exact HB.out | apply below_alloc | apply pw_below_drewN | apply below_drew1 | refine below_set ?_ GE374.out | refine below_set ?_ GE380.out) | exact HB.out)) hb); clear BK374; clear BK380; clear HB; have BK374 := n0_; have BK380 := n1_; have HB := n2_; clear n0_ n1_ n2_; (try clear hb); (try clear hb2); (try clear hk); (try clear hi)) | ((with_reducible refine gate_dst (N := 13) rfl ?_); refine box_event ?hg (N := 13) ?hd (cs := #[.int .i64 0, .int .i64 0]) (t := 26) ?hr ?_; (case hd => rfl); (case hg => rfl); (case hr => first | (go_simp; done) | (go_simp; rfl)); intro gb389 hg w76 hbox hb; have n0_ := Aside0.mk (blk_below (g := gb374) (o := .cells #[.int .i64 t371, .int .i64 t372] 26 (0, 0)) (by (with_reducible repeat (first | refine blk_drewN ?_ _ | refine blk_drew ?_ | refine blk_alloc ?_ _)); exact BK374.out) hb); have n1_ := Aside0.mk (blk_below (g := gb380) (o := .cells #[.int .i64 t377, .int .i64 t378] 26 (0, 0)) (by (with_reducible repeat (first | refine blk_drewN ?_ _ | refine blk_drew ?_ | refine blk_alloc ?_ _)); exact BK380.out) hb); have n2_ := Aside0.mk (below_step (by repeat (first | (with_reducible first | exact HB.out | apply below_alloc | apply pw_below_drewN | apply below_drew1 | refine below_set ?_ GE374.out | refine below_set ?_ GE380.out) | exact HB.out)) hb); have n3_ := Aside0.mk (hbox); have n4_ := Aside0.mk ((by rw [hg]; exact (below_size (by repeat (first | (with_reducible first | exact HB.out | apply below_alloc | apply pw_below_drewN | apply below_drew1 | refine below_set ?_ GE374.out | refine below_set ?_ GE380.out) | exact HB.out))) : w.heap.size ≤ gb389)); have n5_ := Aside0.mk ((by rw [hg]; exact (below_size (by repeat (first | (with_reducible first | exact HB.out | apply below_alloc | apply pw_below_drewN | apply below_drew1 | refine below_set ?_ GE374.out | refine below_set ?_ GE380.out) | exact HB.out))) : w.heap.size ≤ gb389)); have n6_ := Aside0.mk ((by rw [hg]; exact Nat.ne_of_lt (blk_lt (g := gb374) (o := .cells #[.int .i64 t371, .int .i64 t372] 26 (0, 0)) (by (with_reducible repeat (first | refine blk_drewN ?_ _ | refine blk_drew ?_ | refine blk_alloc ?_ _)); exact BK374.out)) : gb374 ≠ gb389)); have n7_ := Aside0.mk ((by rw [hg]; exact Nat.ne_of_gt (blk_lt (g := gb374) (o := .cells #[.int .i64 t371, .int .i64 t372] 26 (0, 0)) (by (with_reducible repeat (first | refine blk_drewN ?_ _ | refine blk_drew ?_ | refine blk_alloc ?_ _)); exact BK374.out)) : gb389 ≠ gb374)); have n8_ := Aside0.mk ((by rw [hg]; exact Nat.ne_of_lt (blk_lt (g := gb380) (o := .cells #[.int .i64 t377, .int .i64 t378] 26 (0, 0)) (by (with_reducible repeat (first | refine blk_drewN ?_ _ | refine blk_drew ?_ | refine blk_alloc ?_ _)); exact BK380.out)) : gb380 ≠ gb389)); have n9_ := Aside0.mk ((by rw [hg]; exact Nat.ne_of_gt (blk_lt (g := gb380) (o := .cells #[.int .i64 t377, .int .i64 t378] 26 (0, 0)) (by (with_reducible repeat (first | refine blk_drewN ?_ _ | refine blk_drew ?_ | refine blk_alloc ?_ _)); exact BK380.out)) : gb389 ≠ gb380)); clear BK374; clear BK380; clear HB; have BK374 := n0_; have BK380 := n1_; have HB := n2_; have BK389 := n3_; have GW389 := n4_; have GE389 := n5_; have NB374_389 := n6_; have NB389_374 := n7_; have NB380_389 := n8_; have NB389_380 := n9_; clear n0_ n1_ n2_ n3_ n4_ n5_ n6_ n7_ n8_ n9_; clear hb hbox hg; have hnb77 := NB389_374.out; have hnc77 := NB374_389.out; have hnb78 := NB389_380.out; have hnc78 := NB380_389.out; have hcz79_0 : w76.cell? ⟨gb389, 0, none⟩ = some (.int .i64 0) := (blk_cell BK389.out 0).trans rfl; have hcz79_1 : w76.cell? ⟨gb389, 1, none⟩ = some (.int .i64 0) := (blk_cell BK389.out 1).trans rfl; have hfz79_0 := blk_frozen BK389.out 0; have hfz79_1 := blk_frozen BK389.out 1))
            go_ret
            exact ⟨by first | rfl | (simp [errW_none, errW_some] <;> rfl) | (simp [*, errW_none, errW_some] <;> rfl), by repeat (first | (with_reducible first | exact HB.out | apply below_alloc | apply pw_below_drewN | apply below_drew1 | refine below_set ?_ GE374.out | refine below_set ?_ GE380.out | refine below_set ?_ GE389.out) | exact HB.out)⟩

/-- THE ONE PURE STATEMENT of numnahlaw03_SpreadThere: yours. -/
def numnahlaw03_SpreadThere.Pure : Prop := ∀ (a0 : Int) (a1 : Int) (a2 : Int), (Lit.int .i64 a0).wf = true → (Lit.int .i64 a1).wf = true → (Lit.int .i64 a2).wf = true → ∃ k, numnahlaw03_SpreadThere.f k a0 a1 a2 = some true
theorem numnahlaw03_SpreadThere.walk (P : numnahlaw03_SpreadThere.Pure) (a0 : Int) (a1 : Int) (a2 : Int) (w : World) (w0 : (Lit.int .i64 a0).wf = true) (w1 : (Lit.int .i64 a1).wf = true) (w2 : (Lit.int .i64 a2).wf = true) :
    Calls Try.prog 10 #[.int .i64 a0, .int .i64 a1, .int .i64 a2] w fun e w' => e = .returned (.bool true) ∧ Below w.heap.size w w' := by
  obtain ⟨k, h⟩ := P a0 a1 a2 w0 w1 w2
  refine (numnahlaw03_SpreadThere.calls k a0 a1 a2 true w h).mono ?_
  rintro e w' ⟨rfl, hd⟩
  exact ⟨rfl, hd⟩

end Go.Proofs.Ythngclneffngbaa.Pr
