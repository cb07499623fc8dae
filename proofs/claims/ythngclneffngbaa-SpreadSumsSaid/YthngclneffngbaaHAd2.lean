import Derived.Test.YthngclneffngbaaHAdd
import Derived.Test.YthngclneffngbaaHBa
import Derived.Test.YthngclneffngbaaHAw
namespace Go.Proofs.Ythngclneffngbaa.Pr
open Go.RowKit Go.Proofs.YthngclneffngbaaW.PrintWords Go.Proofs.YthngclneffngbaaW.PrintLast Go.Proofs.YthngclneffngbaaW.PrintMore
set_option linter.unusedVariables false
set_option linter.unusedSimpArgs false

theorem smallB_spec {n d : Int} (h : smallB n d = true) : (1 ≤ d ∧ d ≤ 1000000000) ∧ (-1000000000 ≤ n ∧ n ≤ 1000000000) ∧ Int.gcd n d = 1 := by
  simpa [smallB] using h
theorem small_ev (n D : Int) (hn : -9223372036854775808 ≤ n ∧ n ≤ 9223372036854775807) (hD : -9223372036854775808 ≤ D ∧ D ≤ 9223372036854775807) : Evt (fun k => numnahref03_Small.f k n D) (smallB n D) := by
  unfold numnahref03_Small.f
  refine Evt.bind (valid_ev n D hn hD) ?_
  unfold smallB
  by_cases hv : 1 ≤ D ∧ Int.gcd n D = 1
  · simp only [decide_eq_true hv, if_true]
    refine Evt.all fun k => ?_
    by_cases h1 : n ≥ -1000000000
    · rw [if_pos h1]
      by_cases h2 : n ≤ 1000000000
      · rw [if_pos h2]
        congr 1
        rw [decide_eq_decide]
        constructor
        · intro h; exact ⟨⟨hv.1, h⟩, ⟨h1, h2⟩, hv.2⟩
        · intro h; exact h.1.2
      · rw [if_neg h2, decide_eq_false (fun h => h2 h.2.1.2)]
    · rw [if_neg h1, decide_eq_false (fun h => h1 h.2.1.1)]
  · simp only [decide_eq_false hv]
    refine Evt.all fun k => ?_
    rw [if_neg (by simp), decide_eq_false (fun h => hv ⟨h.1.1, h.2.2⟩)]
theorem redF_of (n d : Int) (hd : 1 ≤ d) (h : Int.gcd n d = 1) : redF n d = (n, d) := by
  unfold redF
  rw [h]
  simp
theorem add_yes (a0 a1 b0 b1 : Int) (h1 : smallB a0 a1 = true) (h2 : smallB b0 b1 = true) :
    spread_Add.f a0 a1 b0 b1 = some ((redF (a0 * b1 + b0 * a1) (a1 * b1)).1, (redF (a0 * b1 + b0 * a1) (a1 * b1)).2, 0) := by
  unfold spread_Add.f
  rw [if_pos ⟨h1, h2⟩]
  by_cases z : a0 = 0 ∧ a1 = 1
  · rw [if_pos z]
    obtain ⟨rfl, rfl⟩ := z
    have s := smallB_spec h2
    rw [show (0 : Int) * b1 + b0 * 1 = b0 by omega, show (1 : Int) * b1 = b1 by omega, redF_of b0 b1 s.1.1 s.2.2]
  · rw [if_neg z]
theorem add_no (a0 a1 b0 b1 : Int) (h : ¬ (smallB a0 a1 = true ∧ smallB b0 b1 = true)) : spread_Add.f a0 a1 b0 b1 = some (0, 0, 2) := by
  unfold spread_Add.f
  rw [if_neg h]
theorem mul9 {x y : Int} (h1 : -1000000000 ≤ x) (h2 : x ≤ 1000000000) (h3 : 1 ≤ y) (h4 : y ≤ 1000000000) : -1000000000000000000 ≤ x * y ∧ x * y ≤ 1000000000000000000 := by
  constructor
  · have := Int.mul_le_mul_of_nonneg_right h1 (show 0 ≤ y by omega)
    omega
  · have := Int.mul_le_mul_of_nonneg_right h2 (show 0 ≤ y by omega)
    omega
theorem sumBounds (a0 a1 b0 b1 : Int) (h1 : smallB a0 a1 = true) (h2 : smallB b0 b1 = true) : (-1000000000000000000 ≤ a0 * b1 ∧ a0 * b1 ≤ 1000000000000000000) ∧ (-1000000000000000000 ≤ b0 * a1 ∧ b0 * a1 ≤ 1000000000000000000) ∧ 1 ≤ a1 * b1 ∧ a1 * b1 ≤ 1000000000000000000 := by
  have s1 := smallB_spec h1
  have s2 := smallB_spec h2
  have q3 := mul9 (x := a1) (y := b1) (by omega) (by omega) (by omega) (by omega)
  exact ⟨mul9 (by omega) (by omega) (by omega) (by omega), mul9 (by omega) (by omega) (by omega) (by omega), Int.mul_pos (show 0 < a1 by omega) (show 0 < b1 by omega), q3.2⟩
theorem refAdd_ev (a0 a1 b0 b1 : Int) (h1 : smallB a0 a1 = true) (h2 : smallB b0 b1 = true) : Evt (fun k => numnahref03_Add.f k a0 a1 b0 b1) (redF (a0 * b1 + b0 * a1) (a1 * b1)) := by
  obtain ⟨⟨p1, p2⟩, ⟨p3, p4⟩, p5, p6⟩ := sumBounds a0 a1 b0 b1 h1 h2
  unfold numnahref03_Add.f
  rw [wr (x := a0 * b1) (by omega) (by omega), wr (x := b0 * a1) (by omega) (by omega), wr (x := a1 * b1) (by omega) (by omega), wr (by omega) (by omega)]
  exact Evt.bind (reduced_ev _ _ p5 (by omega) (by omega) (by omega)) (Evt.all fun k => rfl)
end Go.Proofs.Ythngclneffngbaa.Pr
