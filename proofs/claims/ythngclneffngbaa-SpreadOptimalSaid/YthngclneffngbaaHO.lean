import Derived.Test.YthngclneffngbaaHT
namespace Go.Proofs.Ythngclneffngbaa.Pr
open Go.RowKit Go.Proofs.YthngclneffngbaaW.PrintWords Go.Proofs.YthngclneffngbaaW.PrintLast Go.Proofs.YthngclneffngbaaW.PrintMore
set_option linter.unusedVariables false
set_option linter.unusedSimpArgs false


theorem odds_line : ((List.range 60).all fun m => okLine (2 * ((m : Int) + 1)) (odds (m + 1)) && decide ((lineW (2 * ((m : Int) + 1)) ((odds (m + 1)).length) (cnt (odds (m + 1))) (2 * ((m : Int) + 1) + 1).toNat).1 = (m : Int) + 1)) = true := by
  kernel_rfl
theorem odds_ok (n : Nat) (h1 : 1 ≤ n) (h2 : n ≤ 60) : okLine (2 * (n : Int)) (odds n) = true ∧ (lineW (2 * (n : Int)) (odds n).length (cnt (odds n)) (2 * (n : Int) + 1).toNat).1 = n := by
  have h := List.all_eq_true.1 odds_line (n - 1) (List.mem_range.2 (by omega))
  rw [show (n - 1 + 1) = n by omega, show ((n - 1 : Nat) : Int) + 1 = n by omega] at h
  simpa using h
theorem odds_length (n : Nat) : (odds n).length = n := by simp [odds]
/-- Line of the odd points -/
theorem odds_Line (n : Nat) (h1 : 1 ≤ n) (h2 : n ≤ 60) : ∃ t o, spread_Line.f (2 * (n : Int)) (odds n) = some (1, 2 * (n : Int), t, o, 0) := by
  obtain ⟨h3, h4⟩ := odds_ok n h1 h2
  unfold spread_Line.f
  rw [if_pos h3, h4, odds_length, redF_one _ (by omega)]
  exact ⟨_, _, rfl⟩
end Go.Proofs.Ythngclneffngbaa.Pr
