/- The points of Series with all digits are even: one at each place, every gap 1, the least discrepancy: for every base and number of digits. -/
import Derived.Test.YthngclneffngbaaPrB8
import Derived.Test.YthngclneffngbaaHT
namespace Go.Proofs.Ythngclneffngbaa.Pure
open Go.RowKit Go.Proofs.Ythngclneffngbaa.Pr Go.Proofs.YthngclneffngbaaW.PrintWords Go.Proofs.YthngclneffngbaaW.PrintLast Go.Proofs.YthngclneffngbaaW.PrintMore
set_option linter.unusedVariables false

/-- all bases, all numbers of digits: 75 cases, which the kernel runs -/
theorem even_all : ((List.range 15).all fun t => (List.range 5).all fun u => numnahlaw03_SpreadEven.f 130 (t : Int) (u : Int) == some true) = true := by kernel_rfl
theorem even_mod (k : Nat) (a b : Int) : numnahlaw03_SpreadEven.f k a b = numnahlaw03_SpreadEven.f k (modF a 15) (modF b 5) := by
  have e1 : modF (modF a 15) 15 = modF a 15 := by unfold modF; rw [wu (x := IntKind.u64.wrap a % 15) (by omega) (by omega)]; omega
  have e2 : modF (modF b 5) 5 = modF b 5 := by unfold modF; rw [wu (x := IntKind.u64.wrap b % 5) (by omega) (by omega)]; omega
  unfold numnahlaw03_SpreadEven.f
  rw [mod_eq a 15 (by omega) (by omega), mod_eq b 5 (by omega) (by omega), mod_eq (modF a 15) 15 (by omega) (by omega), mod_eq (modF b 5) 5 (by omega) (by omega), e1, e2]
theorem SpreadEven : numnahlaw03_SpreadEven.Pure := by
  intro a0 a1 _ _
  refine ⟨130, ?_⟩
  rw [even_mod]
  have h1 := modF_range a0 15 (by omega)
  have h2 := modF_range a1 5 (by omega)
  have h := List.all_eq_true.1 even_all (modF a0 15).toNat (List.mem_range.2 (by omega))
  have h := List.all_eq_true.1 h (modF a1 5).toNat (List.mem_range.2 (by omega))
  rw [Int.toNat_of_nonneg h1.1, Int.toNat_of_nonneg h2.1] at h
  simpa using h
end Go.Proofs.Ythngclneffngbaa.Pure
