-- Laid by wip/tools/row.py of this project. Lean checks it.
import Derived.Test.YthngclneffngbaaPrFl
import Derived.Test.YthngclneffngbaaHOpen
namespace Go.Proofs.Ythngclneffngbaa.Pr
open Go.RowKit Go.Proofs.YthngclneffngbaaW.PrintWords Go.Proofs.YthngclneffngbaaW.PrintLast Go.Proofs.YthngclneffngbaaW.PrintMore
set_option linter.unusedVariables false
theorem opens22 : Opens Try.prog 22 (Kd.slice 3 (Kd.int .i64)) (fun xs => xs.length ≤ maxLen ∧ ∀ x ∈ xs, (fun n => (Lit.int .i64 n).wf = true) x) := opens_slice Try.underlying22 (opens_int Try.underlying3) (by kernel_rfl)
/-- THE PURE STATEMENT of numnahlaw03_SpreadFlat -/
def numnahlaw03_SpreadFlat.Pure : Prop := ∀ (a0 : Int) (l1 : List Int) (l2 : List Int), (Lit.int .i64 a0).wf = true → l1.length ≤ maxLen → l1.length * 8 ≤ 140737488351232 → (∀ x ∈ l1, (fun n => (Lit.int .i64 n).wf = true) x) → l2.length ≤ maxLen → l2.length * 8 ≤ 140737488351232 → (∀ x ∈ l2, (fun n => (Lit.int .i64 n).wf = true) x) → numnahlaw03_SpreadFlat.f a0 l1 l2 = some true
end Go.Proofs.Ythngclneffngbaa.Pr
