-- Laid by wip/tools/row.py of this project. Lean checks it.
import Derived.Test.YthngclneffngbaaPrB11
import Derived.Test.YthngclneffngbaaHOpen
namespace Go.Proofs.Ythngclneffngbaa.Pr
open Go.RowKit Go.Proofs.YthngclneffngbaaW.PrintWords Go.Proofs.YthngclneffngbaaW.PrintLast Go.Proofs.YthngclneffngbaaW.PrintMore
set_option linter.unusedVariables false
theorem opens50 : Opens Try.prog 50 k50 (fun x => (Lit.int .i64 x.f0).wf = true ∧ (Lit.int .i64 x.f1).wf = true) := opens_iso (fun x : S50 => (x.f0, x.f1)) (fun p => ⟨p.1, p.2⟩) (fun _ => rfl) (opens_arr2 Try.underlying50 Try.underlying3 (by kernel_rfl) (by kernel_rfl))
theorem opens46 : Opens Try.prog 46 (Kd.slice 50 k50) (fun xs => xs.length ≤ maxLen ∧ ∀ x ∈ xs, (fun x : S50 => (Lit.int .i64 x.f0).wf = true ∧ (Lit.int .i64 x.f1).wf = true) x) := opens_slice Try.underlying46 opens50 (by kernel_rfl)
/-- THE PURE STATEMENT of numnahlaw03_SpreadSheets -/
def numnahlaw03_SpreadSheets.Pure : Prop := ∀ (a0 : Int) (l1 : List S50), (Lit.int .i64 a0).wf = true → l1.length ≤ maxLen → l1.length * 16 ≤ 140737488351232 → (∀ x ∈ l1, (fun x => (Lit.int .i64 x.f0).wf = true ∧ (Lit.int .i64 x.f1).wf = true) x) → ∃ k, numnahlaw03_SpreadSheets.f k a0 l1 = some true
end Go.Proofs.Ythngclneffngbaa.Pr
