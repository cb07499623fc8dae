-- Laid by wip/tools/row.py of this project. Lean checks it.
import Derived.Test.YthngclneffngbaaPrB4
import Derived.Test.YthngclneffngbaaHOpen
namespace Go.Proofs.Ythngclneffngbaa.Pr
open Go.RowKit Go.Proofs.YthngclneffngbaaW.PrintWords Go.Proofs.YthngclneffngbaaW.PrintLast Go.Proofs.YthngclneffngbaaW.PrintMore
set_option linter.unusedVariables false
theorem opens26 : Opens Try.prog 26 k26 (fun x => (Lit.int .i64 x.f0).wf = true ∧ (Lit.int .i64 x.f1).wf = true) := opens_iso (fun x : S26 => (x.f0, x.f1)) (fun p => ⟨p.1, p.2⟩) (fun _ => rfl) (opens_struct2 Try.underlying26 (opens_int Try.underlying3) (opens_int Try.underlying3) rfl (by kernel_rfl) (by kernel_rfl))
/-- THE PURE STATEMENT of numnahlaw03_SpreadBests -/
def numnahlaw03_SpreadBests.Pure : Prop := ∀ (a0 : Int) (a1 : S26) (a2 : S26), (Lit.int .i64 a0).wf = true → (fun x => (Lit.int .i64 x.f0).wf = true ∧ (Lit.int .i64 x.f1).wf = true) a1 → (fun x => (Lit.int .i64 x.f0).wf = true ∧ (Lit.int .i64 x.f1).wf = true) a2 → ∃ k, numnahlaw03_SpreadBests.f k a0 a1.f0 a1.f1 a2.f0 a2.f1 = some true
end Go.Proofs.Ythngclneffngbaa.Pr
