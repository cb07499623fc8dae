-- Laid by wip/tools/row.py of this project. Lean checks it.
import Derived.Test.YthngclneffngbaaPrB5
import Derived.Test.YthngclneffngbaaHOpen
namespace Go.Proofs.Ythngclneffngbaa.Pr
open Go.RowKit Go.Proofs.YthngclneffngbaaW.PrintWords Go.Proofs.YthngclneffngbaaW.PrintLast Go.Proofs.YthngclneffngbaaW.PrintMore
set_option linter.unusedVariables false
theorem opens26 : Opens Try.prog 26 k26 (fun x => (Lit.int .i64 x.f0).wf = true ∧ (Lit.int .i64 x.f1).wf = true) := opens_iso (fun x : S26 => (x.f0, x.f1)) (fun p => ⟨p.1, p.2⟩) (fun _ => rfl) (opens_struct2 Try.underlying26 (opens_int Try.underlying3) (opens_int Try.underlying3) rfl (by kernel_rfl) (by kernel_rfl))
/-- THE PURE STATEMENT of numnahlaw03_SpreadMirrors -/
def numnahlaw03_SpreadMirrors.Pure : Prop := ∀ (a0 : Int) (a1 : Int) (a2 : S26), (Lit.int .i64 a0).wf = true → (Lit.int .i64 a1).wf = true → (fun x => (Lit.int .i64 x.f0).wf = true ∧ (Lit.int .i64 x.f1).wf = true) a2 → ∃ k, numnahlaw03_SpreadMirrors.f k a0 a1 a2.f0 a2.f1 = some true
end Go.Proofs.Ythngclneffngbaa.Pr
