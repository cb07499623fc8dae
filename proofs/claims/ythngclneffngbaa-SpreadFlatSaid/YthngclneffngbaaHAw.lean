import Derived.Test.YthngclneffngbaaPrB12
namespace Go.Proofs.Ythngclneffngbaa.Pr
open Go.RowKit Go.Proofs.YthngclneffngbaaW.PrintWords Go.Proofs.YthngclneffngbaaW.PrintLast Go.Proofs.YthngclneffngbaaW.PrintMore
set_option linter.unusedVariables false

theorem awake_run : numnahlaw03_awake.f 40 = some true := by kernel_rfl
theorem awake_ev : Evt (fun k => numnahlaw03_awake.f k) true := ⟨40, fun k hk => at_rounds (fun k => numnahlaw03_awake.mono k) hk awake_run⟩
end Go.Proofs.Ythngclneffngbaa.Pr
