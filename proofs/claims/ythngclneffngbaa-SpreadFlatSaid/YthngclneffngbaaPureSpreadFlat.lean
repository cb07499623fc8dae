/- A sheet whose points all have y = 0 has at least the discrepancy of their x, exchanging x and y of all points leaves the discrepancy of a sheet as it is, and so does their order: for any scale and lists. -/
import Derived.Test.YthngclneffngbaaDefSpreadFlat
namespace Go.Proofs.Ythngclneffngbaa.Pure
open Go.RowKit Go.Proofs.Ythngclneffngbaa.Pr Go.Proofs.YthngclneffngbaaW.PrintWords Go.Proofs.YthngclneffngbaaW.PrintLast Go.Proofs.YthngclneffngbaaW.PrintMore
theorem SpreadFlat : Pr.numnahlaw03_SpreadFlat.Pure := by
  intro a0 l1 l2 _ _ hl _ _ hl2 _
  exact if_pos ⟨hl, hl2⟩
end Go.Proofs.Ythngclneffngbaa.Pure
