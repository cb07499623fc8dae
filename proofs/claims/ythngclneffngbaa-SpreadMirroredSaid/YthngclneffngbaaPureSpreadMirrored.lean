/- Mirroring all points leaves Interval and Gaps as they are, and their order does not matter: for any scale and lists. -/
import Derived.Test.YthngclneffngbaaDefSpreadMirrored
namespace Go.Proofs.Ythngclneffngbaa.Pure
open Go.RowKit Go.Proofs.Ythngclneffngbaa.Pr Go.Proofs.YthngclneffngbaaW.PrintWords Go.Proofs.YthngclneffngbaaW.PrintLast Go.Proofs.YthngclneffngbaaW.PrintMore
theorem SpreadMirrored : Pr.numnahlaw03_SpreadMirrored.Pure := by
  intro a0 l1 l2 _ _ hl _ _ _ _
  exact if_pos hl
end Go.Proofs.Ythngclneffngbaa.Pure
