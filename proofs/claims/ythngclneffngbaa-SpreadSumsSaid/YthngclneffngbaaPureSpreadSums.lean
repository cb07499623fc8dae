/- Add does not depend on the order, 0/1 changes nothing, a fraction and its negative have the sum 0/1, and sums of three do not depend on which two are added first: for any six ints. -/
import Derived.Test.YthngclneffngbaaDefSpreadSums
namespace Go.Proofs.Ythngclneffngbaa.Pure
open Go.RowKit Go.Proofs.Ythngclneffngbaa.Pr Go.Proofs.YthngclneffngbaaW.PrintWords Go.Proofs.YthngclneffngbaaW.PrintLast Go.Proofs.YthngclneffngbaaW.PrintMore
theorem SpreadSums : Pr.numnahlaw03_SpreadSums.Pure := by
  intro a _
  rfl
end Go.Proofs.Ythngclneffngbaa.Pure
