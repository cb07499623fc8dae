/- Interval returns the greatest deviation of an interval and the first one that has it, Gaps the different distances on the circle, and Move the moved points, or ErrArg: for any scale, points and int. -/
import Derived.Test.YthngclneffngbaaDefSpreadIntervals
namespace Go.Proofs.Ythngclneffngbaa.Pure
open Go.RowKit Go.Proofs.Ythngclneffngbaa.Pr Go.Proofs.YthngclneffngbaaW.PrintWords Go.Proofs.YthngclneffngbaaW.PrintLast Go.Proofs.YthngclneffngbaaW.PrintMore
theorem SpreadIntervals : Pr.numnahlaw03_SpreadIntervals.Pure := by
  intro a0 l1 a2 _ _ hl _ _
  exact if_pos hl
end Go.Proofs.Ythngclneffngbaa.Pure
