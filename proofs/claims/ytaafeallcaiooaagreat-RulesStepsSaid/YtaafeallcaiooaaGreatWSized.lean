import Derived.SizedLaws
import Derived.ChangeSlices
namespace Go.Proofs.Zw
open Go.ChangeShapes Go.WideShapes
end Go.Proofs.Zw
