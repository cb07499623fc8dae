import Derived.Test.YtaafeallcaiooaaGreatWInv
import Derived.Test.YtaafeallcaiooaaGreatWFootNe
namespace Go.Proofs.Zw
open Go.RowKit
end Go.Proofs.Zw
namespace Go.Proofs.Zl
section
variable {ops:Array Oper} {a:Act} {o og:Oper} {g:Nat} {t:Tmp} {u:Bool}
end
end Go.Proofs.Zl
