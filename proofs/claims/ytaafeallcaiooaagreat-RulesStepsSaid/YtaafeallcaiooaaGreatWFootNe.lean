import Derived.Test.YtaafeallcaiooaaGreatWN
namespace Go.Proofs.Zw
open Go.RowKit
namespace Kd
section
variable {α:Type} {d:Kd α} {W:World} {g n:Nat} {S ok:Nat→Prop} {A:Option Addr} {ad:Addr} {xs:List α}
end
end Kd
end Go.Proofs.Zw
