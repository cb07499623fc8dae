import Derived.Test.YtaafeallcaiooaaGreatWLast
import Derived.Test.YtaafeallcaiooaaGreatWWords
namespace Go.Proofs.Zl
open Go.Proofs.Zw (Aside0)
def reachT (T:List (List Nat × List Nat)) (i:Nat):Nat→Nat→Bool
  | 0,_=>false
  | fuel+1,d=>match T[d]? with
    | some r=>r.1.any fun j=>j == i || reachT T i fuel j
    | none=>false
section
variable {md:Region.Mode} {ops:Array Oper} {T:Bool × List (List Nat × List Nat)} {l l' li lj lk:Array Bool} {ds:List Nat} {i j k:Nat}
end
end Go.Proofs.Zl
