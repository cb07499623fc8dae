/- Match. -/
import Derived.Test.YtaafeallcaiooaaGreatHOt
namespace Go.Proofs.YtaafeallcaiooaaGreat.Pr
open Go.RowKit Go.Maps Go.Proofs.Zw Go.Proofs.Zl Go.Proofs.Zm
set_option linter.unusedVariables false
set_option linter.unusedSimpArgs false
def cells61 (x y z:ByteArray):Obj:=.cells #[.string x,.string y,.string z] 61 (0,0)
theorem set61_0 {w:World} {g:Nat} {x y z:ByteArray} (h:w.heap[g]?=some (cells61 x y z)) (v:ByteArray):(w.setCell ⟨g,0,none⟩ (.string v)).heap[g]?=some (cells61 v y z):=by
  unfold cells61 at *
  simp [World.setCell,Array.getElem?_modify,h]
theorem set61_1 {w:World} {g:Nat} {x y z:ByteArray} (h:w.heap[g]?=some (cells61 x y z)) (v:ByteArray):(w.setCell ⟨g,1,none⟩ (.string v)).heap[g]?=some (cells61 x v z):=by
  unfold cells61 at *
  simp [World.setCell,Array.getElem?_modify,h]
theorem set61_2 {w:World} {g:Nat} {x y z:ByteArray} (h:w.heap[g]?=some (cells61 x y z)) (v:ByteArray):(w.setCell ⟨g,2,none⟩ (.string v)).heap[g]?=some (cells61 x y v):=by
  unfold cells61 at *
  simp [World.setCell,Array.getElem?_modify,h]
section
end
end Go.Proofs.YtaafeallcaiooaaGreat.Pr
