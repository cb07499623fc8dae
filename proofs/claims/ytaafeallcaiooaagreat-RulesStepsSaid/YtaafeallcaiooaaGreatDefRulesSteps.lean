import Derived.Test.YtaafeallcaiooaaGreatPrI1
import Derived.Test.YtaafeallcaiooaaGreatHOpen
namespace Go.Proofs.YtaafeallcaiooaaGreat.Pr
open Go.RowKit Go.Proofs.Zw Go.Proofs.Zl Go.Proofs.Zm
set_option linter.unusedVariables false
theorem opens36:Opens Tryz.prog 36 (Kd.slice 9 Kd.string) (fun xs=>xs.length≤maxLen∧∀ x∈xs,(fun s:ByteArray=>s.size≤maxLen) x):=opens_slice Tryz.underlying36 (opens_string Tryz.underlying9) (by kernel_rfl)
def nl_RulesSteps.Pure:Prop:=∀ (l0:List ByteArray) (a1:ByteArray) (a2:Int),l0.length≤maxLen→l0.length * 16≤140737488351232→(∀ x∈l0,(fun s:ByteArray=>s.size≤maxLen) x)→a1.size≤140737488351232→(Lit.int .i64 a2).wf=true→∃ k,nl_RulesSteps.f k l0 a1 a2=some true
end Go.Proofs.YtaafeallcaiooaaGreat.Pr
