import Derived.Test.YtaafeallcaiooaaGreatPrI3
import Derived.Test.YtaafeallcaiooaaGreatHOpen
namespace Go.Proofs.YtaafeallcaiooaaGreat.Pr
open Go.RowKit Go.Proofs.Zw Go.Proofs.Zl Go.Proofs.Zm
set_option linter.unusedVariables false
theorem opens94:Opens Tryz.prog 94 k94 (fun x:S94=>x.f0.size≤maxLen∧x.f1.size≤maxLen):=opens_iso (fun x:S94=>(x.f0,x.f1)) (fun p=>⟨p.1,p.2⟩) (fun _=>rfl) (opens_struct2 Tryz.underlying94 (opens_string Tryz.underlying9) (opens_string Tryz.underlying9) rfl (by kernel_rfl) (by kernel_rfl))
theorem opens35:Opens Tryz.prog 35 (Kd.slice 94 k94) (fun xs=>xs.length≤maxLen∧∀ x∈xs,(fun x:S94=>x.f0.size≤maxLen∧x.f1.size≤maxLen) x):=opens_slice Tryz.underlying35 opens94 (by kernel_rfl)
def nl_RulesReaches.Pure:Prop:=∀ (l0:List S94) (a1:ByteArray) (a2:Int),l0.length≤maxLen→l0.length * 32≤140737488351232→(∀ x∈l0,(fun x:S94=>x.f0.size≤maxLen∧x.f1.size≤maxLen) x)→a1.size≤140737488351232→(Lit.int .i64 a2).wf=true→∃ k,nl_RulesReaches.f k l0 a1 a2=some true
end Go.Proofs.YtaafeallcaiooaaGreat.Pr
