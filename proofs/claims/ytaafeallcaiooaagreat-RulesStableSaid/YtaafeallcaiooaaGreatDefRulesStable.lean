-- Laid by wip/tools/row.py of this project. Lean checks it.
import Derived.Test.YtaafeallcaiooaaGreatHSt
import Derived.Test.YtaafeallcaiooaaGreatHOpen
namespace Go.Proofs.YtaafeallcaiooaaGreat.Pr
open Go.RowKit Go.Proofs.YtaafeallcaiooaaGreatW.PrintWords Go.Proofs.YtaafeallcaiooaaGreatW.PrintLast Go.Proofs.YtaafeallcaiooaaGreatW.PrintMore
set_option linter.unusedVariables false
theorem opens36 : Opens Tryz.prog 36 (Kd.slice 9 Kd.string) (fun xs => xs.length ≤ maxLen ∧ ∀ x ∈ xs, (fun s : ByteArray => s.size ≤ maxLen) x) := opens_slice Tryz.underlying36 (opens_string Tryz.underlying9) (by kernel_rfl)
/-- THE PURE STATEMENT of numnahlaw08_RulesStable -/
def numnahlaw08_RulesStable.Pure : Prop := ∀ (a0 : Int) (l1 : List ByteArray), (Lit.int .i64 a0).wf = true → l1.length ≤ maxLen → l1.length * 16 ≤ 140737488351232 → (∀ x ∈ l1, (fun s : ByteArray => s.size ≤ maxLen) x) → numnahlaw08_RulesStable.f a0 l1 = some true
end Go.Proofs.YtaafeallcaiooaaGreat.Pr
