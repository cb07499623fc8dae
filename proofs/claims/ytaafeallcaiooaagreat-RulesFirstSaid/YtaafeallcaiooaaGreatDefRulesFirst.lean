-- Laid by wip/tools/row.py of this project. Lean checks it.
import Derived.Test.YtaafeallcaiooaaGreatPrG2
import Derived.Test.YtaafeallcaiooaaGreatHOpen
namespace Go.Proofs.YtaafeallcaiooaaGreat.Pr
open Go.RowKit Go.Proofs.YtaafeallcaiooaaGreatW.PrintWords Go.Proofs.YtaafeallcaiooaaGreatW.PrintLast Go.Proofs.YtaafeallcaiooaaGreatW.PrintMore
set_option linter.unusedVariables false
theorem opens36 : Opens Tryz.prog 36 (Kd.slice 9 Kd.string) (fun xs => xs.length ≤ maxLen ∧ ∀ x ∈ xs, (fun s : ByteArray => s.size ≤ maxLen) x) := opens_slice Tryz.underlying36 (opens_string Tryz.underlying9) (by kernel_rfl)
/-- THE PURE STATEMENT of numnahlaw08_RulesFirst -/
def numnahlaw08_RulesFirst.Pure : Prop := ∀ (l0 : List ByteArray) (a1 : Int), l0.length ≤ maxLen → l0.length * 16 ≤ 140737488351232 → (∀ x ∈ l0, (fun s : ByteArray => s.size ≤ maxLen) x) → (Lit.int .i64 a1).wf = true → ∃ k, numnahlaw08_RulesFirst.f k l0 a1 = some true
end Go.Proofs.YtaafeallcaiooaaGreat.Pr
