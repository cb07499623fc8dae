-- Laid by wip/tools/row.py of this project. Lean checks it.
import Derived.Test.YtaafeallcaiooaaGreatPrE1
import Derived.Test.YtaafeallcaiooaaGreatHOpen
namespace Go.Proofs.YtaafeallcaiooaaGreat.Pr
open Go.RowKit Go.Proofs.YtaafeallcaiooaaGreatW.PrintWords Go.Proofs.YtaafeallcaiooaaGreatW.PrintLast Go.Proofs.YtaafeallcaiooaaGreatW.PrintMore
set_option linter.unusedVariables false
theorem opens43 : Opens Tryz.prog 43 (Kd.slice 3 (Kd.int .i64)) (fun xs => xs.length ≤ maxLen ∧ ∀ x ∈ xs, (fun n => (Lit.int .i64 n).wf = true) x) := opens_slice Tryz.underlying43 (opens_int Tryz.underlying3) (by kernel_rfl)
theorem opens22 : Opens Tryz.prog 22 (Kd.slice 43 (Kd.slice 3 (Kd.int .i64))) (fun xs => xs.length ≤ maxLen ∧ ∀ x ∈ xs, (fun xs : List Int => xs.length ≤ maxLen ∧ ∀ x ∈ xs, (fun n => (Lit.int .i64 n).wf = true) x) x) := opens_slice Tryz.underlying22 opens43 (by kernel_rfl)
/-- THE PURE STATEMENT of numnahlaw08_RulesValues -/
def numnahlaw08_RulesValues.Pure : Prop := ∀ (l0 : List (List Int)) (a1 : ByteArray), l0.length ≤ maxLen → l0.length * 24 ≤ 140737488351232 → (∀ x ∈ l0, (fun xs : List Int => xs.length ≤ maxLen ∧ ∀ x ∈ xs, (fun n => (Lit.int .i64 n).wf = true) x) x) → a1.size ≤ 140737488351232 → ∃ k, numnahlaw08_RulesValues.f k l0 a1 = some true
end Go.Proofs.YtaafeallcaiooaaGreat.Pr
