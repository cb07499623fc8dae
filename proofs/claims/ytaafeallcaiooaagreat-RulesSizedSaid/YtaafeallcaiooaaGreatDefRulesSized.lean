-- Laid by wip/tools/row.py of this project. Lean checks it.
import Derived.Test.YtaafeallcaiooaaGreatHSd
import Derived.Test.YtaafeallcaiooaaGreatHOpen
namespace Go.Proofs.YtaafeallcaiooaaGreat.Pr
open Go.RowKit Go.Proofs.YtaafeallcaiooaaGreatW.PrintWords Go.Proofs.YtaafeallcaiooaaGreatW.PrintLast Go.Proofs.YtaafeallcaiooaaGreatW.PrintMore
set_option linter.unusedVariables false
theorem opens42 : Opens Tryz.prog 42 k94 (fun x => x.f0.size ≤ maxLen ∧ x.f1.size ≤ maxLen) := opens_iso (fun x : S94 => (x.f0, x.f1)) (fun p => ⟨p.1, p.2⟩) (fun _ => rfl) (opens_arr2S Tryz.underlying42 Tryz.underlying9 (by kernel_rfl) (by kernel_rfl))
theorem opens43 : Opens Tryz.prog 43 (Kd.slice 3 (Kd.int .i64)) (fun xs => xs.length ≤ maxLen ∧ ∀ x ∈ xs, (fun n => (Lit.int .i64 n).wf = true) x) := opens_slice Tryz.underlying43 (opens_int Tryz.underlying3) (by kernel_rfl)
/-- THE PURE STATEMENT of numnahlaw08_RulesSized -/
def numnahlaw08_RulesSized.Pure : Prop := ∀ (a0 : S94) (l1 : List Int), (fun x : S94 => x.f0.size ≤ maxLen ∧ x.f1.size ≤ maxLen) a0 → l1.length ≤ maxLen → l1.length * 8 ≤ 140737488351232 → (∀ x ∈ l1, (fun n => (Lit.int .i64 n).wf = true) x) → numnahlaw08_RulesSized.f a0.f0 a0.f1 l1 = some true
end Go.Proofs.YtaafeallcaiooaaGreat.Pr
