-- Laid by wip/tools/row.py of this project. Lean checks it.
import Derived.Test.YtaafeallcaiooaaGreatPrC1
import Derived.Test.YtaafeallcaiooaaGreatHOpen
namespace Go.Proofs.YtaafeallcaiooaaGreat.Pr
open Go.RowKit Go.Proofs.YtaafeallcaiooaaGreatW.PrintWords Go.Proofs.YtaafeallcaiooaaGreatW.PrintLast Go.Proofs.YtaafeallcaiooaaGreatW.PrintMore
set_option linter.unusedVariables false
theorem opens61 : Opens Tryz.prog 61 k61 (fun x => x.f0.size ≤ maxLen ∧ x.f1.size ≤ maxLen ∧ x.f2.size ≤ maxLen) := opens_iso (fun x : S61 => (x.f0, x.f1, x.f2)) (fun p => ⟨p.1, p.2.1, p.2.2⟩) (fun _ => rfl) (opens_arr3S Tryz.underlying61 Tryz.underlying9 (by kernel_rfl) (by kernel_rfl))
/-- THE PURE STATEMENT of numnahlaw08_RulesOrdered -/
def numnahlaw08_RulesOrdered.Pure : Prop := ∀ (a0 : Int) (a1 : S61), (Lit.int .i64 a0).wf = true → (fun x : S61 => x.f0.size ≤ maxLen ∧ x.f1.size ≤ maxLen ∧ x.f2.size ≤ maxLen) a1 → ∃ k, numnahlaw08_RulesOrdered.f k a0 a1.f0 a1.f1 a1.f2 = some true
end Go.Proofs.YtaafeallcaiooaaGreat.Pr
