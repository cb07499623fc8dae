-- Laid by wip/tools/row.py of this project. Lean checks it.
import Derived.Test.YtaafeallcaiooaaGreatPrD4
import Derived.Test.YtaafeallcaiooaaGreatHOpen
namespace Go.Proofs.YtaafeallcaiooaaGreat.Pr
open Go.RowKit Go.Proofs.YtaafeallcaiooaaGreatW.PrintWords Go.Proofs.YtaafeallcaiooaaGreatW.PrintLast Go.Proofs.YtaafeallcaiooaaGreatW.PrintMore
set_option linter.unusedVariables false
theorem opens94 : Opens Tryz.prog 94 k94 (fun x : S94 => x.f0.size ≤ maxLen ∧ x.f1.size ≤ maxLen) := opens_iso (fun x : S94 => (x.f0, x.f1)) (fun p => ⟨p.1, p.2⟩) (fun _ => rfl) (opens_struct2 Tryz.underlying94 (opens_string Tryz.underlying9) (opens_string Tryz.underlying9) rfl (by kernel_rfl) (by kernel_rfl))
theorem opens35 : Opens Tryz.prog 35 (Kd.slice 94 k94) (fun xs => xs.length ≤ maxLen ∧ ∀ x ∈ xs, (fun x : S94 => x.f0.size ≤ maxLen ∧ x.f1.size ≤ maxLen) x) := opens_slice Tryz.underlying35 opens94 (by kernel_rfl)
theorem opens36 : Opens Tryz.prog 36 (Kd.slice 9 Kd.string) (fun xs => xs.length ≤ maxLen ∧ ∀ x ∈ xs, (fun s : ByteArray => s.size ≤ maxLen) x) := opens_slice Tryz.underlying36 (opens_string Tryz.underlying9) (by kernel_rfl)
/-- THE PURE STATEMENT of numnahlaw08_RulesLoops -/
def numnahlaw08_RulesLoops.Pure : Prop := ∀ (l0 : List S94) (l1 : List ByteArray), l0.length ≤ maxLen → l0.length * 32 ≤ 140737488351232 → (∀ x ∈ l0, (fun x : S94 => x.f0.size ≤ maxLen ∧ x.f1.size ≤ maxLen) x) → l1.length ≤ maxLen → l1.length * 16 ≤ 140737488351232 → (∀ x ∈ l1, (fun s : ByteArray => s.size ≤ maxLen) x) → ∃ k, numnahlaw08_RulesLoops.f k l0 l1 = some true
end Go.Proofs.YtaafeallcaiooaaGreat.Pr
