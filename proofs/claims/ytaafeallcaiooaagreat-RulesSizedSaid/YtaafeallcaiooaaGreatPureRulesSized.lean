/- RulesSized: sizes and values of terms out of those of their parts. -/
import Derived.Test.YtaafeallcaiooaaGreatDefRulesSized
namespace Go.Proofs.YtaafeallcaiooaaGreat.Pure
open Go.RowKit Go.Proofs.YtaafeallcaiooaaGreat.Pr
theorem RulesSized : numnahlaw08_RulesSized.Pure := by
  intro a l h1 h2 h3 h4
  exact if_pos ⟨Nat.le_trans h1.1 (by decide), Nat.le_trans h1.2 (by decide), Nat.le_trans h2 (by decide)⟩
end Go.Proofs.YtaafeallcaiooaaGreat.Pure
