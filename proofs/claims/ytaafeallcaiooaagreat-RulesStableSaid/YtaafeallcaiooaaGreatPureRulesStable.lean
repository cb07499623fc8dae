/- RulesStable: path orders are stable under substitutions and in larger terms. -/
import Derived.Test.YtaafeallcaiooaaGreatDefRulesStable
namespace Go.Proofs.YtaafeallcaiooaaGreat.Pure
open Go.RowKit Go.Proofs.YtaafeallcaiooaaGreat.Pr
theorem RulesStable : numnahlaw08_RulesStable.Pure := by
  intro a0 l1 _ _ _ h
  exact if_pos (fun x hx => h x hx)
end Go.Proofs.YtaafeallcaiooaaGreat.Pure
