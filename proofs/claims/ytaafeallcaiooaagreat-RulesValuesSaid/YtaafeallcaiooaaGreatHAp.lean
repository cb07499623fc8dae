/- the reference's Apply. -/
import Derived.Test.YtaafeallcaiooaaGreatHPt
import Derived.Test.YtaafeallcaiooaaGreatHPn
namespace Go.Proofs.YtaafeallcaiooaaGreat.Pr
open Go.RowKit Go.Proofs.YtaafeallcaiooaaGreatW.PrintWords Go.Proofs.YtaafeallcaiooaaGreatW.PrintLast Go.Proofs.YtaafeallcaiooaaGreatW.PrintMore
set_option linter.unusedVariables false
set_option linter.unusedSimpArgs false
def isVarI (c : Int) : Bool := decide (c ≥ 120) && decide (c ≤ 122)
theorem isvar_calls (c : Int) (w : World) : Calls Tryz.prog 74 #[.int .u8 c] w fun e w' => e = .returned (.bool (isVarI c)) ∧ w' = w := by
  unfold isVarI
  by_cases h1 : c ≥ 120
  · by_cases h2 : c ≤ 122
    · have d1 : decide (c ≥ 120) = true := decide_eq_true h1
      have d2 : decide (c ≤ 122) = true := decide_eq_true h2
      rw [d1, d2]
      clear h1 h2
      go_enter Tryz.func74, Tryz.ntmps74
      go_wp2
      go_ret
      exact ⟨rfl, rfl⟩
    · have d1 : decide (c ≥ 120) = true := decide_eq_true h1
      have d2 : decide (c ≤ 122) = false := decide_eq_false h2
      rw [d1, d2]
      clear h1 h2
      go_enter Tryz.func74, Tryz.ntmps74
      go_wp2
      go_ret
      exact ⟨rfl, rfl⟩
  · have d1 : decide (c ≥ 120) = false := decide_eq_false h1
    rw [d1]
    clear h1
    go_enter Tryz.func74, Tryz.ntmps74
    go_wp2
    go_ret
    exact ⟨rfl, rfl⟩
/-- what stands for a character -/
def applyC (s0 s1 s2 : List UInt8) (c : UInt8) : List UInt8 := if c = 120 then s0 else if c = 121 then s1 else if c = 122 then s2 else [c]
def applyL (s0 s1 s2 l : List UInt8) : List UInt8 := l.flatMap (applyC s0 s1 s2)
end Go.Proofs.YtaafeallcaiooaaGreat.Pr
