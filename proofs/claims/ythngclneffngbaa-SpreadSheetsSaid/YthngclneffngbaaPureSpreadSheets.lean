/- Sheet returns the discrepancy, the first place that gives it and from which count, or ErrArg: for any scale and pairs. -/
import Derived.Test.YthngclneffngbaaDefSpreadSheets
import Derived.Test.YthngclneffngbaaHShQ
import Derived.Test.YthngclneffngbaaHAw
namespace Go.Proofs.Ythngclneffngbaa.Pure
open Go.RowKit Go.Proofs.Ythngclneffngbaa.Pr Go.Proofs.YthngclneffngbaaW.PrintWords Go.Proofs.YthngclneffngbaaW.PrintLast Go.Proofs.YthngclneffngbaaW.PrintMore
set_option linter.unusedVariables false
theorem awake_bindS : Evt (fun k => (numnahlaw03_awake.f k).bind fun t => some t) true := Evt.congr awake_ev (fun k => by cases numnahlaw03_awake.f k <;> rfl)
theorem SpreadSheets : Pr.numnahlaw03_SpreadSheets.Pure := by
  intro a0 l1 _ _ hl _
  refine Evt.ex (g := fun k => numnahlaw03_SpreadSheets.f k a0 l1) ?_
  unfold numnahlaw03_SpreadSheets.f
  refine Evt.bind (Evt.const (pairs_eq l1 hl)) ?_
  obtain ⟨l, hl2⟩ : ∃ l, l = l1.take 61 := ⟨_, rfl⟩
  have hlen : l.length ≤ 61 := by rw [hl2, List.length_take]; omega
  rw [← hl2]
  have hp := plane_ev a0 l hlen
  by_cases ok : okSheet a0 l = true
  · rw [ok] at hp
    have hs := spread_Sheet.f.eq_1 a0 l
    rw [if_pos ok] at hs
    refine Evt.bind (Evt.const hs) (Evt.bind hp ?_)
    simp only [if_true]
    refine Evt.bind (rsheet_ev a0 l ok) ?_
    unfold finW
    rw [show a0 * a0 * (l.length : Int) = l.length * a0 * a0 by rw [Int.mul_comm (a0 * a0), Int.mul_assoc]]
    simp only [beq_self_eq_true, Bool.and_self, if_true]
    exact awake_bindS
  · rw [Bool.eq_false_iff.2 ok] at hp
    have hs := spread_Sheet.f.eq_1 a0 l
    rw [if_neg ok] at hs
    refine Evt.bind (Evt.const hs) (Evt.bind hp ?_)
    simp only [beq_self_eq_true, Bool.and_self, if_true, Bool.false_eq_true, if_false]
    exact awake_bindS
end Go.Proofs.Ythngclneffngbaa.Pure
