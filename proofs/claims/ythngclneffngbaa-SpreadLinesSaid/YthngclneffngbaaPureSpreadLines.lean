/- Line and Deviation answer as the reference does, or ErrArg: for every scale, points and int. -/
import Derived.Test.YthngclneffngbaaPrB2
import Derived.Test.YthngclneffngbaaHAw
import Derived.Test.YthngclneffngbaaHR
namespace Go.Proofs.Ythngclneffngbaa.Pr
open Go.RowKit Go.Proofs.YthngclneffngbaaW.PrintWords Go.Proofs.YthngclneffngbaaW.PrintLast Go.Proofs.YthngclneffngbaaW.PrintMore
set_option linter.unusedVariables false

theorem SpreadLines_pure : numnahlaw03_SpreadLines.Pure := by
  intro s l1 t _ _ hl _ _
  have hlen : (l1.take 61).length ≤ 61 := List.length_take_le _ _
  have hlist := list_eq l1 hl
  generalize l1.take 61 = l at hlen hlist
  refine Evt.ex ?_
  unfold numnahlaw03_SpreadLines.f
  rw [hlist]
  simp only [Option.bind_some]
  unfold spread_Line.f spread_Deviation.f
  by_cases ok : okLine s l = true
  · obtain ⟨b1, b2, b3, b4⟩ := okLine_bounds ok
    have hp := points_ev s l hlen
    rw [ok] at hp
    rw [if_pos ok]
    simp only [Option.bind_some]
    by_cases hin : 0 ≤ t ∧ t ≤ s
    · rw [if_pos ⟨ok, hin⟩]
      simp only [Option.bind_some]
      refine Evt.bind hp ?_
      simp only [if_true]
      refine Evt.bind (rline_ev s l ok) ?_
      simp
      have hbd := devL_bound s l t (by omega) (by omega) (by omega)
      have hm := bnd_mul (a := l.length) (b := s) (A := 60) (B := 1000) (by omega) (by omega) (by omega) (by omega)
      have hm1 : 1 ≤ (l.length : Int) * s := by
        have := Int.mul_le_mul (a := 1) (b := 1) (c := (l.length : Int)) (d := s) (by omega) (by omega) (by omega) (by omega)
        omega
      refine Evt.step (fun k => by simp only [numnahlaw03_SpreadLines.j0]; rw [if_neg (by simp), if_neg (by omega), decide_eq_false (by omega)]) ?_
      refine Evt.step (g' := fun k => (numnahref03_Deviation.f k s l t).bind fun bt237 => ((numnahref03_Reduced.f k bt237.1 (l.length * s)).bind fun bt239 => (if ((redF (devL s l.length (cnt l) t).1 (l.length * s)).1 == bt239.1 && ((redF (devL s l.length (cnt l) t).1 (l.length * s)).2 == bt239.2)) = true then ((numnahlaw03_awake.f k).bind fun t241 => (some t241)) else (some false)))) (fun k => by simp only [numnahlaw03_SpreadLines.j1]; rw [if_neg (by simp), Int.mul_comm s, wr (by omega) (by omega)]; simp) ?_
      refine Evt.bind (dev_ev s t l (by omega) (by omega) hin) (Evt.bind (reduced_ev _ _ hm1 (by omega) (by omega) (by omega)) ?_)
      simp
      exact Evt.congr awake_ev (fun k => by cases numnahlaw03_awake.f k <;> rfl)
    · rw [if_neg (fun h => hin h.2)]
      simp only [Option.bind_some]
      refine Evt.bind hp ?_
      simp only [if_true]
      refine Evt.bind (rline_ev s l ok) ?_
      simp
      refine Evt.step (g' := fun k => numnahlaw03_SpreadLines.j1 k s t l 2 true 0 0) (fun k => ?_) (Evt.step (g' := fun k => (numnahlaw03_awake.f k).bind fun t236 => (some t236)) (fun k => ?_) ?_)
      · simp only [numnahlaw03_SpreadLines.j0]
        rw [if_neg (by simp)]
        by_cases h0 : t < 0
        · rw [if_pos h0]
        · rw [if_neg h0, decide_eq_true (by omega)]
      · simp only [numnahlaw03_SpreadLines.j1]
        simp
      · exact Evt.congr awake_ev (fun k => by cases numnahlaw03_awake.f k <;> rfl)
  · have hp := points_ev s l hlen
    rw [Bool.not_eq_true] at ok
    rw [ok] at hp
    rw [if_neg (by rw [ok]; simp), if_neg (fun h => by rw [ok] at h; simp at h)]
    simp only [Option.bind_some]
    refine Evt.bind hp ?_
    simp
    exact Evt.congr awake_ev (fun k => by cases numnahlaw03_awake.f k <;> rfl)
end Go.Proofs.Ythngclneffngbaa.Pr
namespace Go.Proofs.Ythngclneffngbaa.Pure
theorem SpreadLines : Pr.numnahlaw03_SpreadLines.Pure := Pr.SpreadLines_pure
end Go.Proofs.Ythngclneffngbaa.Pure
