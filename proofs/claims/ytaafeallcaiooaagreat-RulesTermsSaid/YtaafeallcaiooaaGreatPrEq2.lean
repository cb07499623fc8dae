-- Laid by wip/tools/inj.py of this project, which drives the kit's printer. Lean checks it.
import Derived.Test.YtaafeallcaiooaaGreatPr0
namespace Go.Proofs.YtaafeallcaiooaaGreat.Pr
open Go.RowKit Go.Proofs.YtaafeallcaiooaaGreatW.PrintWords Go.Proofs.YtaafeallcaiooaaGreatW.PrintLast Go.Proofs.YtaafeallcaiooaaGreatW.PrintMore
attribute [local go_sem] max2_int min2_int max_two min_two max_three min_three max_four min_four   -- for this text's walks alone
set_option linter.unusedVariables false
set_option linter.unusedSimpArgs false

theorem eqA61 (d : Nat) (w : World) (x0 y0 : ByteArray) (x1 y1 : ByteArray) (x2 y2 : ByteArray) :
    (Op.equalIn (d + 2) 61 (.agg #[.string x0, .string x1, .string x2]) (.agg #[.string y0, .string y1, .string y2])).run Tryz.prog w = .ok (x0.toList == y0.toList && (x1.toList == y1.toList && (x2.toList == y2.toList))) w := by
  rw [Op.equalIn]
  have hs : (sizeOf 9).run Tryz.prog w = .ok 1 w := by go_simp
  have p0 : (part 9 #[.string x0, .string x1, .string x2] 0).run Tryz.prog w = .ok (.string x0) w := by go_simp; try rfl
  have p1 : (part 9 #[.string x0, .string x1, .string x2] 1).run Tryz.prog w = .ok (.string x1) w := by go_simp; try rfl
  have p2 : (part 9 #[.string x0, .string x1, .string x2] 2).run Tryz.prog w = .ok (.string x2) w := by go_simp; try rfl
  have q0 : (part 9 #[.string y0, .string y1, .string y2] 0).run Tryz.prog w = .ok (.string y0) w := by go_simp; try rfl
  have q1 : (part 9 #[.string y0, .string y1, .string y2] 1).run Tryz.prog w = .ok (.string y1) w := by go_simp; try rfl
  have q2 : (part 9 #[.string y0, .string y1, .string y2] 2).run Tryz.prog w = .ok (.string y2) w := by go_simp; try rfl
  have e0 : (Op.equalIn (d + 1) 9 (.string x0) (.string y0)).run Tryz.prog w = .ok (x0.toList == y0.toList) w := by go_simp
  have e1 : (Op.equalIn (d + 1) 9 (.string x1) (.string y1)).run Tryz.prog w = .ok (x1.toList == y1.toList) w := by go_simp
  have e2 : (Op.equalIn (d + 1) 9 (.string x2) (.string y2)).run Tryz.prog w = .ok (x2.toList == y2.toList) w := by go_simp
  simp only [Sem.run_bind, run_underlying Tryz.underlying61, Result.andThen_ok, hs]
  generalize (x0.toList == y0.toList) = r0 at e0 ⊢
  generalize (x1.toList == y1.toList) = r1 at e1 ⊢
  generalize (x2.toList == y2.toList) = r2 at e2 ⊢
  cases r0 <;> cases r1 <;> cases r2 <;> simp [List.range', p0, p1, p2, q0, q1, q2, e0, e1, e2]

end Go.Proofs.YtaafeallcaiooaaGreat.Pr
