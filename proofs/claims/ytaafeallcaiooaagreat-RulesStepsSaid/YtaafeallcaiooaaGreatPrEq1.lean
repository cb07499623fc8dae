import Derived.Test.YtaafeallcaiooaaGreatPr0
namespace Go.Proofs.YtaafeallcaiooaaGreat.Pr
open Go.RowKit Go.Proofs.Zw Go.Proofs.Zl Go.Proofs.Zm
attribute [local go_sem] max2_int min2_int max_two min_two max_three min_three max_four min_four
set_option linter.unusedVariables false
set_option linter.unusedSimpArgs false
theorem eqA25 (d:Nat) (w:World) (x0 y0:Int) (x1 y1:Int) (x2 y2:Int) (x3 y3:Int) :
    (Op.equalIn (d+2) 25 (.agg #[.int .i64 x0,.int .i64 x1,.int .i64 x2,.int .i64 x3]) (.agg #[.int .i64 y0,.int .i64 y1,.int .i64 y2,.int .i64 y3])).run Tryz.prog w=.ok (x0 == y0 && (x1 == y1 && (x2 == y2 && (x3 == y3)))) w:=by
  rw [Op.equalIn]
  have hs:(sizeOf 3).run Tryz.prog w=.ok 1 w:=by go_simp
  have p0:(part 3 #[.int .i64 x0,.int .i64 x1,.int .i64 x2,.int .i64 x3] 0).run Tryz.prog w=.ok (.int .i64 x0) w:=by go_simp;try rfl
  have p1:(part 3 #[.int .i64 x0,.int .i64 x1,.int .i64 x2,.int .i64 x3] 1).run Tryz.prog w=.ok (.int .i64 x1) w:=by go_simp;try rfl
  have p2:(part 3 #[.int .i64 x0,.int .i64 x1,.int .i64 x2,.int .i64 x3] 2).run Tryz.prog w=.ok (.int .i64 x2) w:=by go_simp;try rfl
  have p3:(part 3 #[.int .i64 x0,.int .i64 x1,.int .i64 x2,.int .i64 x3] 3).run Tryz.prog w=.ok (.int .i64 x3) w:=by go_simp;try rfl
  have q0:(part 3 #[.int .i64 y0,.int .i64 y1,.int .i64 y2,.int .i64 y3] 0).run Tryz.prog w=.ok (.int .i64 y0) w:=by go_simp;try rfl
  have q1:(part 3 #[.int .i64 y0,.int .i64 y1,.int .i64 y2,.int .i64 y3] 1).run Tryz.prog w=.ok (.int .i64 y1) w:=by go_simp;try rfl
  have q2:(part 3 #[.int .i64 y0,.int .i64 y1,.int .i64 y2,.int .i64 y3] 2).run Tryz.prog w=.ok (.int .i64 y2) w:=by go_simp;try rfl
  have q3:(part 3 #[.int .i64 y0,.int .i64 y1,.int .i64 y2,.int .i64 y3] 3).run Tryz.prog w=.ok (.int .i64 y3) w:=by go_simp;try rfl
  have e0:(Op.equalIn (d+1) 3 (.int .i64 x0) (.int .i64 y0)).run Tryz.prog w=.ok (x0 == y0) w:=by go_simp
  have e1:(Op.equalIn (d+1) 3 (.int .i64 x1) (.int .i64 y1)).run Tryz.prog w=.ok (x1 == y1) w:=by go_simp
  have e2:(Op.equalIn (d+1) 3 (.int .i64 x2) (.int .i64 y2)).run Tryz.prog w=.ok (x2 == y2) w:=by go_simp
  have e3:(Op.equalIn (d+1) 3 (.int .i64 x3) (.int .i64 y3)).run Tryz.prog w=.ok (x3 == y3) w:=by go_simp
  simp only [Sem.run_bind,run_underlying Tryz.underlying25,Result.andThen_ok,hs]
  generalize (x0 == y0)=r0 at e0 ⊢
  generalize (x1 == y1)=r1 at e1 ⊢
  generalize (x2 == y2)=r2 at e2 ⊢
  generalize (x3 == y3)=r3 at e3 ⊢
  cases r0<;>cases r1<;>cases r2<;>cases r3<;>simp [List.range',p0,p1,p2,p3,q0,q1,q2,q3,e0,e1,e2,e3]
end Go.Proofs.YtaafeallcaiooaaGreat.Pr
