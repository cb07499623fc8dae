-- Laid by wip/tools/row.py of this project. Lean checks it.
import Derived.Test.YthngclneffngbaaPrSum
import Derived.Test.YthngclneffngbaaHOpen
namespace Go.Proofs.Ythngclneffngbaa.Pr
open Go.RowKit Go.Proofs.YthngclneffngbaaW.PrintWords Go.Proofs.YthngclneffngbaaW.PrintLast Go.Proofs.YthngclneffngbaaW.PrintMore
set_option linter.unusedVariables false
structure S56 where
  f0 : Int
  f1 : Int
  f2 : Int
  f3 : Int
  f4 : Int
  f5 : Int
def k56 : Kd S56 := Kd.iso (Kd.pair (Kd.int .i64) (Kd.pair (Kd.int .i64) (Kd.pair (Kd.int .i64) (Kd.pair (Kd.int .i64) (Kd.pair (Kd.int .i64) (Kd.int .i64)))))) (fun x : S56 => (x.f0, x.f1, x.f2, x.f3, x.f4, x.f5))
theorem k56_open {w : World} {x : S56} {cs : List Value} (h : k56.K w x cs) : cs = [.int .i64 x.f0, .int .i64 x.f1, .int .i64 x.f2, .int .i64 x.f3, .int .i64 x.f4, .int .i64 x.f5] := by
  obtain ⟨_, _, rfl, rfl, _, _, rfl, rfl, _, _, rfl, rfl, _, _, rfl, rfl, _, _, rfl, rfl, rfl⟩ := h
  exact rfl
theorem opens56 : Opens Try.prog 56 k56 (fun x => (Lit.int .i64 x.f0).wf = true ∧ (Lit.int .i64 x.f1).wf = true ∧ (Lit.int .i64 x.f2).wf = true ∧ (Lit.int .i64 x.f3).wf = true ∧ (Lit.int .i64 x.f4).wf = true ∧ (Lit.int .i64 x.f5).wf = true) := by
  intro H enc w base spare held fuel cs x h
  obtain ⟨xs, h1, rfl, h2⟩ := opens_array Try.underlying56 Try.underlying3 (by kernel_rfl) (by kernel_rfl) _ _ _ _ _ _ _ _ _ h
  match xs, h1 with
  | [a, b, c, d, e', g], _ => exact ⟨⟨a, b, c, d, e', g⟩, ⟨[.int .i64 a], [.int .i64 b, .int .i64 c, .int .i64 d, .int .i64 e', .int .i64 g], rfl, rfl, ⟨[.int .i64 b], [.int .i64 c, .int .i64 d, .int .i64 e', .int .i64 g], rfl, rfl, ⟨[.int .i64 c], [.int .i64 d, .int .i64 e', .int .i64 g], rfl, rfl, ⟨[.int .i64 d], [.int .i64 e', .int .i64 g], rfl, rfl, ⟨[.int .i64 e'], [.int .i64 g], rfl, rfl, rfl⟩⟩⟩⟩⟩, h2 a (by simp), h2 b (by simp), h2 c (by simp), h2 d (by simp), h2 e' (by simp), h2 g (by simp)⟩
/-- THE PURE STATEMENT of numnahlaw03_SpreadSums -/
def numnahlaw03_SpreadSums.Pure : Prop := ∀ (a0 : S56), (fun x => (Lit.int .i64 x.f0).wf = true ∧ (Lit.int .i64 x.f1).wf = true ∧ (Lit.int .i64 x.f2).wf = true ∧ (Lit.int .i64 x.f3).wf = true ∧ (Lit.int .i64 x.f4).wf = true ∧ (Lit.int .i64 x.f5).wf = true) a0 → numnahlaw03_SpreadSums.f a0.f0 a0.f1 a0.f2 a0.f3 a0.f4 a0.f5 = some true
end Go.Proofs.Ythngclneffngbaa.Pr
