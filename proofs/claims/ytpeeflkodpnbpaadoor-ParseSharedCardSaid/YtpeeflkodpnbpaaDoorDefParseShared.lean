-- Laid by wip/tools/row.py of this project. Lean checks it.
import Derived.Test.YtpeeflkodpnbpaaDoorPrB7
import Derived.Test.YtpeeflkodpnbpaaDoorHOpen
namespace Go.Proofs.YtpeeflkodpnbpaaDoor.Pr
open Go.RowKit Go.Proofs.YtpeeflkodpnbpaaDoorW.PrintWords Go.Proofs.YtpeeflkodpnbpaaDoorW.PrintLast Go.Proofs.YtpeeflkodpnbpaaDoorW.PrintMore
set_option linter.unusedVariables false
structure S56 where
  f0 : Int
  f1 : Int
def k56 : Kd S56 := Kd.iso (Kd.pair (Kd.int .i64) (Kd.int .i64)) (fun x : S56 => (x.f0, x.f1))
theorem k56_open {w : World} {x : S56} {cs : List Value} (h : k56.K w x cs) : cs = [.int .i64 x.f0, .int .i64 x.f1] := by
  obtain ⟨_, _, rfl, rfl, rfl⟩ := h
  exact rfl
theorem opens56 : Opens Tryd.prog 56 k56 (fun x => (Lit.int .i64 x.f0).wf = true ∧ (Lit.int .i64 x.f1).wf = true) := opens_iso (fun x : S56 => (x.f0, x.f1)) (fun p => ⟨p.1, p.2⟩) (fun _ => rfl) (opens_arr2 Tryd.underlying56 Tryd.underlying3 (by kernel_rfl) (by kernel_rfl))
/-- THE PURE STATEMENT of numnahlaw09_ParseShared -/
def numnahlaw09_ParseShared.Pure : Prop := ∀ (a0 : ByteArray) (a1 : ByteArray) (a2 : S56), a0.size ≤ 140737488351232 → a1.size ≤ 140737488351232 → (fun x => (Lit.int .i64 x.f0).wf = true ∧ (Lit.int .i64 x.f1).wf = true) a2 → ∃ k, numnahlaw09_ParseShared.f k a0 a1 a2.f0 a2.f1 = some true
end Go.Proofs.YtpeeflkodpnbpaaDoor.Pr
