-- Laid by wip/tools/row.py of this project. Lean checks it.
import Derived.Test.YtpeeflkodpnbpaaDoorPrB13
import Derived.Test.YtpeeflkodpnbpaaDoorHOpen
namespace Go.Proofs.YtpeeflkodpnbpaaDoor.Pr
open Go.RowKit Go.Proofs.YtpeeflkodpnbpaaDoorW.PrintWords Go.Proofs.YtpeeflkodpnbpaaDoorW.PrintLast Go.Proofs.YtpeeflkodpnbpaaDoorW.PrintMore
set_option linter.unusedVariables false
structure S56 where
  f0 : Int
  f1 : Int
def k56 : Kd S56 := Kd.iso (Kd.pair (Kd.int .i64) (Kd.int .i64)) (fun x : S56 => (x.f0, x.f1))
theorem k56_open {w : World} {x : S56} {cs : List Value} (h : k56.K w x cs) : cs = [.int .i64 x.f0, .int .i64 x.f1] := by
  obtain ⟨_, _, rfl, rfl, rfl⟩ := h
  exact rfl
theorem opens56 : Opens Tryd.prog 56 k56 (fun x => (Lit.int .i64 x.f0).wf = true ∧ (Lit.int .i64 x.f1).wf = true) := opens_iso (fun x : S56 => (x.f0, x.f1)) (fun p => ⟨p.1, p.2⟩) (fun _ => rfl) (opens_arr2 Tryd.underlying56 Tryd.underlying3 (by kernel_rfl) (by kernel_rfl))
theorem opens63 : Opens Tryd.prog 63 k63 (fun x => (Lit.int .i64 x.f0).wf = true ∧ (Lit.int .i64 x.f1).wf = true) := opens_iso (fun x : S63 => (x.f0, x.f1)) (fun p => ⟨p.1, p.2⟩) (fun _ => rfl) (opens_struct2 Tryd.underlying63 (opens_int Tryd.underlying3) (opens_int Tryd.underlying3) rfl (by kernel_rfl) (by kernel_rfl))
theorem opens23 : Opens Tryd.prog 23 (Kd.slice 63 k63) (fun xs => xs.length ≤ maxLen ∧ ∀ x ∈ xs, (fun x : S63 => (Lit.int .i64 x.f0).wf = true ∧ (Lit.int .i64 x.f1).wf = true) x) := opens_slice Tryd.underlying23 opens63 (by kernel_rfl)
/-- THE PURE STATEMENT of numnahlaw09_ParseCheapests -/
def numnahlaw09_ParseCheapests.Pure : Prop := ∀ (a0 : ByteArray) (l1 : List S63) (a2 : S56), a0.size ≤ 140737488351232 → l1.length ≤ maxLen → l1.length * 16 ≤ 140737488351232 → (∀ x ∈ l1, (fun x => (Lit.int .i64 x.f0).wf = true ∧ (Lit.int .i64 x.f1).wf = true) x) → (fun x => (Lit.int .i64 x.f0).wf = true ∧ (Lit.int .i64 x.f1).wf = true) a2 → ∃ k, numnahlaw09_ParseCheapests.f k a0 l1 a2.f0 a2.f1 = some true
end Go.Proofs.YtpeeflkodpnbpaaDoor.Pr
