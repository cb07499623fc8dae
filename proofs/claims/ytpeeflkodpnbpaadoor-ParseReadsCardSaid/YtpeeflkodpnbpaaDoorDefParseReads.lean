-- Laid by wip/tools/row.py of this project. Lean checks it.
import Derived.Test.YtpeeflkodpnbpaaDoorPrB14
import Derived.Test.YtpeeflkodpnbpaaDoorHOpen
namespace Go.Proofs.YtpeeflkodpnbpaaDoor.Pr
open Go.RowKit Go.Proofs.YtpeeflkodpnbpaaDoorW.PrintWords Go.Proofs.YtpeeflkodpnbpaaDoorW.PrintLast Go.Proofs.YtpeeflkodpnbpaaDoorW.PrintMore
set_option linter.unusedVariables false
theorem opens63 : Opens Tryd.prog 63 k63 (fun x => (Lit.int .i64 x.f0).wf = true ∧ (Lit.int .i64 x.f1).wf = true) := opens_iso (fun x : S63 => (x.f0, x.f1)) (fun p => ⟨p.1, p.2⟩) (fun _ => rfl) (opens_struct2 Tryd.underlying63 (opens_int Tryd.underlying3) (opens_int Tryd.underlying3) rfl (by kernel_rfl) (by kernel_rfl))
theorem opens23 : Opens Tryd.prog 23 (Kd.slice 63 k63) (fun xs => xs.length ≤ maxLen ∧ ∀ x ∈ xs, (fun x : S63 => (Lit.int .i64 x.f0).wf = true ∧ (Lit.int .i64 x.f1).wf = true) x) := opens_slice Tryd.underlying23 opens63 (by kernel_rfl)
/-- THE PURE STATEMENT of numnahlaw09_ParseReads -/
def numnahlaw09_ParseReads.Pure : Prop := ∀ (l0 : List S63) (a1 : ByteArray), l0.length ≤ maxLen → l0.length * 16 ≤ 140737488351232 → (∀ x ∈ l0, (fun x => (Lit.int .i64 x.f0).wf = true ∧ (Lit.int .i64 x.f1).wf = true) x) → a1.size ≤ 140737488351232 → ∃ k, numnahlaw09_ParseReads.f k l0 a1 = some true
end Go.Proofs.YtpeeflkodpnbpaaDoor.Pr
