-- Laid by wip/tools/row.py of this project. Lean checks it.
import Derived.Test.YthngclneffngbaaRows
import Derived.Test.YthngclneffngbaaDefSpreadSheets
import Derived.Test.YthngclneffngbaaPureSpreadSheets
import Derived.Test.YthngclneffngbaaWSized
import Derived.WalkKit
import Derived.ProofKit
import Derived.OpenShut
import Derived.ShutString
import Derived.ChangeOld
import Derived.Below
import Derived.SizedLaws
import Derived.Carry
namespace Go.Proofs.Ythngclneffngbaa.spreadSheets
open Go.ChangeShapes Go.WideShapes Go.ChangeAt Go.RowKit Go.Proofs.YthngclneffngbaaW.PrintWords Go.Proofs.Ythngclneffngbaa.Pr
open Go.ChangeMaps (open_string shut_string)
set_option linter.unusedVariables false
theorem own : ownKnob Try.prog.godebug = none := by kernel_rfl
theorem laidOut : laidOutB Try.prog = true := by kernel_rfl
set_option maxRecDepth 100000 in
theorem lifted (os : Os) (started : os.Started) (H : Type) (enc : TypeId × Value → H) :
    ReturnsInHanded {} Try.checked os 11 .any (Rows.spreadSheetsSpec.pre6 enc Try.prog Try.f11 Rows.spreadSheetsRow.domain false) (Rows.spreadSheetsSpec.post enc Try.prog Try.f11 false true false false) := by
  refine returnsInHanded_of_change_sized (C := Try.checked) own started (by kernel_rfl) Try.func11
    (ChangeSpec.witness6 (enc := enc) (C := Try.checked) false ⟨#[], #[.int .i64 0, .slice none 0 0], []⟩ 8 (by kernel_rfl) (by kernel_rfl) (by kernel_rfl) (by kernel_rfl)) ?_
  intro W base args ds gs before hval0 hW hcnd hsz0 _
  have hsz : (DataW.weightsEach Try.prog (Try.f11.params.toList ++ Rows.spreadSheetsSpec.plain.varTypes Try.prog) (ds ++ gs)).all (· ≤ reachBytes) = true := hsz0
  have hval : ∀ (j : Nat) t v, Try.f11.params[j]? = some t → args[j]? = some v → Value.okWide Try.prog W .any base t v := hval0
  have hW' := hW
  obtain ⟨p, q, hA0, hV, rfl, hfz, hnd⟩ := hW
  have hA : DataW.TrodAll enc Try.prog W 0 (fun _ => true) true Try.f11.params.toList args.toList ds p := hA0
  rw [Try.params11] at hA hval hsz
  obtain ⟨v0, vs0, d0, ds0, p0, q0, hargs, rfl, rfl, h0, r0⟩ := trodAll_cons hA
  obtain ⟨v1, vs1, d1, ds1, p1, q1, rfl, rfl, rfl, h1, r1⟩ := trodAll_cons r0
  obtain ⟨rfl, rfl, rfl⟩ := trodAll_nil r1
  obtain rfl : args = #[v0, v1] := by cases args; simp_all
  obtain ⟨rfl, rfl⟩ := trodVars_none hV
  have k0 := h0
  have lt0 : ∀ x ∈ p0, x.block < W.heap.size := by obtain ⟨m, hm⟩ := k0; exact DataW.trod_lt m _ _ _ hm
  obtain ⟨a0, rfl, rfl, rfl, w0⟩ := open_int Try.underlying3 (hval 0 3 v0 rfl rfl) h0
  have k1 := h1
  have lt1 : ∀ x ∈ p1, x.block < W.heap.size := by obtain ⟨m, hm⟩ := k1; exact DataW.trod_lt m _ _ _ hm
  obtain ⟨A1, len1, cap1, rfl⟩ := okWide_slice Try.underlying46 (hval 1 46 v1 rfl rfl)
  have y1 : len1 * 16 ≤ 140737488351232 := sized_any hsz (j := 1) (t := 46) rfl rfl Try.underlying46 (by kernel_rfl) h1
  obtain ⟨l1, e1, m1, w1⟩ : ∃ l : List S50, (Kd.slice 50 k50).K W l [.slice A1 len1 cap1] ∧ l.length ≤ maxLen ∧ ∀ x ∈ l, (fun x => (Lit.int .i64 x.f0).wf = true ∧ (Lit.int .i64 x.f1).wf = true) x := by
    obtain ⟨fuel, hf⟩ := h1
    obtain ⟨l, h1, h2, h3⟩ := opens46 _ _ _ _ _ _ _ _ _ hf
    exact ⟨l, h1, h2, h3⟩
  obtain ⟨A1', c1', e1', hc1, hr1⟩ := e1
  simp only [List.cons.injEq, Value.slice.injEq, and_true] at e1'
  obtain ⟨rfl, rfl, rfl⟩ := e1'
  clear hA0 hval0 hsz0 hsz
  obtain ⟨k, hk⟩ := Pure.SpreadSheets a0 l1 w0 m1 y1 w1
  refine (numnahlaw03_SpreadSheets.calls k a0 _ _ l1 true W hr1 hc1 hk).mono fun e W' ⟨he, bel0⟩ => ?_
  have bel : Below W.heap.size W W' := bel0
  subst he
  exact ⟨_, rfl, _, _, _, [], _, [], hW', trodAll_mk1 (shut_bool Try.underlying4 _), (trodAll_cons_mk (Below.trod laidOut (by kernel_rfl) (of_decide_eq_true (by kernel_rfl)) k0 bel lt0) (trodAll_cons_mk (Below.trod laidOut (by kernel_rfl) (of_decide_eq_true (by kernel_rfl)) k1 bel lt1) trodAll_mk0)), rfl, bel.frame _, fun h => by cases h⟩
theorem over : Rows.spreadSheetsRow.holds Try.pinned (OpenSpec.ofChange Rows.spreadSheetsSpec) :=
  OpenClaim.holds_of_wide 11 Try.f11 rfl rfl rfl rfl rfl rfl rfl ⟨rfl, rfl, rfl, rfl, rfl⟩ rfl rfl rfl rfl rfl (by kernel_rfl) Try.func11 (by kernel_rfl)
    (of_decide_eq_true (by kernel_rfl)) (by unfold Func.isWrapper; first | (rw [if_pos (by decide +kernel)]; kernel_rfl) | (rw [if_neg (by decide +kernel)]; exact ⟨rfl, rfl⟩))
    (fun os started H enc _ => lifted os started H enc)
theorem proved : Rows.SpreadSheetsSaid := over
#print axioms proved
end Go.Proofs.Ythngclneffngbaa.spreadSheets
namespace Go.Proofs.Ythngclneffngbaa
/-- The row, under a short name, for the claim. -/
theorem spreadSheets_holds : Rows.SpreadSheetsSaid := spreadSheets.proved
end Go.Proofs.Ythngclneffngbaa
