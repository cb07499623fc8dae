-- Laid by wip/tools/row.py of this project. Lean checks it.
import Derived.Test.YtaafeallcaiooaaGreatRows
import Derived.Test.YtaafeallcaiooaaGreatDefRulesSized
import Derived.Test.YtaafeallcaiooaaGreatPureRulesSized
import Derived.Test.YtaafeallcaiooaaGreatWSized
import Derived.WalkKit
import Derived.ProofKit
import Derived.OpenShut
import Derived.ShutString
import Derived.ChangeOld
import Derived.Below
import Derived.SizedLaws
import Derived.Carry
namespace Go.Proofs.YtaafeallcaiooaaGreat.rulesSized
open Go.ChangeShapes Go.WideShapes Go.ChangeAt Go.RowKit Go.Proofs.YtaafeallcaiooaaGreatW.PrintWords Go.Proofs.YtaafeallcaiooaaGreat.Pr
open Go.ChangeMaps (open_string shut_string)
set_option linter.unusedVariables false
theorem own : ownKnob Tryz.prog.godebug = none := by kernel_rfl
theorem laidOut : laidOutB Tryz.prog = true := by kernel_rfl
set_option maxRecDepth 100000 in
theorem lifted (os : Os) (started : os.Started) (H : Type) (enc : TypeId × Value → H) :
    ReturnsInHanded {} Tryz.checked os 5 .any (Rows.rulesSizedSpec.pre6 enc Tryz.prog Tryz.f5 Rows.rulesSizedRow.domain false) (Rows.rulesSizedSpec.post enc Tryz.prog Tryz.f5 false true false false) := by
  refine returnsInHanded_of_change_sized (C := Tryz.checked) own started (by kernel_rfl) Tryz.func5
    (ChangeSpec.witness6 (enc := enc) (C := Tryz.checked) false ⟨#[], #[.agg #[.string ByteArray.empty, .string ByteArray.empty], .slice none 0 0], []⟩ 8 (by kernel_rfl) (by kernel_rfl) (by kernel_rfl) (by kernel_rfl)) ?_
  intro W base args ds gs before hval0 hW hcnd hsz0 _
  have hsz : (DataW.weightsEach Tryz.prog (Tryz.f5.params.toList ++ Rows.rulesSizedSpec.plain.varTypes Tryz.prog) (ds ++ gs)).all (· ≤ reachBytes) = true := hsz0
  have hval : ∀ (j : Nat) t v, Tryz.f5.params[j]? = some t → args[j]? = some v → Value.okWide Tryz.prog W .any base t v := hval0
  have hW' := hW
  obtain ⟨p, q, hA0, hV, rfl, hfz, hnd⟩ := hW
  have hA : DataW.TrodAll enc Tryz.prog W 0 (fun _ => true) true Tryz.f5.params.toList args.toList ds p := hA0
  rw [Tryz.params5] at hA hval hsz
  obtain ⟨v0, vs0, d0, ds0, p0, q0, hargs, rfl, rfl, h0, r0⟩ := trodAll_cons hA
  obtain ⟨v1, vs1, d1, ds1, p1, q1, rfl, rfl, rfl, h1, r1⟩ := trodAll_cons r0
  obtain ⟨rfl, rfl, rfl⟩ := trodAll_nil r1
  obtain rfl : args = #[v0, v1] := by cases args; simp_all
  obtain ⟨rfl, rfl⟩ := trodVars_none hV
  have k0 := h0
  have lt0 : ∀ x ∈ p0, x.block < W.heap.size := by obtain ⟨m, hm⟩ := k0; exact DataW.trod_lt m _ _ _ hm
  obtain ⟨c0, rfl, _⟩ := okWide_agg Tryz.underlying42 (by rfl) (hval 0 42 v0 rfl rfl)
  obtain ⟨a0, e0, w0⟩ : ∃ a : S94, (k94).K W a c0.toList ∧ (fun x : S94 => x.f0.size ≤ maxLen ∧ x.f1.size ≤ maxLen) a := by
    obtain ⟨fuel, hf⟩ := h0
    obtain ⟨a, h1, h2⟩ := opens42 _ _ _ _ _ _ _ _ _ hf
    exact ⟨a, h1, h2⟩
  obtain rfl : c0 = #[.string a0.f0, .string a0.f1] := by have z := k94_open e0; cases c0; simpa using z
  have k1 := h1
  have lt1 : ∀ x ∈ p1, x.block < W.heap.size := by obtain ⟨m, hm⟩ := k1; exact DataW.trod_lt m _ _ _ hm
  obtain ⟨A1, len1, cap1, rfl⟩ := okWide_slice Tryz.underlying43 (hval 1 43 v1 rfl rfl)
  have y1 : len1 * 8 ≤ 140737488351232 := sized_any hsz (j := 1) (t := 43) rfl rfl Tryz.underlying43 (by kernel_rfl) h1
  obtain ⟨l1, e1, m1, w1⟩ : ∃ l : List Int, (Kd.slice 3 (Kd.int .i64)).K W l [.slice A1 len1 cap1] ∧ l.length ≤ maxLen ∧ ∀ x ∈ l, (fun n => (Lit.int .i64 n).wf = true) x := by
    obtain ⟨fuel, hf⟩ := h1
    obtain ⟨l, h1, h2, h3⟩ := opens43 _ _ _ _ _ _ _ _ _ hf
    exact ⟨l, h1, h2, h3⟩
  obtain ⟨A1', c1', e1', hc1, hr1⟩ := e1
  simp only [List.cons.injEq, Value.slice.injEq, and_true] at e1'
  obtain ⟨rfl, rfl, rfl⟩ := e1'
  clear hA0 hval0 hsz0 hsz
  have hk := Pure.RulesSized a0 l1 w0 m1 y1 w1
  refine (numnahlaw08_RulesSized.calls a0.f0 a0.f1 _ _ l1 true W hr1 hc1 hk).mono fun e W' ⟨he, bel0⟩ => ?_
  have bel : Below W.heap.size W W' := bel0
  subst he
  exact ⟨_, rfl, _, _, _, [], _, [], hW', trodAll_mk1 (shut_bool Tryz.underlying4 _), (trodAll_cons_mk (Below.trod laidOut (by kernel_rfl) (of_decide_eq_true (by kernel_rfl)) k0 bel lt0) (trodAll_cons_mk (Below.trod laidOut (by kernel_rfl) (of_decide_eq_true (by kernel_rfl)) k1 bel lt1) trodAll_mk0)), rfl, bel.frame _, fun h => by cases h⟩
theorem over : Rows.rulesSizedRow.holds Tryz.pinned (OpenSpec.ofChange Rows.rulesSizedSpec) :=
  OpenClaim.holds_of_wide 5 Tryz.f5 rfl rfl rfl rfl rfl rfl rfl ⟨rfl, rfl, rfl, rfl, rfl⟩ rfl rfl rfl rfl rfl (by kernel_rfl) Tryz.func5 (by kernel_rfl)
    (of_decide_eq_true (by kernel_rfl)) (by unfold Func.isWrapper; first | (rw [if_pos (by decide +kernel)]; kernel_rfl) | (rw [if_neg (by decide +kernel)]; exact ⟨rfl, rfl⟩))
    (fun os started H enc _ => lifted os started H enc)
theorem proved : Rows.RulesSizedSaid := over
#print axioms proved
end Go.Proofs.YtaafeallcaiooaaGreat.rulesSized
namespace Go.Proofs.YtaafeallcaiooaaGreat
/-- The row, under a short name, for the claim. -/
theorem rulesSized_holds : Rows.RulesSizedSaid := rulesSized.proved
end Go.Proofs.YtaafeallcaiooaaGreat
