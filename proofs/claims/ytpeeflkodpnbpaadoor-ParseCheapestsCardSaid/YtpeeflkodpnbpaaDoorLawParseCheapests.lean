-- Laid by wip/tools/row.py of this project. Lean checks it.
import Derived.Test.YtpeeflkodpnbpaaDoorRows
import Derived.Test.YtpeeflkodpnbpaaDoorDefParseCheapests
import Derived.Test.YtpeeflkodpnbpaaDoorPureParseCheapests
import Derived.Test.YtpeeflkodpnbpaaDoorWSized
import Derived.WalkKit
import Derived.ProofKit
import Derived.OpenShut
import Derived.ShutString
import Derived.ChangeOld
import Derived.Below
import Derived.SizedLaws
import Derived.Test.YtpeeflkodpnbpaaDoorHTie
import Derived.Test.YtpeeflkodpnbpaaDoorTie
import Derived.Test.YtpeeflkodpnbpaaDoorCards
import Derived.SevenTiedAt
import Derived.Stop.Joined
import Derived.LaidMore
import Derived.Carry
namespace Go.Proofs.YtpeeflkodpnbpaaDoor.parseCheapests
open Go.ChangeShapes Go.WideShapes Go.ChangeAt Go.RowKit Go.Proofs.YtpeeflkodpnbpaaDoorW.PrintWords Go.Proofs.YtpeeflkodpnbpaaDoor.Pr
open Go.ChangeMaps (open_string shut_string)
set_option linter.unusedVariables false
theorem own : ownKnob Tryd.prog.godebug = none := by kernel_rfl
theorem laidOut : laidOutB Tryd.prog = true := by kernel_rfl
set_option maxRecDepth 100000 in
theorem lifted (os : Os) (started : os.Started) (H : Type) (enc : TypeId × Value → H) :
    ReturnsInHanded {} Tryd.checked os 17 .any (fun w args => (Rows.parseCheapestsSpec.pre enc Tryd.prog Tryd.f17 [] false w args ∧ laidMetH Tryd.prog Pr.laid9 w) ∧ sizedMet enc Tryd.prog Tryd.f17 (OpenSpec.ofChange Rows.parseCheapestsSpec) false w args)
      (Rows.parseCheapestsSpec.post enc Tryd.prog Tryd.f17 false true false false) := by
  refine returnsInHanded_of_change_and (C := Tryd.checked) (X := fun w _ => laidMetH Tryd.prog Pr.laid9 w) (fun _ _ _ hh h => h.of_heap hh) own started (by kernel_rfl) Tryd.func17
    (ChangeSpec.witness_shaped (enc := enc) (C := Tryd.checked) (os := os) (X := fun w _ => laidMetH Tryd.prog Pr.laid9 w) false (World.doorLaid Tryd.prog 400 os) #[.string ByteArray.empty, .slice none 0 0, .agg #[.int .i64 0, .int .i64 0]] 8 rfl (World.shaped_of_RefB (by kernel_rfl) (by kernel_rfl)) (by kernel_rfl) (by kernel_rfl) (by kernel_rfl) (Pr.door_met os _)) ?_
  intro W base args ds gs before hval0 hW hcnd hsz0 hL _
  have hsz : (DataW.weightsEach Tryd.prog (Tryd.f17.params.toList ++ Rows.parseCheapestsSpec.plain.varTypes Tryd.prog) (ds ++ gs)).all (· ≤ reachBytes) = true := hsz0
  have hval : ∀ (j : Nat) t v, Tryd.f17.params[j]? = some t → args[j]? = some v → Value.okWide Tryd.prog W .any base t v := hval0
  have hW' := hW
  obtain ⟨p, q, hA0, hV, rfl, hfz, hnd⟩ := hW
  have hA : DataW.TrodAll enc Tryd.prog W 0 (fun _ => true) true Tryd.f17.params.toList args.toList ds p := hA0
  rw [Tryd.params17] at hA hval hsz
  obtain ⟨v0, vs0, d0, ds0, p0, q0, hargs, rfl, rfl, h0, r0⟩ := trodAll_cons hA
  obtain ⟨v1, vs1, d1, ds1, p1, q1, rfl, rfl, rfl, h1, r1⟩ := trodAll_cons r0
  obtain ⟨v2, vs2, d2, ds2, p2, q2, rfl, rfl, rfl, h2, r2⟩ := trodAll_cons r1
  obtain ⟨rfl, rfl, rfl⟩ := trodAll_nil r2
  obtain rfl : args = #[v0, v1, v2] := by cases args; simp_all
  obtain ⟨rfl, rfl⟩ := trodVars_none hV
  have k0 := h0
  have lt0 : ∀ x ∈ p0, x.block < W.heap.size := by obtain ⟨m, hm⟩ := k0; exact DataW.trod_lt m _ _ _ hm
  obtain ⟨a0, rfl, rfl, rfl, y0⟩ := open_string Tryd.underlying9 (hval 0 9 v0 rfl rfl) h0
  have w0 : a0.size ≤ 140737488351232 := by
    have z := sized_string hsz (j := 0) (t := 9) rfl rfl
    rw [Array.length_toList] at z
    exact z
  have k1 := h1
  have lt1 : ∀ x ∈ p1, x.block < W.heap.size := by obtain ⟨m, hm⟩ := k1; exact DataW.trod_lt m _ _ _ hm
  obtain ⟨A1, len1, cap1, rfl⟩ := okWide_slice Tryd.underlying23 (hval 1 23 v1 rfl rfl)
  have y1 : len1 * 16 ≤ 140737488351232 := sized_any hsz (j := 1) (t := 23) rfl rfl Tryd.underlying23 (by kernel_rfl) h1
  obtain ⟨l1, e1, m1, w1⟩ : ∃ l : List S63, (Kd.slice 63 k63).K W l [.slice A1 len1 cap1] ∧ l.length ≤ maxLen ∧ ∀ x ∈ l, (fun x => (Lit.int .i64 x.f0).wf = true ∧ (Lit.int .i64 x.f1).wf = true) x := by
    obtain ⟨fuel, hf⟩ := h1
    obtain ⟨l, h1, h2, h3⟩ := opens23 _ _ _ _ _ _ _ _ _ hf
    exact ⟨l, h1, h2, h3⟩
  obtain ⟨A1', c1', e1', hc1, hr1⟩ := e1
  simp only [List.cons.injEq, Value.slice.injEq, and_true] at e1'
  obtain ⟨rfl, rfl, rfl⟩ := e1'
  have k2 := h2
  have lt2 : ∀ x ∈ p2, x.block < W.heap.size := by obtain ⟨m, hm⟩ := k2; exact DataW.trod_lt m _ _ _ hm
  obtain ⟨c2, rfl, _⟩ := okWide_agg Tryd.underlying56 (by rfl) (hval 2 56 v2 rfl rfl)
  obtain ⟨a2, e2, w2⟩ : ∃ a : S56, (k56).K W a c2.toList ∧ (fun x => (Lit.int .i64 x.f0).wf = true ∧ (Lit.int .i64 x.f1).wf = true) a := by
    obtain ⟨fuel, hf⟩ := h2
    obtain ⟨a, h1, h2⟩ := opens56 _ _ _ _ _ _ _ _ _ hf
    exact ⟨a, h1, h2⟩
  obtain rfl : c2 = #[.int .i64 a2.f0, .int .i64 a2.f1] := by have z := k56_open e2; cases c2; simpa using z
  clear hA0 hval0 hsz0 hsz
  obtain ⟨k, hk⟩ := Pure.ParseCheapests a0 l1 a2 w0 m1 y1 w1 w2
  refine (numnahlaw09_ParseCheapests.calls (hG := Pr.of_laid hL) k a0 _ _ l1 a2.f0 a2.f1 true W hr1 hc1 hk).mono fun e W' ⟨he, bel0⟩ => ?_
  have bel : Below W.heap.size W W' := bel0
  subst he
  exact ⟨_, rfl, _, _, _, [], _, [], hW', trodAll_mk1 (shut_bool Tryd.underlying4 _), (trodAll_cons_mk (Below.trod laidOut (by kernel_rfl) (of_decide_eq_true (by kernel_rfl)) k0 bel lt0) (trodAll_cons_mk (Below.trod laidOut (by kernel_rfl) (of_decide_eq_true (by kernel_rfl)) k1 bel lt1) (trodAll_cons_mk (Below.trod laidOut (by kernel_rfl) (of_decide_eq_true (by kernel_rfl)) k2 bel lt2) trodAll_mk0))), rfl, bel.frame _, fun h => by cases h⟩
theorem over : Rows.parseCheapestsRow.holds Tryd.pinned (OpenSpec.ofChange Rows.parseCheapestsSpec) :=
  OpenClaim.holds_of_wide 17 Tryd.f17 rfl rfl rfl rfl rfl rfl rfl ⟨rfl, rfl, rfl, rfl, rfl⟩ rfl rfl rfl rfl rfl (by kernel_rfl) Tryd.func17 (by kernel_rfl)
    (of_decide_eq_true (by kernel_rfl)) (by unfold Func.isWrapper; first | (rw [if_pos (by decide +kernel)]; kernel_rfl) | (rw [if_neg (by decide +kernel)]; exact ⟨rfl, rfl⟩))
    (fun os started H enc _ => lifted os started H enc)
theorem proved : Rows.ParseCheapestsSaid := over
theorem card_holds : Rows.ParseCheapestsCardSaid :=
  Claim7.holds_tied_plain_at .later [] [.data] true (true, "ae37856406640a60476ead501be46fb0c3fec37349c9488291c73b29ce38da8d") false
    over (fun _ h => by cases h) (by kernel_rfl) (fun _ h => by cases h) parseCheapests_row_tie rfl ⟨rfl, rfl⟩ (by kernel_rfl) rfl
    (fun f fn hf hfn => by
      obtain rfl : f = 17 := Option.some.inj ((show Tryd.prog.funcNamed "numnah/numnahlaw09.ParseCheapests" = some 17 by kernel_rfl).symm.trans hf) |>.symm
      obtain rfl : fn = Tryd.f17 := (Option.some.inj (Tryd.func17.symm.trans hfn)).symm
      exact ⟨by kernel_rfl, fun j t ht => by
        have hall : (Tryd.f17.params.all fun u => !Tryd.prog.wantsStandIn u) = true := by kernel_rfl
        have hm := Array.mem_of_getElem? ht
        exact (show Tryd.prog.wantsStandIn t = false by simpa using (Array.all_eq_true_iff_forall_mem.1 hall t hm))⟩)
    (by kernel_rfl)
#print axioms card_holds
end Go.Proofs.YtpeeflkodpnbpaaDoor.parseCheapests
namespace Go.Proofs.YtpeeflkodpnbpaaDoor
/-- The card, under a short name, for the claim. -/
theorem parseCheapests_holds : Rows.ParseCheapestsCardSaid := parseCheapests.card_holds
end Go.Proofs.YtpeeflkodpnbpaaDoor
