/- Best and Add answer as specified: for every number of points and any two fractions. -/
import Derived.Test.YthngclneffngbaaDefSpreadBests
import Derived.Test.YthngclneffngbaaHAd2
namespace Go.Proofs.Ythngclneffngbaa.Pr
open Go.RowKit Go.Proofs.YthngclneffngbaaW.PrintWords Go.Proofs.YthngclneffngbaaW.PrintLast Go.Proofs.YthngclneffngbaaW.PrintMore
set_option linter.unusedVariables false

theorem awake_bindB : Evt (fun k => (numnahlaw03_awake.f k).bind fun t => some t) true := Evt.congr awake_ev (fun k => by cases numnahlaw03_awake.f k <;> rfl)
theorem i64_of_wfB {n : Int} (h : (Lit.int .i64 n).wf = true) : -9223372036854775808 ≤ n ∧ n ≤ 9223372036854775807 := by
  simp [Lit.wf, IntKind.min, IntKind.max, IntKind.bits, IntKind.signed] at h
  omega
theorem odds_len (n : Nat) : (odds n).length = n := by simp [odds]
theorem odds_rd (n i : Nat) (h : i < n) : rd (odds n) (i : Int) = 2 * (i : Int) + 1 := by
  simp [rd, odds, h]
theorem bests_loop (n : Nat) (hn : n ≤ 60) : ∀ (d i : Nat), i ≤ n → n - i ≤ d → Evt (fun k => numnahlaw03_SpreadBests.l0 k (n : Int) (odds n) (i : Int)) true := by
  intro d
  induction d with
  | zero =>
    intro i hi hd
    obtain rfl : i = n := by omega
    refine Evt.step (fun k => ?_) awake_bindB
    simp only [numnahlaw03_SpreadBests.l0]
    rw [if_neg (by omega)]
  | succ d ih =>
    intro i hi hd
    by_cases h : i = n
    · exact ih i hi (by omega)
    · refine Evt.step (fun k => ?_) (ih (i + 1) (by omega) (by omega))
      simp only [numnahlaw03_SpreadBests.l0]
      rw [if_pos (by omega), if_pos (by omega), if_pos (by rw [odds_len]; omega), odds_rd n i (by omega), wr (x := 2 * (i : Int)) (by omega) (by omega), wr (x := 2 * (i : Int) + 1) (by omega) (by omega), if_pos rfl, wr (by omega) (by omega)]
      rfl
def bstV (x : Int) : Int × Int × List Int × Int := if 1 ≤ x ∧ x ≤ 60 then (1, 2 * x, odds x.toNat, 0) else (0, 0, [], 2)
theorem bst_ev (x : Int) : Evt (fun k => spread_Best.f k x) (bstV x) := by
  unfold bstV
  by_cases h : 1 ≤ x ∧ x ≤ 60
  · rw [if_pos h]
    have := best_ev x.toNat (by omega) (by omega)
    rw [Int.toNat_of_nonneg (by omega)] at this
    exact this
  · rw [if_neg h]
    refine Evt.all fun k => ?_
    unfold spread_Best.f
    rw [within_eq, decide_eq_false h]
    rfl
theorem bests_j2 (x : Int) (hx : 1 ≤ x ∧ x ≤ 60) : Evt (fun k => numnahlaw03_SpreadBests.j2 k x (odds x.toNat) 0 false 1 (2 * x)) true := by
  obtain ⟨n, rfl⟩ : ∃ n : Nat, x = n := ⟨x.toNat, by omega⟩
  have hL := bests_loop n (by omega) n 0 (by omega) (by omega)
  refine Evt.step (g' := fun k => numnahlaw03_SpreadBests.j3 k (n : Int) (odds n) false) (fun k => ?_) (Evt.step (fun k => ?_) hL)
  · simp only [numnahlaw03_SpreadBests.j2, Int.toNat_natCast]
    rw [if_neg (by simp), wr (x := 2 * (n : Int)) (by omega) (by omega), if_neg (by simp), if_pos (by rw [odds_len])]
    rfl
  · simp only [numnahlaw03_SpreadBests.j3]
    rw [if_neg (by simp)]
    rfl
theorem bests_j1 (x : Int) : Evt (fun k => numnahlaw03_SpreadBests.j1 k x (bstV x).2.2.1 (bstV x).2.2.2 (bstV x).1 (bstV x).2.1) true := by
  have no : Evt (fun k => numnahlaw03_SpreadBests.j2 k x [] 2 true 0 0) true := by
    refine Evt.step (fun k => ?_) awake_bindB
    simp only [numnahlaw03_SpreadBests.j2]
    simp
  unfold bstV
  by_cases h : 1 ≤ x ∧ x ≤ 60
  · rw [if_pos h]
    refine Evt.step (fun k => ?_) (bests_j2 x h)
    simp only [numnahlaw03_SpreadBests.j1]
    rw [if_neg (by omega), decide_eq_false (by omega)]
  · rw [if_neg h]
    refine Evt.step (fun k => ?_) no
    simp only [numnahlaw03_SpreadBests.j1]
    by_cases h1 : x < 1
    · rw [if_pos h1]
    · rw [if_neg h1, decide_eq_true (by omega)]
theorem SpreadBests_pure : numnahlaw03_SpreadBests.Pure := by
  rintro a0 ⟨f0, f1⟩ ⟨g0, g1⟩ w0 ⟨w1, w2⟩ ⟨w3, w4⟩
  have w1 := i64_of_wfB w1
  have w2 := i64_of_wfB w2
  have w3 := i64_of_wfB w3
  have w4 := i64_of_wfB w4
  dsimp only at w1 w2 w3 w4 ⊢
  refine Evt.ex ?_
  unfold numnahlaw03_SpreadBests.f
  refine Evt.bind (bst_ev a0) ?_
  have hj := bests_j1 a0
  by_cases ok : smallB f0 f1 = true ∧ smallB g0 g1 = true
  · rw [add_yes f0 f1 g0 g1 ok.1 ok.2]
    simp only [Option.bind_some]
    refine Evt.bind (small_ev f0 f1 w1 w2) ?_
    rw [ok.1]
    simp only [if_true]
    refine Evt.bind (small_ev g0 g1 w3 w4) ?_
    rw [ok.2]
    refine Evt.step (g' := fun k => (numnahref03_Add.f k f0 f1 g0 g1).bind fun bt298 => (if (!((redF (f0 * g1 + g0 * f1) (f1 * g1)).1 == bt298.1) || (!((redF (f0 * g1 + g0 * f1) (f1 * g1)).2 == bt298.2))) = true then (some false) else (numnahlaw03_SpreadBests.j1 k a0 (bstV a0).2.2.1 (bstV a0).2.2.2 (bstV a0).1 (bstV a0).2.1))) (fun k => ?_) (Evt.bind (refAdd_ev f0 f1 g0 g1 ok.1 ok.2) ?_)
    · simp only [numnahlaw03_SpreadBests.j0]
      rw [if_neg (by simp)]
      rfl
    · simp only [beq_self_eq_true, Bool.not_true, Bool.or_self, Bool.false_eq_true, if_false]
      exact hj
  · rw [add_no f0 f1 g0 g1 ok]
    simp only [Option.bind_some]
    have hz : Evt (fun k => numnahlaw03_SpreadBests.j0 k a0 (bstV a0).2.2.1 (bstV a0).2.2.2 2 true f0 f1 g0 g1 (bstV a0).1 (bstV a0).2.1 0 0) true := by
      refine Evt.step (fun k => ?_) hj
      simp only [numnahlaw03_SpreadBests.j0]
      simp
    refine Evt.bind (small_ev f0 f1 w1 w2) ?_
    cases h1 : smallB f0 f1
    · simp only [Bool.false_eq_true, if_false]
      exact hz
    · simp only [if_true]
      refine Evt.bind (small_ev g0 g1 w3 w4) ?_
      cases h2 : smallB g0 g1
      · exact hz
      · exact absurd ⟨h1, h2⟩ ok
end Go.Proofs.Ythngclneffngbaa.Pr
namespace Go.Proofs.Ythngclneffngbaa.Pure
theorem SpreadBests : Pr.numnahlaw03_SpreadBests.Pure := Pr.SpreadBests_pure
end Go.Proofs.Ythngclneffngbaa.Pure
