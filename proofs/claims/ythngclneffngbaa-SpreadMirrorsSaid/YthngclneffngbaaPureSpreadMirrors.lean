/- Mirror returns the mirror of a number, and Back the number whose mirror a fraction is, or the specified error: for any ints and fraction. -/
import Derived.Test.YthngclneffngbaaDefSpreadMirrors
import Derived.Test.YthngclneffngbaaHAw
import Derived.Test.YthngclneffngbaaHBa
namespace Go.Proofs.Ythngclneffngbaa.Pr
open Go.RowKit Go.Proofs.YthngclneffngbaaW.PrintWords Go.Proofs.YthngclneffngbaaW.PrintLast Go.Proofs.YthngclneffngbaaW.PrintMore
set_option linter.unusedVariables false

theorem awake_bindM : Evt (fun k => (numnahlaw03_awake.f k).bind fun t => some t) true := Evt.congr awake_ev (fun k => by cases numnahlaw03_awake.f k <;> rfl)
theorem i64_of_wf {n : Int} (h : (Lit.int .i64 n).wf = true) : -9223372036854775808 ≤ n ∧ n ≤ 9223372036854775807 := by
  simp [Lit.wf, IntKind.min, IntKind.max, IntKind.bits, IntKind.signed] at h
  omega
theorem base_eq (b : Int) : numnahref03_Base.f b = some (decide (2 ≤ b ∧ b ≤ 16)) := by
  unfold numnahref03_Base.f
  by_cases h : b ≥ 2
  · rw [if_pos h]
    congr 1
    rw [decide_eq_decide]
    omega
  · rw [if_neg h, decide_eq_false (by omega)]
theorem mir_j1 (b n D : Int) (hn : -9223372036854775808 ≤ n ∧ n ≤ 9223372036854775807) (hD : -9223372036854775808 ≤ D ∧ D ≤ 9223372036854775807) (x9 x10 : Int)
    (hB : Evt (fun k => spread_Back.f k b n D) (x9, x10)) : Evt (fun k => numnahlaw03_SpreadMirrors.j1 k b x9 x10 n D) true := by
  have uniq : ∀ v, Evt (fun k => spread_Back.f k b n D) v → (x9, x10) = v := by
    intro v hv
    obtain ⟨K, h1⟩ := hB
    obtain ⟨K', h2⟩ := hv
    have e1 := h1 (max K K') (by omega)
    have e2 := h2 (max K K') (by omega)
    exact Option.some.inj (e1.symm.trans e2)
  refine Evt.step (g' := fun k => (numnahref03_Base.f b).bind fun t323 => (if t323 = true then ((numnahref03_Valid.f k n D).bind fun t324 => (if t324 = true then (if n < 0 then (numnahlaw03_SpreadMirrors.j2 k b x9 x10 true n D) else (numnahlaw03_SpreadMirrors.j2 k b x9 x10 (decide (n ≥ D)) n D)) else (numnahlaw03_SpreadMirrors.j2 k b x9 x10 true n D))) else (numnahlaw03_SpreadMirrors.j2 k b x9 x10 true n D))) (fun k => by simp only [numnahlaw03_SpreadMirrors.j1]) ?_
  have hno : (x9, x10) = (0, 2) → Evt (fun k => numnahlaw03_SpreadMirrors.j2 k b x9 x10 true n D) true := by
    intro e
    injection e with e1 e2
    subst e1 e2
    refine Evt.step (fun k => ?_) awake_bindM
    simp only [numnahlaw03_SpreadMirrors.j2]
    simp
  rw [base_eq]
  simp only [Option.bind_some]
  by_cases hb : 2 ≤ b ∧ b ≤ 16
  · simp only [decide_eq_true hb, if_true]
    refine Evt.bind (valid_ev n D hn hD) ?_
    by_cases hv : 1 ≤ D ∧ Int.gcd n D = 1
    · simp only [decide_eq_true hv, if_true]
      by_cases h0 : n < 0
      · simp only [if_pos h0]
        exact hno (uniq _ (back_no b n D hD.2 (fun h => by have := h.2.2.1; omega)))
      · simp only [if_neg h0]
        by_cases h1 : n ≥ D
        · rw [decide_eq_true h1]
          exact hno (uniq _ (back_no b n D hD.2 (fun h => by have := h.2.2.2.1; omega)))
        · rw [decide_eq_false h1]
          obtain ⟨e1, e2⟩ := back_yes b n D hD.2 ⟨hb, hv.1, by omega, by omega, hv.2⟩
          have hu := uniq _ e1
          refine Evt.step (g' := fun k => (numnahref03_Back.f k b n D).bind fun bt326 => (if bt326.2 = true then (if x9 = bt326.1 then (if x10 = 0 then ((numnahlaw03_awake.f k).bind fun t328 => (some t328)) else (some false)) else (some false)) else (if x9 = 0 then (if x10 = 6 then ((numnahlaw03_awake.f k).bind fun t329 => (some t329)) else (some false)) else (some false)))) (fun k => by simp only [numnahlaw03_SpreadMirrors.j2]; rw [if_neg (by simp)]) (Evt.bind e2 ?_)
          by_cases hm : D > b * 1000000
          · rw [if_pos hm] at hu ⊢
            injection hu with u1 u2
            subst u1 u2
            simpa using awake_bindM
          · rw [if_neg hm] at hu ⊢
            cases hP : backP b D 21 0 n 1 with
            | none =>
              rw [hP] at hu
              dsimp only at hu
              injection hu with u1 u2
              subst u1 u2
              simpa using awake_bindM
            | some v =>
              rw [hP] at hu
              dsimp only at hu
              by_cases hv2 : v > 1000000
              · rw [if_pos hv2] at hu
                injection hu with u1 u2
                subst u1 u2
                simp only [decide_eq_false (show ¬ v ≤ 1000000 by omega)]
                simpa using awake_bindM
              · rw [if_neg hv2] at hu
                injection hu with u1 u2
                subst u1 u2
                have hle : x9 ≤ 1000000 := by omega
                simp only [decide_eq_true hle]
                simpa using awake_bindM
    · simp only [decide_eq_false hv]
      refine Evt.neg (by simp) (hno (uniq _ (back_no b n D hD.2 (fun h => hv ⟨h.2.1, h.2.2.2.2⟩))))
  · simp only [decide_eq_false hb]
    refine Evt.neg (by simp) (hno (uniq _ (back_no b n D hD.2 (fun h => hb h.1))))
theorem SpreadMirrors_pure : numnahlaw03_SpreadMirrors.Pure := by
  intro b x f _ _ hf
  obtain ⟨hn, hD⟩ := hf
  have hn := i64_of_wf hn
  have hD := i64_of_wf hD
  generalize f.f0 = n at hn
  generalize f.f1 = D at hD
  refine Evt.ex ?_
  have hB : ∃ x9 x10, Evt (fun k => spread_Back.f k b n D) (x9, x10) := by
    by_cases h : okBack b n D
    · exact ⟨_, _, (back_yes b n D hD.2 h).1⟩
    · exact ⟨_, _, back_no b n D hD.2 h⟩
  obtain ⟨x9, x10, hB⟩ := hB
  have hj1 := mir_j1 b n D hn hD x9 x10 hB
  unfold numnahlaw03_SpreadMirrors.f
  by_cases hok : (2 ≤ b ∧ b ≤ 16) ∧ (0 ≤ x ∧ x ≤ 1000000)
  · obtain ⟨hb, hx⟩ := hok
    refine Evt.bind (mirror_yes b x hb hx) (Evt.bind hB ?_)
    rw [base_eq]
    simp only [Option.bind_some, decide_eq_true hb, if_true, if_neg (show ¬ x < 0 by omega)]
    rw [decide_eq_false (by omega)]
    refine Evt.step (g' := fun k => (numnahref03_Mirror.f k b x).bind fun bt321 => (if (!((mirF b x).1 == bt321.1) || (!((mirF b x).2 == bt321.2))) = true then (some false) else (numnahlaw03_SpreadMirrors.j1 k b x9 x10 n D))) (fun k => by simp only [numnahlaw03_SpreadMirrors.j0]; rw [if_neg (by simp)]; simp) (Evt.bind (rmirror_ev b x hb hx) ?_)
    simpa using hj1
  · refine Evt.bind (mirror_no b x hok) (Evt.bind hB ?_)
    have hj0 : Evt (fun k => numnahlaw03_SpreadMirrors.j0 k b x 2 x9 x10 true n D 0 0) true := by
      refine Evt.step (fun k => ?_) hj1
      simp only [numnahlaw03_SpreadMirrors.j0]
      simp
    rw [base_eq]
    simp only [Option.bind_some]
    by_cases hb : 2 ≤ b ∧ b ≤ 16
    · simp only [decide_eq_true hb, if_true]
      by_cases h0 : x < 0
      · simp only [if_pos h0]
        exact hj0
      · simp only [if_neg h0]
        rw [decide_eq_true (show x > 1000000 from by
          rcases Int.lt_or_le 1000000 x with h | h
          · exact h
          · exact absurd ⟨hb, by omega, h⟩ hok)]
        exact hj0
    · simp only [decide_eq_false hb]
      exact Evt.neg (by simp) hj0
end Go.Proofs.Ythngclneffngbaa.Pr
namespace Go.Proofs.Ythngclneffngbaa.Pure
theorem SpreadMirrors : Pr.numnahlaw03_SpreadMirrors.Pure := Pr.SpreadMirrors_pure
end Go.Proofs.Ythngclneffngbaa.Pure
