import Derived.Test.YthngclneffngbaaHS
import Derived.Test.YthngclneffngbaaPrA5
namespace Go.Proofs.Ythngclneffngbaa.Pr
open Go.RowKit Go.Proofs.YthngclneffngbaaW.PrintWords Go.Proofs.YthngclneffngbaaW.PrintLast Go.Proofs.YthngclneffngbaaW.PrintMore
set_option linter.unusedVariables false
set_option linter.unusedSimpArgs false

/-- the mirror's loop: what is left, numerator, denominator -/
def mirP (b : Int) : Nat → Int → Int → Int → Int × Int
  | 0, _, num, den => (num, den)
  | d + 1, x, num, den => if x > 0 then mirP b d (x / b) (num * b + x % b) (den * b) else (num, den)
/-- what holds at each round's head -/
def MirI (x num den : Int) : Prop := 0 ≤ x ∧ 0 ≤ num ∧ num < den ∧ den ≤ 16000000 ∧ (x > 0 → den * x ≤ 1000000)
theorem mirI_step (b x num den : Int) (hb : 2 ≤ b ∧ b ≤ 16) (h : MirI x num den) (hx : x > 0) : MirI (x / b) (num * b + x % b) (den * b) ∧ den ≤ 1000000 ∧ 0 ≤ num * b ∧ num * b ≤ 16000000 := by
  obtain ⟨h1, h2, h3, h4, h5⟩ := h
  have h6 := h5 hx
  have m1 := Int.emod_nonneg x (show b ≠ 0 by omega)
  have m2 := Int.emod_lt_of_pos x (show 0 < b by omega)
  have m3 := Int.ediv_nonneg h1 (show 0 ≤ b by omega)
  have hden : den * 1 ≤ den * x := Int.mul_le_mul_of_nonneg_left (by omega) (by omega)
  have hden2 : den ≤ 1000000 := by omega
  have q1 := mul_bnd (a := den) (b := b) (A := 1000000) (by omega) hden2 (by omega) hb.2
  have q2 := mul_bnd (a := num) (b := b) (A := 1000000) h2 (by omega) (by omega) hb.2
  have q3 : (num + 1) * b ≤ den * b := Int.mul_le_mul_of_nonneg_right (by omega) (by omega)
  rw [Int.add_mul, Int.one_mul] at q3
  refine ⟨⟨m3, by omega, by omega, by omega, fun _ => ?_⟩, hden2, by omega, by omega⟩
  have q4 : b * (x / b) ≤ x := Int.mul_ediv_self_le (by omega)
  have q5 : den * (b * (x / b)) ≤ den * x := Int.mul_le_mul_of_nonneg_left q4 (by omega)
  rw [Int.mul_assoc]
  omega
theorem mirP_inv (b : Int) (hb : 2 ≤ b ∧ b ≤ 16) : ∀ (d : Nat) (x num den : Int), MirI x num den → 0 ≤ (mirP b d x num den).1 ∧ (mirP b d x num den).1 < (mirP b d x num den).2 ∧ (mirP b d x num den).2 ≤ 16000000
  | 0, x, num, den, h => ⟨h.2.1, h.2.2.1, h.2.2.2.1⟩
  | d + 1, x, num, den, h => by
    simp only [mirP]
    split
    · rename_i hx
      exact mirP_inv b hb d _ _ _ (mirI_step b x num den hb h hx).1
    · exact ⟨h.2.1, h.2.2.1, h.2.2.2.1⟩
theorem half_lt (b x : Int) (d : Nat) (hb : 2 ≤ b) (h : x < 2 ^ (d + 1)) (hx : 0 < x) : x / b < 2 ^ d := by
  rw [Int.pow_succ] at h
  have q1 : x / b ≤ x / 2 := by
    have e1 : b * (x / b) ≤ x := Int.mul_ediv_self_le (by omega)
    have e3 := Int.ediv_nonneg (show 0 ≤ x by omega) (show 0 ≤ b by omega)
    have e2 : 2 * (x / b) ≤ b * (x / b) := Int.mul_le_mul_of_nonneg_right hb e3
    omega
  omega
theorem mirror_loop (b : Int) (hb : 2 ≤ b ∧ b ≤ 16) : ∀ (d : Nat) (x num den : Int), MirI x num den → x < 2 ^ d →
    Evt (fun k => spread_Mirror.l0 k b x num den) ((redF (mirP b d x num den).1 (mirP b d x num den).2).1, (redF (mirP b d x num den).1 (mirP b d x num den).2).2, 0) ∧
    Evt (fun k => numnahref03_Mirror.l0 k b x num den) ((redF (mirP b d x num den).1 (mirP b d x num den).2).1, (redF (mirP b d x num den).1 (mirP b d x num den).2).2) := by
  have base : ∀ x num den, MirI x num den → ¬ x > 0 → Evt (fun k => spread_Mirror.l0 k b x num den) ((redF num den).1, (redF num den).2, 0) ∧
    Evt (fun k => numnahref03_Mirror.l0 k b x num den) ((redF num den).1, (redF num den).2) := by
    intro x num den h hx
    obtain ⟨h1, h2, h3, h4, h5⟩ := h
    constructor
    · refine Evt.step (g' := fun k => (spread_frac.f k num den).bind fun bt136 => (some (bt136.1, bt136.2, 0))) (fun k => ?_) (Evt.bind (frac_ev num den (by omega) (by omega) (by omega) (by omega)) (Evt.all fun _ => rfl))
      simp only [spread_Mirror.l0]
      rw [if_neg hx]
    · refine Evt.step (g' := fun k => (numnahref03_Reduced.f k num den).bind fun bt136 => (some (bt136.1, bt136.2))) (fun k => ?_) (Evt.bind (reduced_ev num den (by omega) (by omega) (by omega) (by omega)) (Evt.all fun _ => rfl))
      simp only [numnahref03_Mirror.l0]
      rw [if_neg hx]
  intro d
  induction d with
  | zero =>
    intro x num den h hx
    exact base x num den h (by simp at hx; omega)
  | succ d ih =>
    intro x num den h hx
    by_cases h0 : x > 0
    · obtain ⟨q1, q2, q3, q4⟩ := mirI_step b x num den hb h h0
      have h1 := h.1
      obtain ⟨e1, e2⟩ := ih _ _ _ q1 (half_lt b x d hb.1 hx h0)
      have m1 := Int.emod_nonneg x (show b ≠ 0 by omega)
      have m2 := Int.emod_lt_of_pos x (show 0 < b by omega)
      have hxb : x ≤ 1000000 := by
        have := h.2.2.2.2 h0
        have h9 : 1 * x ≤ den * x := Int.mul_le_mul_of_nonneg_right (by have := h.2.1; have := h.2.2.1; omega) h1
        omega
      have m4 := Int.ediv_le_self b h1
      have q5 := q1.2.2.2.1
      have q6 := q1.1
      have q7 := q1.2.1
      have q8 := q1.2.2.1
      simp only [mirP, if_pos h0]
      constructor
      · refine Evt.step (fun k => ?_) e1
        simp only [spread_Mirror.l0]
        rw [if_pos h0, if_neg (by omega), Int.tdiv_eq_ediv_of_nonneg h1, Int.tmod_eq_emod_of_nonneg h1, wr (x := x / b) (by omega) (by omega), wr (x := num * b) (by omega) (by omega), wr (x := num * b + x % b) (by omega) (by omega), wr (x := den * b) (by omega) (by omega)]
      · refine Evt.step (fun k => ?_) e2
        simp only [numnahref03_Mirror.l0]
        rw [if_pos h0, if_neg (by omega), Int.tdiv_eq_ediv_of_nonneg h1, Int.tmod_eq_emod_of_nonneg h1, wr (x := x / b) (by omega) (by omega), wr (x := num * b) (by omega) (by omega), wr (x := num * b + x % b) (by omega) (by omega), wr (x := den * b) (by omega) (by omega)]
    · simp only [mirP, if_neg h0]
      exact base x num den h h0
/-- the mirror of a number as a fraction in lowest terms -/
def mirF (b x : Int) : Int × Int := redF (mirP b 20 x 0 1).1 (mirP b 20 x 0 1).2
theorem mirI_start (x : Int) (hx : 0 ≤ x ∧ x ≤ 1000000) : MirI x 0 1 := ⟨hx.1, by omega, by omega, by omega, by omega⟩
theorem mirror_yes (b x : Int) (hb : 2 ≤ b ∧ b ≤ 16) (hx : 0 ≤ x ∧ x ≤ 1000000) : Evt (fun k => spread_Mirror.f k b x) ((mirF b x).1, (mirF b x).2, 0) := by
  unfold spread_Mirror.f
  simp only [within_eq, decide_eq_true hb, decide_eq_true hx, Option.bind_some, if_true]
  refine Evt.step (fun k => ?_) (mirror_loop b hb 20 x 0 1 (mirI_start x hx) (by omega)).1
  simp only [spread_Mirror.j0]
  simp
theorem mirror_no (b x : Int) (h : ¬ ((2 ≤ b ∧ b ≤ 16) ∧ (0 ≤ x ∧ x ≤ 1000000))) : Evt (fun k => spread_Mirror.f k b x) (0, 0, 2) := by
  unfold spread_Mirror.f
  have hj : Evt (fun k => spread_Mirror.j0 k b x true) (0, 0, 2) := by
    refine Evt.now fun k => ?_
    simp only [spread_Mirror.j0]
    simp
  simp only [within_eq, Option.bind_some]
  by_cases hb : 2 ≤ b ∧ b ≤ 16
  · simp only [decide_eq_true hb, if_true]
    rw [decide_eq_false (fun hx => h ⟨hb, hx⟩)]
    exact hj
  · simp only [decide_eq_false hb]
    simpa using hj
theorem rmirror_ev (b x : Int) (hb : 2 ≤ b ∧ b ≤ 16) (hx : 0 ≤ x ∧ x ≤ 1000000) : Evt (fun k => numnahref03_Mirror.f k b x) ((mirF b x).1, (mirF b x).2) :=
  (mirror_loop b hb 20 x 0 1 (mirI_start x hx) (by omega)).2
end Go.Proofs.Ythngclneffngbaa.Pr
