import Derived.Test.YthngclneffngbaaHInt
import Derived.Test.YthngclneffngbaaHR
namespace Go.Proofs.Ythngclneffngbaa.Pr
open Go.RowKit Go.Proofs.YthngclneffngbaaW.PrintWords Go.Proofs.YthngclneffngbaaW.PrintLast Go.Proofs.YthngclneffngbaaW.PrintMore
set_option linter.unusedVariables false
set_option linter.unusedSimpArgs false

/-! ### fractions in lowest terms over one denominator -/
theorem redF_spec (m D : Int) (h : 1 ≤ D) : ∃ g : Int, 1 ≤ g ∧ m = g * (redF m D).1 ∧ D = g * (redF m D).2 ∧ 1 ≤ (redF m D).2 ∧ (redF m D).2 ≤ D := by
  have hg := gcd_pos m D h
  obtain ⟨a, ha⟩ := Int.gcd_dvd_left m D
  obtain ⟨b, hb⟩ := Int.gcd_dvd_right m D
  have e1 : (redF m D).1 = a := by
    show m / (Int.gcd m D : Int) = a
    conv => lhs; arg 1; rw [ha]
    exact Int.mul_ediv_cancel_left _ (by omega)
  have e2 : (redF m D).2 = b := by
    show D / (Int.gcd m D : Int) = b
    conv => lhs; arg 1; rw [hb]
    exact Int.mul_ediv_cancel_left _ (by omega)
  have hb1 : 1 ≤ b := by
    rcases Int.lt_or_le 0 b with h1 | h1
    · omega
    · have := Int.mul_le_mul_of_nonneg_left h1 (show 0 ≤ (Int.gcd m D : Int) by omega)
      omega
  refine ⟨(Int.gcd m D : Int), hg, by rw [e1]; exact ha, by rw [e2]; exact hb, by omega, ?_⟩
  rw [e2]
  have := Int.mul_le_mul_of_nonneg_right hg (show 0 ≤ b by omega)
  omega
theorem redF_cross (m D : Int) (h : 1 ≤ D) : (redF m D).1 * D = m * (redF m D).2 := by
  obtain ⟨g, hg, h1, h2, _, _⟩ := redF_spec m D h
  generalize (redF m D).1 = p at h1 ⊢
  generalize (redF m D).2 = q at h2 ⊢
  rw [h1, h2, ← Int.mul_assoc, Int.mul_comm p g]
/-- products of the parts of two fractions over one denominator -/
theorem redF_lt (m m' D : Int) (h : 1 ≤ D) : (redF m D).1 * (redF m' D).2 < (redF m' D).1 * (redF m D).2 ↔ m < m' := by
  have c1 := redF_cross m D h
  have c2 := redF_cross m' D h
  obtain ⟨_, _, _, _, q1, _⟩ := redF_spec m D h
  obtain ⟨_, _, _, _, q2, _⟩ := redF_spec m' D h
  generalize (redF m D).1 = p at c1 ⊢
  generalize (redF m D).2 = q at c1 q1 ⊢
  generalize (redF m' D).1 = p' at c2 ⊢
  generalize (redF m' D).2 = q' at c2 q2 ⊢
  have e1 : (p * q') * D = m * (q * q') := by rw [Int.mul_right_comm, c1, Int.mul_assoc]
  have e2 : (p' * q) * D = m' * (q * q') := by rw [Int.mul_right_comm, c2, Int.mul_assoc, Int.mul_comm q']
  have hq : 0 < q * q' := Int.mul_pos (by omega) (by omega)
  constructor
  · intro hlt
    have := Int.mul_lt_mul_of_pos_right hlt (show 0 < D by omega)
    rw [e1, e2] at this
    exact Int.lt_of_mul_lt_mul_right this (by omega)
  · intro hlt
    have := Int.mul_lt_mul_of_pos_right hlt hq
    rw [← e1, ← e2] at this
    exact Int.lt_of_mul_lt_mul_right this (by omega)
theorem redF_range (m D M : Int) (h : 1 ≤ D) (h1 : 0 ≤ m) (h2 : m ≤ M) : 0 ≤ (redF m D).1 ∧ (redF m D).1 ≤ M ∧ 1 ≤ (redF m D).2 ∧ (redF m D).2 ≤ D := by
  obtain ⟨g, hg, e1, e2, q1, q2⟩ := redF_spec m D h
  generalize (redF m D).1 = p at e1 ⊢
  refine ⟨?_, ?_, q1, q2⟩
  · rcases Int.lt_or_le p 0 with h3 | h3
    · have := Int.mul_lt_mul_of_pos_left h3 (show 0 < g by omega)
      omega
    · exact h3
  · rcases Int.lt_or_le p 0 with h3 | h3
    · omega
    · have := Int.mul_le_mul_of_nonneg_right hg h3
      omega
theorem less_eq (a b c d : Int) (h1 : 0 ≤ a ∧ a ≤ 1000000) (h2 : 0 ≤ b ∧ b ≤ 1000000) (h3 : 0 ≤ c ∧ c ≤ 1000000) (h4 : 0 ≤ d ∧ d ≤ 1000000) : numnahlaw03_less.f a b c d = some (decide (a * d < c * b)) := by
  have m1 := bnd_mul h1.1 h1.2 h4.1 h4.2
  have m2 := bnd_mul h3.1 h3.2 h2.1 h2.2
  unfold numnahlaw03_less.f
  rw [wr (by omega) (by omega), wr (by omega) (by omega)]
theorem less_red (m m' D : Int) (h : 1 ≤ D ∧ D ≤ 60000) (h1 : 0 ≤ m ∧ m ≤ 200000) (h2 : 0 ≤ m' ∧ m' ≤ 200000) : numnahlaw03_less.f (redF m D).1 (redF m D).2 (redF m' D).1 (redF m' D).2 = some (decide (m < m')) := by
  have r1 := redF_range m D 200000 h.1 h1.1 h1.2
  have r2 := redF_range m' D 200000 h.1 h2.1 h2.2
  rw [less_eq _ _ _ _ (by omega) (by omega) (by omega) (by omega)]
  congr 1
  rw [decide_eq_decide]
  exact redF_lt m m' D h.1
theorem redF_inj (m m' D : Int) (h : 1 ≤ D) (e : redF m D = redF m' D) : m = m' := by
  have c1 := redF_cross m D h
  have c2 := redF_cross m' D h
  obtain ⟨_, _, _, _, q1, _⟩ := redF_spec m' D h
  rw [e] at c1
  have : m * (redF m' D).2 = m' * (redF m' D).2 := by rw [← c1, c2]
  exact Int.eq_of_mul_eq_mul_right (by omega) this

/-! ### the greatest deviation of an interval -/
theorem rowW_max (s n : Int) (f : Int → Int) (a : Int) (acc : Int × Int × Int) : ∀ (k : Nat), acc.1 ≤ (rowW s n f a acc k).1 ∧ ∀ j : Nat, j < k → offL s n (f (a + 1 + j) - f a) (1 + j) ≤ (rowW s n f a acc k).1
  | 0 => ⟨Int.le_refl _, fun j h => by omega⟩
  | k + 1 => by
    obtain ⟨h1, h2⟩ := rowW_max s n f a acc k
    rw [rowW]
    split
    · dsimp only
      refine ⟨by omega, fun j hj => ?_⟩
      by_cases e : j = k
      · subst e; exact Int.le_refl _
      · have := h2 j (by omega); omega
    · refine ⟨h1, fun j hj => ?_⟩
      by_cases e : j = k
      · subst e; omega
      · exact h2 j (by omega)
theorem intW_max (s n : Int) (f : Int → Int) : ∀ (k a : Nat), a < k → (k : Int) ≤ s → ∀ j : Nat, (j : Int) < s - a → offL s n (f (a + 1 + j) - f a) (1 + j) ≤ (intW s n f k).1
  | 0, a, h, _ => by omega
  | k + 1, a, h, hs => by
    intro j hj
    rw [intW]
    obtain ⟨h1, h2⟩ := rowW_max s n f k (intW s n f k) (s - k).toNat
    by_cases e : a = k
    · subst e
      exact h2 j (by omega)
    · have := intW_max s n f k a (by omega) (by omega) j hj
      omega
/-- what holds of all deviations of intervals and of -1 holds of the greatest one -/
theorem rowW_at (s n : Int) (f : Int → Int) (a : Int) (acc : Int × Int × Int) (P : Int × Int × Int → Prop) (h0 : P acc) (h1 : ∀ j : Nat, (j : Int) < s - a → P (offL s n (f (a + 1 + j) - f a) (1 + j), a, a + 1 + j)) : ∀ k : Nat, (k : Int) ≤ s - a → P (rowW s n f a acc k)
  | 0, _ => h0
  | k + 1, hk => by
    rw [rowW]
    split
    · exact h1 k (by omega)
    · exact rowW_at s n f a acc P h0 h1 k (by omega)
theorem intW_at (s n : Int) (f : Int → Int) (hpos : ∀ c t, 0 ≤ offL s n c t) (P : Int × Int × Int → Prop) (h1 : ∀ a j : Nat, (a : Int) < s → (j : Int) < s - a → P (offL s n (f (a + 1 + j) - f a) (1 + j), (a : Int), a + 1 + j)) : ∀ k : Nat, 0 < k → (k : Int) ≤ s → P (intW s n f k)
  | 0, h, _ => by omega
  | k + 1, _, hk => by
    rw [intW]
    by_cases h0 : k = 0
    · subst h0
      obtain ⟨m, hm⟩ : ∃ m : Nat, (s - (0 : Nat)).toNat = m + 1 := ⟨(s - (0 : Nat)).toNat - 1, by omega⟩
      rw [hm]
      have key : ∀ m : Nat, ((m : Int) + 1 ≤ s) → P (rowW s n f ((0 : Nat) : Int) (intW s n f 0) (m + 1)) := by
        intro m
        induction m with
        | zero =>
          intro hm
          rw [rowW]
          have hp := hpos (f (((0 : Nat) : Int) + 1 + (0 : Nat)) - f ((0 : Nat) : Int)) (1 + ((0 : Nat) : Int))
          rw [if_pos (by simp only [rowW, intW]; omega)]
          exact h1 0 0 (by omega) (by omega)
        | succ m ih =>
          intro hm
          rw [rowW]
          split
          · exact h1 0 (m + 1) (by omega) (by omega)
          · exact ih (by omega)
      exact key m (by omega)
    · exact rowW_at s n f k _ P (intW_at s n f hpos P h1 k (by omega) (by omega)) (fun j hj => h1 k j (by omega) hj) _ (by omega)
theorem offL_nonneg (s n c t : Int) : 0 ≤ offL s n c t := by unfold offL mx; split <;> omega
/-- the deviation of an interval is at most those of its ends together -/
theorem offL_sub (s n c c' t t' : Int) : offL s n (c - c') (t - t') ≤ offL s n c t + offL s n c' t' := by
  have e1 : (c - c') * s = c * s - c' * s := Int.sub_mul ..
  have e2 : (t - t') * n = t * n - t' * n := Int.sub_mul ..
  unfold offL
  rw [e1, e2]
  unfold mx
  repeat' split
  all_goals omega
theorem offL_devL (s n : Int) (f : Int → Int) (t : Int) : offL s n (f t) t ≤ (devL s n f t).1 := by
  unfold devL
  split
  · exact Int.le_refl _
  · dsimp only
    unfold mx
    split <;> omega
end Go.Proofs.Ythngclneffngbaa.Pr
