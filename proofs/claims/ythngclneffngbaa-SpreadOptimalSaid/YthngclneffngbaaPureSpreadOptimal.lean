/- The points of Best have the smallest discrepancy, and no points as many have a smaller one: for every scale and list. -/
import Derived.Test.YthngclneffngbaaPrB1
import Derived.Test.YthngclneffngbaaHAw
import Derived.Test.YthngclneffngbaaHO
namespace Go.Proofs.Ythngclneffngbaa.Pure
open Go.RowKit Go.Proofs.Ythngclneffngbaa.Pr Go.Proofs.YthngclneffngbaaW.PrintWords Go.Proofs.YthngclneffngbaaW.PrintLast Go.Proofs.YthngclneffngbaaW.PrintMore

theorem redF_mul (m D : Int) (h : 1 ≤ D) : (redF m D).1 * D = m * (redF m D).2 := by
  have hg := gcd_pos m D h
  obtain ⟨a, ha⟩ := Int.gcd_dvd_left m D
  obtain ⟨b, hb⟩ := Int.gcd_dvd_right m D
  have e1 : (redF m D).1 = a := by
    show m / (Int.gcd m D : Int) = a
    conv => lhs; arg 1; rw [ha]
    exact Int.mul_ediv_cancel_left _ (by omega)
  have e2 : (redF m D).2 = b := by
    show D / (Int.gcd m D : Int) = b
    conv => lhs; arg 1; rw [hb]
    exact Int.mul_ediv_cancel_left _ (by omega)
  rw [e1, e2]
  conv => lhs; rw [hb]
  conv => rhs; rw [ha]
  rw [Int.mul_comm (Int.gcd m D : Int) b, ← Int.mul_assoc, Int.mul_comm (a * b), ← Int.mul_assoc]
theorem redF_pos (m D : Int) (h : 1 ≤ D) : 1 ≤ (redF m D).2 := by
  have hg := gcd_pos m D h
  obtain ⟨b, hb⟩ := Int.gcd_dvd_right m D
  have e2 : (redF m D).2 = b := by
    show D / (Int.gcd m D : Int) = b
    conv => lhs; arg 1; rw [hb]
    exact Int.mul_ediv_cancel_left _ (by omega)
  rw [e2]
  rcases Int.lt_or_le 0 b with h1 | h1
  · omega
  · have := Int.mul_le_mul_of_nonneg_left h1 (show 0 ≤ (Int.gcd m D : Int) by omega)
    omega
theorem redF_le (m D : Int) (h : 1 ≤ D) : (redF m D).2 ≤ D := Int.ediv_le_self _ (by omega)
theorem SpreadOptimal : numnahlaw03_SpreadOptimal.Pure := by
  intro a0 l1 _ _ hl _
  obtain ⟨hs1, hs2, hok⟩ := tame_ok a0 1000 l1 (by omega) (by omega)
  have ht := tame_ev a0 1000 l1 (by omega) (by omega) hl
  generalize tameL (tameS a0 1000) l1 = l at ht hok
  generalize tameS a0 1000 = s at ht hok hs1 hs2
  obtain ⟨b1, b2, b3, b4⟩ := okLine_bounds hok
  obtain ⟨t, o, hL⟩ := odds_Line l.length b3 b4
  have hhalf := line_half s l hok
  refine Evt.ex ?_
  unfold numnahlaw03_SpreadOptimal.f
  refine Evt.bind ht (Evt.bind (best_ev l.length b3 b4) ?_)
  dsimp only
  rw [wr (by omega) (by omega), hL]
  simp only [Option.bind_some]
  unfold spread_Line.f
  rw [if_pos hok]
  simp only [Option.bind_some, if_true, beq_self_eq_true, Bool.and_self]
  unfold numnahlaw03_less.f
  simp only [Option.bind_some]
  have hD : 1 ≤ (l.length : Int) * s := by
    have := Int.mul_le_mul (a := 1) (b := 1) (c := (l.length : Int)) (d := s) (by omega) (by omega) (by omega) (by omega)
    omega
  have hD2 := bnd_mul (a := l.length) (b := s) (A := 60) (B := 1000) (by omega) (by omega) (by omega) (by omega)
  have hbd := lineW_bound s l (by omega) (by omega) (s + 1).toNat (by omega)
  generalize (lineW s l.length (cnt l) (s + 1).toNat).1 = m at hhalf hbd ⊢
  have r1 := redF_mul m (l.length * s) hD
  have r2 := redF_pos m (l.length * s) hD
  have r3 := redF_le m (l.length * s) hD
  have r4 : (redF m (l.length * s)).2 ≤ (redF m (l.length * s)).1 * (2 * l.length) := by
    generalize (redF m (l.length * s)).1 = p at r1 ⊢
    generalize (redF m (l.length * s)).2 = q at r1 r2 r3 ⊢
    -- p * (n s) = m q, s ≤ 2 m: so q s ≤ 2 m q = 2 p n s
    have h5 : q * s ≤ p * (2 * l.length) * s := by
      have h6 : s * q ≤ (2 * m) * q := Int.mul_le_mul_of_nonneg_right hhalf (by omega)
      have h7 : p * (2 * l.length) * s = 2 * (p * (l.length * s)) := by
        rw [Int.mul_assoc, Int.mul_assoc 2, Int.mul_left_comm p 2]
      rw [h7, r1, Int.mul_comm q s]
      rw [Int.mul_assoc] at h6
      exact h6
    exact Int.le_of_mul_le_mul_right h5 (by omega)
  have r5 := ediv_bound (B := 120000) (gcd_pos m (l.length * s) hD) (Int.gcd_dvd_left ..) (by omega) hbd.2
  have r6 : -120000 ≤ (redF m (l.length * s)).1 ∧ (redF m (l.length * s)).1 ≤ 120000 := r5
  generalize (redF m (l.length * s)).1 = p at r4 r6 ⊢
  generalize (redF m (l.length * s)).2 = q at r2 r3 r4 ⊢
  have hb : 0 ≤ p * (2 * l.length) ∧ p * (2 * l.length) ≤ 120000 * 120 := by
    refine bnd_mul ?_ r6.2 (by omega) (by omega)
    rcases Int.lt_or_le p 0 with h | h
    · have := Int.mul_le_mul_of_nonneg_right (show p ≤ 0 by omega) (show 0 ≤ 2 * (l.length : Int) by omega)
      omega
    · exact h
  rw [wr (by omega) (by omega), wr (by omega) (by omega), decide_eq_false (by omega)]
  refine Evt.bind awake_ev (Evt.all fun _ => rfl)
end Go.Proofs.Ythngclneffngbaa.Pure
