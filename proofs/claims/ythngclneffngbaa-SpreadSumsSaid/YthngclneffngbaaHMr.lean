import Derived.Test.YthngclneffngbaaHAd2
import Derived.Test.YthngclneffngbaaHMi
namespace Go.Proofs.Ythngclneffngbaa.Pr
open Go.RowKit Go.Proofs.YthngclneffngbaaW.PrintWords Go.Proofs.YthngclneffngbaaW.PrintLast Go.Proofs.YthngclneffngbaaW.PrintMore
set_option linter.unusedVariables false
set_option linter.unusedSimpArgs false

/-- the mirror of k, not in lowest terms -/
def mP (b : Int) : Nat → Int → Int × Int
  | 0, _ => (0, 1)
  | f + 1, k => if k ≤ 0 then (0, 1) else (k % b * (mP b f (k / b)).2 + (mP b f (k / b)).1, b * (mP b f (k / b)).2)
theorem mP_succ (b : Int) (f : Nat) (k : Int) : mP b (f + 1) k = if k ≤ 0 then (0, 1) else (k % b * (mP b f (k / b)).2 + (mP b f (k / b)).1, b * (mP b f (k / b)).2) := rfl
theorem mP_zero (b : Int) (f : Nat) : mP b f 0 = (0, 1) := by cases f <;> simp [mP]
theorem div_fuel {b k : Int} {f : Nat} (hb : 2 ≤ b) (h0 : 0 ≤ k) (hk : k < 2 ^ (f + 1)) : 0 ≤ k / b ∧ k / b < 2 ^ f := by
  refine ⟨Int.ediv_nonneg h0 (by omega), ?_⟩
  refine Int.ediv_lt_of_lt_mul (by omega) ?_
  have h1 : (0 : Int) < 2 ^ f := Int.pow_pos (by omega)
  have h2 := Int.mul_le_mul_of_nonneg_left hb (show (0 : Int) ≤ 2 ^ f by omega)
  rw [Int.pow_succ] at hk
  omega
theorem mP_range (b : Int) (hb : 2 ≤ b) : ∀ (f : Nat) (k : Int), 0 ≤ (mP b f k).1 ∧ (mP b f k).1 < (mP b f k).2
  | 0, k => by simp [mP]
  | f + 1, k => by
    rw [mP]
    by_cases h : k ≤ 0
    · simp [h]
    · simp only [if_neg h]
      obtain ⟨h1, h2⟩ := mP_range b hb f (k / b)
      have r0 := Int.emod_nonneg k (show b ≠ 0 by omega)
      have r1 := Int.emod_lt_of_pos k (show 0 < b by omega)
      have e1 := Int.mul_nonneg r0 (show 0 ≤ (mP b f (k / b)).2 by omega)
      have e2 := Int.mul_le_mul_of_nonneg_right (show k % b + 1 ≤ b by omega) (show 0 ≤ (mP b f (k / b)).2 by omega)
      rw [Int.add_mul, Int.one_mul] at e2
      omega
theorem mP_pos (b : Int) (hb : 2 ≤ b) : ∀ (f : Nat) (k : Int), 0 < k → k < 2 ^ f → 0 < (mP b f k).1
  | 0, k, h1, h2 => by simp at h2; omega
  | f + 1, k, h1, h2 => by
    rw [mP, if_neg (by omega)]
    dsimp only
    have hr := mP_range b hb f (k / b)
    have r0 := Int.emod_nonneg k (show b ≠ 0 by omega)
    have hd := div_fuel hb (by omega) h2
    by_cases z : k % b = 0
    · have hq : 0 < k / b := by
        rcases Int.lt_or_le 0 (k / b) with h | h
        · exact h
        · have := Int.mul_ediv_add_emod k b
          have e : k / b = 0 := by omega
          rw [e, z] at this
          omega
      have := mP_pos b hb f (k / b) hq hd.2
      rw [z]
      omega
    · have := Int.mul_pos (show 0 < k % b by omega) (show 0 < (mP b f (k / b)).2 by omega)
      omega
theorem mP_den (b : Int) (hb : 2 ≤ b) : ∀ (f : Nat) (k : Int), 0 ≤ k → (mP b f k).2 ≤ b * k ∨ (mP b f k).2 = 1
  | 0, k, _ => Or.inr rfl
  | f + 1, k, h0 => by
    rw [mP]
    by_cases h : k ≤ 0
    · simp [h]
    · simp only [if_neg h]
      left
      have hq := Int.ediv_nonneg h0 (show 0 ≤ b by omega)
      refine Int.mul_le_mul_of_nonneg_left ?_ (by omega)
      rcases mP_den b hb f (k / b) hq with h1 | h1
      · have := Int.mul_ediv_add_emod k b
        have r0 := Int.emod_nonneg k (show b ≠ 0 by omega)
        omega
      · omega
theorem mP_app (b : Int) (hb : 2 ≤ b) (f : Nat) (k d : Int) (hk : 0 ≤ k) (hd : 0 ≤ d ∧ d < b) (h : 0 < k * b + d) : mP b (f + 1) (k * b + d) = (d * (mP b f k).2 + (mP b f k).1, b * (mP b f k).2) := by
  rw [mP, if_neg (by omega)]
  have e1 : (k * b + d) / b = k := by
    rw [Int.add_comm, Int.add_mul_ediv_right _ _ (by omega), Int.ediv_eq_zero_of_lt hd.1 hd.2]
    omega
  have e2 : (k * b + d) % b = d := by
    rw [Int.add_comm, Int.add_mul_emod_self_right, Int.emod_eq_of_lt hd.1 hd.2]
  rw [e1, e2]
theorem backP_mir (b D : Int) (hb : 2 ≤ b ∧ b ≤ 16) (hD : 1 ≤ D) : ∀ (f : Nat) (k out rest pw : Int), 0 ≤ k → k < 2 ^ f → rest * (mP b f k).2 = (mP b f k).1 * D → 1 ≤ pw → pw * k ≤ 1000000 → backP b D (f + 1) out rest pw = some (out + pw * k) := by
  intro f
  induction f with
  | zero =>
    intro k out rest pw h0 h1 h2 h3 h4
    have : k = 0 := by simp at h1; omega
    subst this
    simp [mP] at h2
    subst h2
    simp [backP]
  | succ f ih =>
    intro k out rest pw h0 h1 h2 h3 h4
    by_cases hz : k = 0
    · subst hz
      rw [mP_zero] at h2
      simp at h2
      subst h2
      simp [backP]
    · have hr := mP_range b hb.1 f (k / b)
      have hp := mP_pos b hb.1 (f + 1) k (by omega) h1
      have hd := div_fuel hb.1 h0 h1
      have hkq := Int.mul_ediv_add_emod k b
      have r0 := Int.emod_nonneg k (show b ≠ 0 by omega)
      have r1 := Int.emod_lt_of_pos k (show 0 < b by omega)
      have hrest : 0 < rest := by
        rcases Int.lt_or_le 0 rest with h | h
        · exact h
        · have e1 := Int.mul_le_mul_of_nonneg_right h (show 0 ≤ (mP b (f + 1) k).2 by have := mP_range b hb.1 (f + 1) k; omega)
          have e2 := Int.mul_pos hp (show 0 < D by omega)
          omega
      rw [mP, if_neg (by omega)] at h2
      dsimp only at h2
      obtain ⟨q, hq⟩ : ∃ q, q = k / b := ⟨_, rfl⟩
      obtain ⟨r, hre⟩ : ∃ r, r = k % b := ⟨_, rfl⟩
      rw [← hq] at hr hd h2 hkq
      rw [← hre] at h2 hkq r0 r1
      obtain ⟨N, hN⟩ : ∃ N, N = (mP b f q).1 := ⟨_, rfl⟩
      obtain ⟨E, hE⟩ : ∃ E, E = (mP b f q).2 := ⟨_, rfl⟩
      rw [← hN, ← hE] at hr h2
      have key : (rest * b - r * D) * E = N * D := by
        rw [Int.sub_mul]
        have e1 : rest * b * E = rest * (b * E) := Int.mul_assoc ..
        rw [e1, h2, Int.add_mul]
        have e2 : r * E * D = r * D * E := by rw [Int.mul_assoc, Int.mul_comm E D, ← Int.mul_assoc]
        omega
      have lo : 0 ≤ rest * b - r * D := by
        rcases Int.lt_or_le (rest * b - r * D) 0 with h | h
        · have e1 := Int.mul_neg_of_neg_of_pos h (show 0 < E by omega)
          have e2 := Int.mul_nonneg hr.1 (show 0 ≤ D by omega)
          omega
        · exact h
      have hi : rest * b - r * D < D := by
        rcases Int.lt_or_le (rest * b - r * D) D with h | h
        · exact h
        · have e1 := Int.mul_le_mul_of_nonneg_right h (show 0 ≤ E by omega)
          have e2 := Int.mul_lt_mul_of_pos_right hr.2 (show 0 < D by omega)
          have e3 : E * D = D * E := Int.mul_comm ..
          omega
      have d1 : rest * b / D = r := by
        have : rest * b = (rest * b - r * D) + r * D := by omega
        rw [this, Int.add_mul_ediv_right _ _ (by omega), Int.ediv_eq_zero_of_lt lo hi]
        omega
      have d2 : rest * b % D = rest * b - r * D := by
        have := Int.mul_ediv_add_emod (rest * b) D
        rw [d1] at this
        have e : D * r = r * D := Int.mul_comm ..
        omega
      have hpw : pw ≤ 1000000 := by
        have := Int.mul_le_mul_of_nonneg_left (show 1 ≤ k by omega) (show 0 ≤ pw by omega)
        omega
      have hk2 : pw * k = pw * b * q + r * pw := by
        rw [← hkq, Int.mul_add, Int.mul_assoc, Int.mul_comm r pw]
      have hrp := Int.mul_nonneg r0 (show 0 ≤ pw by omega)
      rw [backP, if_pos (by omega), if_neg (by omega), d1, d2]
      rw [ih q (out + r * pw) (rest * b - r * D) (pw * b) (by omega) (by omega) (by rw [← hN, ← hE]; exact key) (by have := Int.mul_le_mul (a := 1) (b := 1) (c := pw) (d := b) (by omega) (by omega) (by omega) (by omega); omega) (by omega)]
      congr 1
      omega
theorem mirP_mP (b : Int) (hb : 2 ≤ b) : ∀ (f : Nat) (k out pw : Int), mirP b f k out pw = (out * (mP b f k).2 + (mP b f k).1, pw * (mP b f k).2)
  | 0, k, out, pw => by simp [mirP, mP]
  | f + 1, k, out, pw => by
    rw [mirP, mP]
    by_cases h : k ≤ 0
    · rw [if_neg (by omega), if_pos h]
      simp
    · rw [if_pos (by omega), if_neg h, mirP_mP b hb f]
      dsimp only
      rw [Int.add_mul, Int.mul_assoc, Int.mul_assoc, Int.add_assoc]
theorem mirF_mP (b k : Int) (hb : 2 ≤ b) : mirF b k = redF (mP b 20 k).1 (mP b 20 k).2 := by
  unfold mirF
  rw [mirP_mP b hb]
  simp
theorem mP_grow (b : Int) (hb : 2 ≤ b) : ∀ (f : Nat) (k : Int), 0 ≤ k → k < 2 ^ f → mP b (f + 1) k = mP b f k
  | 0, k, h0, h => by
    have : k = 0 := by simp at h; omega
    subst this
    simp [mP]
  | f + 1, k, h0, h => by
    rw [mP_succ b (f + 1) k, mP_succ b f k]
    by_cases hz : k ≤ 0
    · rw [if_pos hz, if_pos hz]
    · have hd := div_fuel hb h0 h
      rw [if_neg hz, if_neg hz, mP_grow b hb f (k / b) hd.1 hd.2]
/-! ### fractions: the lowest terms of equal ones are the same -/
theorem redF_mulM (m D : Int) (h : 1 ≤ D) : (redF m D).1 * D = m * (redF m D).2 := by
  have hg := gcd_pos m D h
  obtain ⟨a, ha⟩ := Int.gcd_dvd_left m D
  obtain ⟨b, hb⟩ := Int.gcd_dvd_right m D
  have e1 : (redF m D).1 = a := by
    show m / (Int.gcd m D : Int) = a
    conv => lhs; arg 1; rw [ha]
    exact Int.mul_ediv_cancel_left _ (by omega)
  have e2 : (redF m D).2 = b := by
    show D / (Int.gcd m D : Int) = b
    conv => lhs; arg 1; rw [hb]
    exact Int.mul_ediv_cancel_left _ (by omega)
  rw [e1, e2]
  conv => lhs; rw [hb]
  conv => rhs; rw [ha]
  rw [Int.mul_comm (Int.gcd m D : Int) b, ← Int.mul_assoc, Int.mul_comm (a * b), ← Int.mul_assoc]
theorem redF_posM (m D : Int) (h : 1 ≤ D) : 1 ≤ (redF m D).2 := by
  have hg := gcd_pos m D h
  have := Int.ediv_pos_of_pos_of_dvd (show 0 < D by omega) (show 0 ≤ (Int.gcd m D : Int) by omega) (Int.gcd_dvd_right m D)
  exact this
theorem redF_leM (m D : Int) (h : 1 ≤ D) : (redF m D).2 ≤ D := Int.ediv_le_self _ (by omega)
theorem redF_gcdM (m D : Int) (h : 1 ≤ D) : Int.gcd (redF m D).1 (redF m D).2 = 1 := by
  have hg := gcd_pos m D h
  exact Int.gcd_ediv_gcd_ediv_gcd (by omega)
theorem cop_dvd {b a d : Int} (h : Int.gcd a b = 1) (h2 : b ∣ a * d) : b ∣ d := by
  have h3 : b.natAbs ∣ a.natAbs * d.natAbs := by rw [← Int.natAbs_mul]; exact Int.natAbs_dvd_natAbs.2 h2
  have h4 : Nat.Coprime b.natAbs a.natAbs := by rw [Nat.coprime_comm]; exact h
  exact Int.natAbs_dvd_natAbs.1 (h4.dvd_of_dvd_mul_left h3)
/-- lowest terms are told by the ratio -/
theorem lowest_unique {a b c d : Int} (hb : 1 ≤ b) (hd : 1 ≤ d) (h1 : Int.gcd a b = 1) (h2 : Int.gcd c d = 1) (h : a * d = c * b) : a = c ∧ b = d := by
  have d1 : b ∣ d := by
    have : b ∣ a * d := ⟨c, by rw [h, Int.mul_comm]⟩
    exact cop_dvd h1 this
  have d2 : d ∣ b := by
    have : d ∣ c * b := ⟨a, by rw [← h, Int.mul_comm]⟩
    exact cop_dvd h2 this
  have e : b = d := Int.le_antisymm (Int.le_of_dvd (by omega) d1) (Int.le_of_dvd (by omega) d2)
  subst e
  exact ⟨Int.eq_of_mul_eq_mul_right (by omega) h, rfl⟩
theorem redF_eq {m D n E : Int} (hD : 1 ≤ D) (hE : 1 ≤ E) (h : m * E = n * D) : redF m D = redF n E := by
  have a1 := redF_mulM m D hD
  have a2 := redF_mulM n E hE
  obtain ⟨x, hx⟩ : ∃ x, x = (redF m D).1 := ⟨_, rfl⟩
  obtain ⟨y, hy⟩ : ∃ y, y = (redF m D).2 := ⟨_, rfl⟩
  obtain ⟨u, hu⟩ : ∃ u, u = (redF n E).1 := ⟨_, rfl⟩
  obtain ⟨v, hv⟩ : ∃ v, v = (redF n E).2 := ⟨_, rfl⟩
  rw [← hx, ← hy] at a1
  rw [← hu, ← hv] at a2
  have key : x * v = u * y := by
    have hpos : 0 < D * E := Int.mul_pos (by omega) (by omega)
    refine Int.eq_of_mul_eq_mul_right (a := D * E) (by omega) ?_
    calc x * v * (D * E) = (x * D) * (v * E) := by ac_rfl
      _ = (m * y) * (v * E) := by rw [a1]
      _ = (m * E) * (y * v) := by ac_rfl
      _ = (n * D) * (y * v) := by rw [h]
      _ = (n * v) * (y * D) := by ac_rfl
      _ = (u * E) * (y * D) := by rw [a2]
      _ = u * y * (D * E) := by ac_rfl
  have p1 := redF_posM m D hD
  have p2 := redF_posM n E hE
  have g1 := redF_gcdM m D hD
  have g2 := redF_gcdM n E hE
  rw [← hx, ← hy] at g1
  rw [← hu, ← hv] at g2
  rw [← hy] at p1
  rw [← hv] at p2
  obtain ⟨e1, e2⟩ := lowest_unique p1 p2 g1 g2 key
  exact Prod.ext (by rw [← hx, ← hu, e1]) (by rw [← hy, ← hv, e2])
end Go.Proofs.Ythngclneffngbaa.Pr
