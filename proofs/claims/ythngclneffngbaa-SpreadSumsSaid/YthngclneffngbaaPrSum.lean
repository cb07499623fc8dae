import Derived.Test.YthngclneffngbaaHSum
import Derived.Test.YthngclneffngbaaHMr
namespace Go.Proofs.Ythngclneffngbaa.Pr
open Go.RowKit Go.Proofs.YthngclneffngbaaW.PrintWords Go.Proofs.YthngclneffngbaaW.PrintLast Go.Proofs.YthngclneffngbaaW.PrintMore
set_option linter.unusedVariables false

theorem redF_small (n d B : Int) (h1 : 1 ≤ d) (h2 : d ≤ B) (h3 : -B ≤ n) (h4 : n ≤ B) (hB : B ≤ 1000000000) :
    smallB (redF n d).1 (redF n d).2 = true ∧ (1 ≤ (redF n d).2 ∧ (redF n d).2 ≤ B) ∧ -B ≤ (redF n d).1 ∧ (redF n d).1 ≤ B := by
  have p := redF_posM n d h1
  have l := redF_leM n d h1
  have g := redF_gcdM n d h1
  have hg := gcd_pos n d h1
  have b : -B ≤ (redF n d).1 ∧ (redF n d).1 ≤ B := ediv_bound hg (Int.gcd_dvd_left n d) h3 h4
  refine ⟨?_, ⟨p, by omega⟩, b⟩
  unfold smallB
  rw [decide_eq_true_eq]
  exact ⟨⟨p, by omega⟩, ⟨by omega, by omega⟩, g⟩
theorem mulB {x y X Y : Int} (h1 : -X ≤ x) (h2 : x ≤ X) (h3 : 1 ≤ y) (h4 : y ≤ Y) (hX : 0 ≤ X) : -(X * Y) ≤ x * y ∧ x * y ≤ X * Y := by
  have a1 := Int.mul_le_mul_of_nonneg_right h1 (show 0 ≤ y by omega)
  have a2 := Int.mul_le_mul_of_nonneg_right h2 (show 0 ≤ y by omega)
  have a3 := Int.mul_le_mul_of_nonneg_left h4 hX
  rw [Int.neg_mul] at a1
  omega
theorem addP_small (p q : Int × Int) (B D : Int) (hp : -B ≤ p.1 ∧ p.1 ≤ B) (hp2 : 1 ≤ p.2 ∧ p.2 ≤ B) (hq : -B ≤ q.1 ∧ q.1 ≤ B) (hq2 : 1 ≤ q.2 ∧ q.2 ≤ B) (hD : B * B + B * B ≤ D) (hD2 : D ≤ 1000000000) : smallB (addP p q).1 (addP p q).2 = true := by
  have m1 := mulB hp.1 hp.2 hq2.1 hq2.2 (by omega)
  have m2 := mulB hq.1 hq.2 hp2.1 hp2.2 (by omega)
  have m3 := mulB (x := p.2) (by omega) hp2.2 hq2.1 hq2.2 (by omega : (0:Int) ≤ B)
  have m4 : 0 < p.2 * q.2 := Int.mul_pos (by omega) (by omega)
  exact (redF_small _ _ D (by omega) (by omega) (by omega) (by omega) hD2).1
theorem addP_comm (p q : Int × Int) : addP q p = addP p q := by
  unfold addP
  rw [Int.add_comm, Int.mul_comm q.2 p.2]
theorem addP_assoc (p q r : Int × Int) (hp : 1 ≤ p.2) (hq : 1 ≤ q.2) (hr : 1 ≤ r.2) : addP p (addP q r) = addP (addP p q) r := by
  have dA : 1 ≤ p.2 * q.2 := Int.mul_pos (show 0 < p.2 by omega) (show 0 < q.2 by omega)
  have dC : 1 ≤ q.2 * r.2 := Int.mul_pos (show 0 < q.2 by omega) (show 0 < r.2 by omega)
  have hA := redF_mulM (p.1 * q.2 + q.1 * p.2) (p.2 * q.2) dA
  have hC := redF_mulM (q.1 * r.2 + r.1 * q.2) (q.2 * r.2) dC
  have pA := redF_posM (p.1 * q.2 + q.1 * p.2) (p.2 * q.2) dA
  have pC := redF_posM (q.1 * r.2 + r.1 * q.2) (q.2 * r.2) dC
  have eA : addP p q = redF (p.1 * q.2 + q.1 * p.2) (p.2 * q.2) := rfl
  have eC : addP q r = redF (q.1 * r.2 + r.1 * q.2) (q.2 * r.2) := rfl
  rw [← eA] at hA pA
  rw [← eC] at hC pC
  obtain ⟨A, hAe⟩ : ∃ A, A = addP p q := ⟨_, rfl⟩
  obtain ⟨C, hCe⟩ : ∃ C, C = addP q r := ⟨_, rfl⟩
  rw [← hAe] at hA pA ⊢
  rw [← hCe] at hC pC ⊢
  obtain ⟨n0, d0⟩ := p
  obtain ⟨n1, d1⟩ := q
  obtain ⟨n2, d2⟩ := r
  obtain ⟨A1, A2⟩ := A
  obtain ⟨C1, C2⟩ := C
  dsimp only at hp hq hr hA hC pA pC
  show redF (n0 * C2 + C1 * d0) (d0 * C2) = redF (A1 * d2 + n2 * A2) (A2 * d2)
  refine redF_eq (Int.mul_pos (show 0 < d0 by omega) (show 0 < C2 by omega)) (Int.mul_pos (show 0 < A2 by omega) (show 0 < d2 by omega)) ?_
  refine Int.eq_of_mul_eq_mul_right (a := d1) (by omega) ?_
  have l : (n0 * C2 + C1 * d0) * (A2 * d2) * d1 = n0 * C2 * A2 * d2 * d1 + (C1 * (d1 * d2)) * (d0 * A2) := by
    rw [Int.add_mul, Int.add_mul]
    congr 1 <;> ac_rfl
  have r : (A1 * d2 + n2 * A2) * (d0 * C2) * d1 = (A1 * (d0 * d1)) * (d2 * C2) + n2 * A2 * d0 * C2 * d1 := by
    rw [Int.add_mul, Int.add_mul]
    congr 1 <;> ac_rfl
  rw [l, r, hA, hC]
  have u1 : (n1 * d2 + n2 * d1) * C2 * (d0 * A2) = n1 * d2 * C2 * d0 * A2 + n2 * d1 * C2 * d0 * A2 := by
    rw [Int.add_mul, Int.add_mul]
    congr 1 <;> ac_rfl
  have u2 : (n0 * d1 + n1 * d0) * A2 * (d2 * C2) = n0 * d1 * A2 * d2 * C2 + n1 * d0 * A2 * d2 * C2 := by
    rw [Int.add_mul, Int.add_mul]
    congr 1 <;> ac_rfl
  rw [u1, u2, ← Int.add_assoc]
  have v1 : n0 * C2 * A2 * d2 * d1 = n0 * d1 * A2 * d2 * C2 := by ac_rfl
  have v2 : n1 * d2 * C2 * d0 * A2 = n1 * d0 * A2 * d2 * C2 := by ac_rfl
  have v3 : n2 * d1 * C2 * d0 * A2 = n2 * A2 * d0 * C2 * d1 := by ac_rfl
  rw [v1, v2, v3]
def numnahlaw03_SpreadSums.f (x0 x1 x2 x3 x4 x5 : Int) : Option Bool := some true
theorem numnahlaw03_SpreadSums.calls (x0 x1 x2 x3 x4 x5 : Int) (r : Bool) (w : World) (h : numnahlaw03_SpreadSums.f x0 x1 x2 x3 x4 x5 = some r) :
    Calls Try.prog 7 #[.agg #[.int .i64 x0, .int .i64 x1, .int .i64 x2, .int .i64 x3, .int .i64 x4, .int .i64 x5]] w fun e w' => e = .returned (.bool r) ∧ Below w.heap.size w w' := by
  obtain rfl : r = true := by simpa [numnahlaw03_SpreadSums.f] using h.symm
  have sm : ∀ x y : Int, smallB (sumF x y).1 (sumF x y).2 = true ∧ (1 ≤ (sumF x y).2 ∧ (sumF x y).2 ≤ 500) ∧ -500 ≤ (sumF x y).1 ∧ (sumF x y).1 ≤ 500 := by
    intro x y
    have h1 := modF_range x 1001 (by omega)
    have h2 := modF_range y 500 (by omega)
    exact redF_small _ _ 500 (by omega) (by omega) (by omega) (by omega) (by omega)
  obtain ⟨a1, a2, a3⟩ := sm x0 x1
  obtain ⟨b1, b2, b3⟩ := sm x2 x3
  obtain ⟨c1, c2, c3⟩ := sm x4 x5
  have sp := smallB_spec a1
  refine sums_walk x0 x1 x2 x3 x4 x5 _ _ _ _ _ _ rfl rfl rfl a1 b1 c1 (addP_small _ _ 500 500000 a3 a2 b3 b2 (by omega) (by omega)) (addP_small _ _ 500 500000 b3 b2 c3 c2 (by omega) (by omega)) ?_ rfl (addP_comm _ _) rfl rfl (addP_assoc _ _ _ a2.1 b2.1 c2.1) ?_ ?_ w
  · unfold smallB
    rw [decide_eq_true_eq, Int.neg_gcd]
    exact ⟨by omega, by omega, sp.2.2⟩
  · unfold addP
    rw [show (sumF x0 x1).1 * (0, (1 : Int)).2 + (0, (1 : Int)).1 * (sumF x0 x1).2 = (sumF x0 x1).1 by simp, show (sumF x0 x1).2 * (0, (1 : Int)).2 = (sumF x0 x1).2 by simp]
    exact redF_of _ _ a2.1 sp.2.2
  · have hz : addP (sumF x0 x1) (-(sumF x0 x1).1, (sumF x0 x1).2) = redF 0 ((sumF x0 x1).2 * (sumF x0 x1).2) := by
      unfold addP
      dsimp only
      rw [Int.neg_mul, Int.add_right_neg]
    rw [hz, redF_eq (n := 0) (E := 1) (Int.mul_pos (show 0 < (sumF x0 x1).2 by omega) (show 0 < (sumF x0 x1).2 by omega)) (by omega) (by simp)]
    exact redF_of 0 1 (by omega) rfl
end Go.Proofs.Ythngclneffngbaa.Pr
