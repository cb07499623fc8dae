import Derived.Test.YthngclneffngbaaHDev
namespace Go.Proofs.Ythngclneffngbaa.Pr
open Go.RowKit Go.Proofs.YthngclneffngbaaW.PrintWords Go.Proofs.YthngclneffngbaaW.PrintLast Go.Proofs.YthngclneffngbaaW.PrintMore
set_option linter.unusedVariables false
set_option linter.unusedSimpArgs false

/-! ### the running maximum -/
theorem lineW_max (s n : Int) (f : Int → Int) : ∀ (k : Nat) (t : Nat), t < k → (devL s n f t).1 ≤ (lineW s n f k).1
  | 0, _, h => by omega
  | k + 1, t, h => by
    unfold lineW
    by_cases e : t = k
    · subst e
      split
      · exact Int.le_refl _
      · omega
    · have ih := lineW_max s n f k t (by omega)
      split
      · dsimp only; omega
      · exact ih
theorem lineW_mono (s n : Int) (f : Int → Int) : ∀ (k : Nat), (lineW s n f k).1 ≤ (lineW s n f (k + 1)).1 := by
  intro k
  rw [lineW]
  split
  · dsimp only; omega
  · exact Int.le_refl _
/-- the answer is the deviation at its place, and none before it is as great -/
theorem lineW_at (s n : Int) (f : Int → Int) (hpos : ∀ t : Nat, -1 < (devL s n f t).1) : ∀ (k : Nat), 0 < k →
    ∃ t : Nat, t < k ∧ (lineW s n f k).2.1 = t ∧ (lineW s n f k).1 = (devL s n f t).1 ∧ (lineW s n f k).2.2 = (devL s n f t).2 ∧ ∀ u : Nat, u < t → (devL s n f u).1 < (devL s n f t).1 := by
  intro k hk
  induction k with
  | zero => omega
  | succ k ih =>
    rw [lineW]
    by_cases h0 : k = 0
    · subst h0
      rw [if_pos (by simpa [lineW] using hpos 0)]
      exact ⟨0, by omega, rfl, rfl, rfl, fun u hu => by omega⟩
    · obtain ⟨t, h1, h2, h3, h4, h5⟩ := ih (by omega)
      by_cases hc : (lineW s n f k).1 < (devL s n f k).1
      · rw [if_pos hc]
        refine ⟨k, by omega, rfl, rfl, rfl, fun u hu => ?_⟩
        have := lineW_max s n f k u hu
        omega
      · rw [if_neg hc]
        exact ⟨t, by omega, h2, h3, h4, h5⟩

theorem cnt_mono (l : List Int) {a b : Int} (h : a ≤ b) : cnt l a ≤ cnt l b := by
  induction l with
  | nil => simp [cnt]
  | cons x l ih =>
    have e1 : cnt (x :: l) a = cnt l a + if x < a then 1 else 0 := by unfold cnt; by_cases h : x < a <;> simp [List.filter_cons, h]
    have e2 : cnt (x :: l) b = cnt l b + if x < b then 1 else 0 := by unfold cnt; by_cases h : x < b <;> simp [List.filter_cons, h]
    rw [e1, e2]
    split <;> split <;> omega
theorem cnt_cons (l : List Int) (x t : Int) : cnt (x :: l) t = cnt l t + if x < t then 1 else 0 := by unfold cnt; by_cases h : x < t <;> simp [List.filter_cons, h]
theorem cnt_mem (l : List Int) (x : Int) (h : x ∈ l) : cnt l x + 1 ≤ cnt l (x + 1) := by
  induction l with
  | nil => simp at h
  | cons y l ih =>
    rw [cnt_cons, cnt_cons]
    have hm := cnt_mono l (show x ≤ x + 1 by omega)
    rcases List.mem_cons.1 h with rfl | h
    · rw [if_neg (by omega), if_pos (by omega)]
      omega
    · have := ih h
      split <;> split <;> omega
theorem okPts_mem {s : Int} {l : List Int} (h : okPts s l = true) {x : Int} (hx : x ∈ l) : 0 ≤ x ∧ x ≤ s - 1 := by
  unfold okPts at h
  have := List.all_eq_true.1 h x hx
  simpa using this
theorem okLine_pts {s : Int} {l : List Int} (h : okLine s l = true) : okPts s l = true := by
  unfold okLine at h
  simp at h
  exact h.2.2
/-- the discrepancy is at least half the scale -/
theorem line_half (s : Int) (l : List Int) (h : okLine s l = true) : s ≤ 2 * (lineW s l.length (cnt l) (s + 1).toNat).1 := by
  obtain ⟨b1, b2, b3, b4⟩ := okLine_bounds h
  match l, b3 with
  | x :: l, _ =>
    have hx := okPts_mem (okLine_pts h) (List.mem_cons_self (a := x) (l := l))
    have hm := cnt_mem (x :: l) x List.mem_cons_self
    have hl := lineW_max s (x :: l).length (cnt (x :: l)) (s + 1).toNat x.toNat (by omega)
    rw [Int.toNat_of_nonneg hx.1] at hl
    refine Int.le_trans ?_ (Int.mul_le_mul_of_nonneg_left hl (by omega))
    unfold devL
    rw [if_neg (by omega)]
    dsimp only
    have h1 : (cnt (x :: l) x + 1) * s ≤ cnt (x :: l) (x + 1) * s := Int.mul_le_mul_of_nonneg_right hm (by omega)
    rw [Int.add_mul] at h1
    unfold offL mx
    repeat' split
    all_goals omega
end Go.Proofs.Ythngclneffngbaa.Pr
