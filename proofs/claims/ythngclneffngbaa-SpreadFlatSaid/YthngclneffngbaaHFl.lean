import Derived.Test.YthngclneffngbaaHSheet
import Derived.Test.YthngclneffngbaaHI2
import Derived.Test.YthngclneffngbaaHT
namespace Go.Proofs.Ythngclneffngbaa.Pr
open Go.RowKit Go.Proofs.YthngclneffngbaaW.PrintWords Go.Proofs.YthngclneffngbaaW.PrintLast Go.Proofs.YthngclneffngbaaW.PrintMore
set_option linter.unusedVariables false
set_option linter.unusedSimpArgs false
set_option linter.unusedSectionVars false

/-! ### the farthest of a sheet, told without an order -/
theorem foldB_ge : ∀ (l : List Wit) (b : Wit), b.2.2.1 ≤ (l.foldl bestStep b).2.2.1 ∧ ∀ t ∈ l, t.2.2.1 ≤ (l.foldl bestStep b).2.2.1
  | [], b => ⟨Int.le_refl _, fun t h => by cases h⟩
  | u :: l, b => by
    rw [List.foldl_cons]
    obtain ⟨h1, h2⟩ := foldB_ge l (bestStep b u)
    have e : b.2.2.1 ≤ (bestStep b u).2.2.1 ∧ u.2.2.1 ≤ (bestStep b u).2.2.1 := by
      unfold bestStep
      split <;> omega
    refine ⟨by omega, fun t ht => ?_⟩
    rcases List.mem_cons.1 ht with rfl | ht
    · omega
    · exact h2 t ht
theorem bestW_ge (l : List Wit) (t : Wit) (h : t ∈ l) : t.2.2.1 ≤ (bestW l).2.2.1 := (foldB_ge l _).2 t h
theorem bestW_off_le (l m : List Wit) (h : ∀ t ∈ l, ∃ u ∈ m, u.2.2.1 = t.2.2.1) : (bestW l).2.2.1 ≤ (bestW m).2.2.1 := by
  rcases bestW_mem l with e | e
  · rw [e]
    exact (foldB_ge m _).1
  · obtain ⟨u, hu, e2⟩ := h _ e
    have := bestW_ge m u hu
    omega
theorem witRow_mem (s n : Int) (g : Int → Int → Int) (x : Int) (t : Wit) : ∀ k : Nat, t ∈ witRow s n g x k ↔ ∃ y : Nat, y < k ∧ t ∈ witAt s n g x y
  | 0 => by simp [witRow]
  | k + 1 => by
    rw [witRow, List.mem_append, witRow_mem s n g x t k]
    constructor
    · rintro (⟨y, h1, h2⟩ | h)
      · exact ⟨y, by omega, h2⟩
      · exact ⟨k, by omega, h⟩
    · rintro ⟨y, h1, h2⟩
      by_cases e : y = k
      · subst e
        exact Or.inr h2
      · exact Or.inl ⟨y, by omega, h2⟩
theorem witAll_mem (s n : Int) (g : Int → Int → Int) (t : Wit) : ∀ k : Nat, t ∈ witAll s n g k ↔ ∃ x y : Nat, x < k ∧ (y : Int) < s + 1 ∧ t ∈ witAt s n g x y
  | 0 => by simp [witAll]
  | k + 1 => by
    rw [witAll, List.mem_append, witAll_mem s n g t k, witRow_mem]
    constructor
    · rintro (⟨x, y, h1, h2, h3⟩ | ⟨y, h1, h2⟩)
      · exact ⟨x, y, by omega, h2, h3⟩
      · exact ⟨k, y, by omega, by omega, h2⟩
    · rintro ⟨x, y, h1, h2, h3⟩
      by_cases e : x = k
      · subst e
        exact Or.inr ⟨y, by omega, h3⟩
      · exact Or.inl ⟨x, y, by omega, h2, h3⟩
theorem offS_comm (s n c x y : Int) : offS s n c x y = offS s n c y x := by unfold offS; rw [Int.mul_comm x y]
theorem witAt_swap (s n : Int) (g h : Int → Int → Int) (e : ∀ x y, h y x = g x y) (x y : Int) (t : Wit) (ht : t ∈ witAt s n g x y) : ∃ u ∈ witAt s n h y x, u.2.2.1 = t.2.2.1 := by
  unfold witAt at ht ⊢
  rcases List.mem_append.1 ht with k | k
  · split at k
    · rw [List.mem_singleton] at k
      subst k
      refine ⟨(y, x, offS s n (h y x) y x, true), List.mem_append_left _ ?_, ?_⟩
      · rw [if_pos (by omega)]
        exact List.mem_singleton.2 rfl
      · rw [e]
        exact offS_comm ..
    · cases k
  · split at k
    · rw [List.mem_singleton] at k
      subst k
      refine ⟨(y, x, offS s n (h (y + 1) (x + 1)) y x, false), List.mem_append_right _ ?_, ?_⟩
      · rw [if_pos (by omega)]
        exact List.mem_singleton.2 rfl
      · rw [e]
        exact offS_comm ..
    · cases k
theorem sheet_swap_le (s n : Int) (g h : Int → Int → Int) (e : ∀ x y, h y x = g x y) : (bestW (witAll s n g (s + 1).toNat)).2.2.1 ≤ (bestW (witAll s n h (s + 1).toNat)).2.2.1 := by
  refine bestW_off_le _ _ (fun t ht => ?_)
  obtain ⟨x, y, h1, h2, h3⟩ := (witAll_mem ..).1 ht
  obtain ⟨u, hu, e2⟩ := witAt_swap s n g h e x y t h3
  exact ⟨u, (witAll_mem ..).2 ⟨y, x, by omega, by omega, hu⟩, e2⟩
theorem sheet_swap (s n : Int) (g h : Int → Int → Int) (e : ∀ x y, h y x = g x y) : (bestW (witAll s n g (s + 1).toNat)).2.2.1 = (bestW (witAll s n h (s + 1).toNat)).2.2.1 :=
  Int.le_antisymm (sheet_swap_le s n g h e) (sheet_swap_le s n h g (fun x y => (e y x).symm))
/-! ### points with y = 0 -/
theorem cnt2_flat (l : List Int) (x y : Int) (hy : 0 < y) : cnt2 (l.map (fun v => (⟨v, 0⟩ : S50))) x y = cnt l x := by
  induction l with
  | nil => rfl
  | cons v l ih =>
    rw [List.map_cons, cnt2_cons, ih, cnt_cons]
    by_cases h : v < x
    · rw [if_pos ⟨h, hy⟩, if_pos h]
    · rw [if_neg (fun k => h k.1), if_neg h]
theorem mul_abs (s a : Int) (hs : 0 ≤ s) : mx (a * s) (-(a * s)) = mx a (-a) * s := by
  unfold mx
  by_cases h : a < -a
  · have : a * s ≤ 0 := by
      have := Int.mul_nonneg (show 0 ≤ -a by omega) hs
      rw [Int.neg_mul] at this
      omega
    rw [if_pos h, Int.neg_mul]
    split <;> omega
  · have := Int.mul_nonneg (show 0 ≤ a by omega) hs
    rw [if_neg h]
    split <;> omega
theorem offS_line (s n c t : Int) (hs : 0 ≤ s) : offS s n c t s = offL s n c t * s := by
  unfold offS offL
  rw [← mul_abs s (c * s - t * n) hs, Int.sub_mul, show t * s * n = t * n * s by rw [Int.mul_assoc, Int.mul_comm s n, ← Int.mul_assoc]]
theorem flat_far (s : Int) (l : List Int) (ok : okLine s l = true) (hs : s ≤ 100) : (lineW s l.length (cnt l) (s + 1).toNat).1 * s ≤ (bestW (witAll s l.length (cnt2 (l.map (fun v => (⟨v, 0⟩ : S50)))) (s + 1).toNat)).2.2.1 := by
  obtain ⟨b1, b2, b3, b4⟩ := okLine_bounds ok
  obtain ⟨g, hg⟩ : ∃ g, g = cnt2 (l.map (fun v => (⟨v, 0⟩ : S50))) := ⟨_, rfl⟩
  have hgc : ∀ x y, 0 < y → g x y = cnt l x := fun x y h => by rw [hg]; exact cnt2_flat l x y h
  rw [← hg]
  have hopen : ∀ t : Int, 0 < t → t ≤ s → offL s l.length (cnt l t) t * s ≤ (bestW (witAll s l.length g (s + 1).toNat)).2.2.1 := by
    intro t t0 t1
    have h := bestW_ge (witAll s l.length g (s + 1).toNat) (t, s, offS s l.length (g t s) t s, true) ((witAll_mem ..).2 ⟨t.toNat, s.toNat, by omega, by omega, by
      rw [Int.toNat_of_nonneg (by omega), Int.toNat_of_nonneg (by omega)]
      unfold witAt
      rw [if_pos (by omega)]
      exact List.mem_append_left _ (List.mem_singleton.2 rfl)⟩)
    rw [← offS_line s _ _ _ (by omega), ← hgc t s (by omega)]
    exact h
  have hzero : 0 ≤ (bestW (witAll s l.length g (s + 1).toNat)).2.2.1 := Int.le_trans (Int.mul_nonneg (offL_nonneg ..) (by omega)) (hopen s (by omega) (Int.le_refl _))
  have hm := okLine_pts ok
  have hdev : ∀ t : Int, 0 ≤ t → t ≤ s → offL s l.length (cnt l t) t * s ≤ (bestW (witAll s l.length g (s + 1).toNat)).2.2.1 := by
    intro t t0 t1
    by_cases e : t = 0
    · subst e
      have hc : cnt l 0 = 0 := by
        unfold cnt
        rw [List.filter_eq_nil_iff.2 ?_]
        · rfl
        · intro x hx
          have := okPts_mem hm hx
          simp
          omega
      rw [hc, show offL s l.length 0 0 = 0 by simp [offL, mx], Int.zero_mul]
      exact hzero
    · exact hopen t (by omega) t1
  have hupto : ∀ t : Int, 0 ≤ t → t < s → offL s l.length (cnt l (t + 1)) t * s ≤ (bestW (witAll s l.length g (s + 1).toNat)).2.2.1 := by
    intro t t0 t1
    by_cases hc : t * l.length ≤ cnt l (t + 1) * s
    · have h := bestW_ge (witAll s l.length g (s + 1).toNat) (t, s - 1, offS s l.length (g (t + 1) (s - 1 + 1)) t (s - 1), false) ((witAll_mem ..).2 ⟨t.toNat, (s - 1).toNat, by omega, by omega, by
        rw [Int.toNat_of_nonneg (by omega), Int.toNat_of_nonneg (by omega)]
        unfold witAt
        rw [if_pos (show t < s ∧ s - 1 < s by omega)]
        exact List.mem_append_right _ (List.mem_singleton.2 rfl)⟩)
      rw [hgc _ _ (by omega)] at h
      refine Int.le_trans ?_ h
      have e1 : offL s l.length (cnt l (t + 1)) t = cnt l (t + 1) * s - t * l.length := by unfold offL mx; split <;> omega
      have e2 : t * (s - 1) * l.length = t * l.length * s - t * l.length := by
        rw [Int.mul_sub, Int.mul_one, Int.sub_mul, Int.mul_assoc t s, Int.mul_comm s, ← Int.mul_assoc]
      have e3 := Int.mul_nonneg t0 (show (0 : Int) ≤ l.length by omega)
      rw [e1, Int.sub_mul]
      dsimp only
      unfold offS mx
      rw [e2]
      split <;> omega
    · refine Int.le_trans ?_ (hdev t t0 (by omega))
      have hmono := cnt_mono l (show t ≤ t + 1 by omega)
      have h1 := Int.mul_le_mul_of_nonneg_right hmono (show 0 ≤ s by omega)
      refine Int.mul_le_mul_of_nonneg_right ?_ (by omega)
      unfold offL mx
      split <;> split <;> omega
  have hpos : ∀ t : Nat, -1 < (devL s l.length (cnt l) t).1 := by
    intro t
    have := offL_devL s l.length (cnt l) t
    have := offL_nonneg s l.length (cnt l t) t
    omega
  obtain ⟨t, ht, _, e, _⟩ := lineW_at s l.length (cnt l) hpos (s + 1).toNat (by omega)
  rw [e]
  unfold devL
  split
  · exact hdev t (by omega) (by omega)
  · dsimp only
    unfold mx
    split
    · exact hupto t (by omega) (by omega)
    · exact hdev t (by omega) (by omega)
theorem flat_less (off most n s : Int) (h1 : 1 ≤ n * s) (h2 : 1 ≤ n * s * s) (hs : 1 ≤ s) (ho : most * s ≤ off) : ¬ ((redF off (n * s * s)).1 * (redF most (n * s)).2 < (redF most (n * s)).1 * (redF off (n * s * s)).2) := by
  obtain ⟨g, g1, e1, e2, _, _⟩ := redF_spec off (n * s * s) h2
  obtain ⟨h, g2, e3, e4, _, _⟩ := redF_spec most (n * s) h1
  intro hlt
  have hgh : 0 < g * h := Int.mul_pos (by omega) (by omega)
  have k := Int.mul_lt_mul_of_pos_left hlt hgh
  have k1 : g * h * ((redF off (n * s * s)).1 * (redF most (n * s)).2) = off * (n * s) := by
    rw [show g * h * ((redF off (n * s * s)).1 * (redF most (n * s)).2) = (g * (redF off (n * s * s)).1) * (h * (redF most (n * s)).2) by ac_rfl, ← e1, ← e4]
  have k2 : g * h * ((redF most (n * s)).1 * (redF off (n * s * s)).2) = most * (n * s * s) := by
    rw [show g * h * ((redF most (n * s)).1 * (redF off (n * s * s)).2) = (h * (redF most (n * s)).1) * (g * (redF off (n * s * s)).2) by ac_rfl, ← e3, ← e2]
  rw [k1, k2] at k
  have k3 := Int.mul_le_mul_of_nonneg_right ho (show 0 ≤ n * s by omega)
  rw [show most * (n * s * s) = most * s * (n * s) by ac_rfl] at k
  omega
end Go.Proofs.Ythngclneffngbaa.Pr
