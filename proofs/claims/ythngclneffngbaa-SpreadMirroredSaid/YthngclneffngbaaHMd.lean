import Derived.Test.YthngclneffngbaaHInt
import Derived.Test.YthngclneffngbaaHGp
namespace Go.Proofs.Ythngclneffngbaa.Pr
open Go.RowKit Go.Proofs.YthngclneffngbaaW.PrintWords Go.Proofs.YthngclneffngbaaW.PrintLast Go.Proofs.YthngclneffngbaaW.PrintMore
set_option linter.unusedVariables false
set_option linter.unusedSimpArgs false

/-! ### the greatest deviation of an interval, told without an order -/
theorem rowW_acc (s n : Int) (f : Int → Int) (a : Int) (acc : Int × Int × Int) : ∀ k : Nat, acc.1 ≤ (rowW s n f a acc k).1
  | 0 => Int.le_refl _
  | k + 1 => by
    have ih := rowW_acc s n f a acc k
    rw [rowW]
    split
    · dsimp only
      omega
    · exact ih
theorem rowW_ge (s n : Int) (f : Int → Int) (a : Int) (acc : Int × Int × Int) : ∀ (k j : Nat), j < k → offL s n (f (a + 1 + j) - f a) (1 + j) ≤ (rowW s n f a acc k).1
  | 0, j, h => by omega
  | k + 1, j, h => by
    rw [rowW]
    by_cases e : j = k
    · subst e
      split
      · exact Int.le_refl _
      · omega
    · have ih := rowW_ge s n f a acc k j (by omega)
      split
      · dsimp only
        omega
      · exact ih
theorem rowW_at (s n : Int) (f : Int → Int) (a : Int) (acc : Int × Int × Int) : ∀ k : Nat, (rowW s n f a acc k).1 = acc.1 ∨ ∃ j, j < k ∧ (rowW s n f a acc k).1 = offL s n (f (a + 1 + j) - f a) (1 + j)
  | 0 => Or.inl rfl
  | k + 1 => by
    rw [rowW]
    split
    · exact Or.inr ⟨k, by omega, rfl⟩
    · rcases rowW_at s n f a acc k with h | ⟨j, hj, h⟩
      · exact Or.inl h
      · exact Or.inr ⟨j, by omega, h⟩
theorem intW_low (s n : Int) (f : Int → Int) : ∀ K : Nat, -1 ≤ (intW s n f K).1
  | 0 => by simp [intW]
  | K + 1 => by
    rw [intW]
    exact Int.le_trans (intW_low s n f K) (rowW_acc ..)
theorem intW_ge (s n : Int) (f : Int → Int) : ∀ (K a j : Nat), a < K → j < (s - a).toNat → offL s n (f ((a : Int) + 1 + j) - f a) (1 + j) ≤ (intW s n f K).1
  | 0, a, j, h, _ => by omega
  | K + 1, a, j, h, h2 => by
    rw [intW]
    by_cases e : a = K
    · subst e
      exact rowW_ge s n f a _ _ j h2
    · exact Int.le_trans (intW_ge s n f K a j (by omega) h2) (rowW_acc ..)
theorem intW_at (s n : Int) (f : Int → Int) : ∀ K : Nat, (intW s n f K).1 = -1 ∨ ∃ a j : Nat, a < K ∧ j < (s - a).toNat ∧ (intW s n f K).1 = offL s n (f ((a : Int) + 1 + j) - f a) (1 + j)
  | 0 => Or.inl rfl
  | K + 1 => by
    rw [intW]
    rcases rowW_at s n f K (intW s n f K) (s - K).toNat with h | ⟨j, hj, h⟩
    · rw [h]
      rcases intW_at s n f K with h | ⟨a, j, h1, h2, h3⟩
      · exact Or.inl h
      · exact Or.inr ⟨a, j, by omega, h2, h3⟩
    · exact Or.inr ⟨K, j, by omega, hj, h⟩
theorem intW_turn_le (s n : Int) (f g : Int → Int) (h : ∀ t, 0 ≤ t → t ≤ s → g t = n - f (s - t)) : (intW s n g s.toNat).1 ≤ (intW s n f s.toNat).1 := by
  rcases intW_at s n g s.toNat with e | ⟨a, j, h1, h2, e⟩
  · rw [e]
    exact intW_low ..
  · rw [e]
    obtain ⟨c, hc⟩ : ∃ c : Nat, (c : Int) = s - ((a : Int) + 1 + j) := ⟨(s - ((a : Int) + 1 + j)).toNat, by omega⟩
    have := intW_ge s n f s.toNat c j (by omega) (by omega)
    rw [show (c : Int) + 1 + j = s - a by omega, hc] at this
    rw [h _ (by omega) (by omega), h (a : Int) (by omega) (by omega), show n - f (s - ((a : Int) + 1 + j)) - (n - f (s - a)) = f (s - a) - f (s - ((a : Int) + 1 + j)) by omega]
    exact this
theorem intW_turn (s n : Int) (f g : Int → Int) (h : ∀ t, 0 ≤ t → t ≤ s → g t = n - f (s - t)) : (intW s n g s.toNat).1 = (intW s n f s.toNat).1 := by
  have h1 := intW_turn_le s n f g h
  have h2 := intW_turn_le s n g f (fun t h0 h1 => by have := h (s - t) (by omega) (by omega); rw [show s - (s - t) = t by omega] at this; omega)
  omega

/-! ### points mirrored -/
def turnF (s x : Int) : Int := s - 1 - x
theorem cnt_consD (x : Int) (l : List Int) (t : Int) : cnt (x :: l) t = (if x < t then 1 else 0) + cnt l t := by
  unfold cnt
  by_cases h : x < t <;> simp [List.filter_cons, h]
  omega
theorem cnt_turn (s : Int) : ∀ (l : List Int) (t : Int), cnt (l.map (turnF s)) t = l.length - cnt l (s - t)
  | [], t => by simp [cnt_nil]
  | x :: l, t => by
    have ih := cnt_turn s l t
    rw [List.map_cons, cnt_consD, cnt_consD, ih, List.length_cons]
    unfold turnF
    split <;> split <;> omega
theorem cnt_perm {l m : List Int} (h : l.Perm m) (t : Int) : cnt l t = cnt m t := by
  unfold cnt
  rw [(h.filter _).length_eq]
theorem okLine_perm {s : Int} {l m : List Int} (h : l.Perm m) : okLine s l = okLine s m := by
  unfold okLine okPts
  rw [h.length_eq]
  congr 2
  rw [Bool.eq_iff_iff, List.all_eq_true, List.all_eq_true]
  exact ⟨fun k x hx => k x (h.mem_iff.2 hx), fun k x hx => k x (h.mem_iff.1 hx)⟩
theorem cnt_perm_fun {l m : List Int} (h : l.Perm m) : cnt l = cnt m := funext (cnt_perm h)
theorem line_perm {s : Int} {l m : List Int} (h : l.Perm m) : spread_Line.f s l = spread_Line.f s m := by
  unfold spread_Line.f
  rw [okLine_perm h, cnt_perm_fun h, h.length_eq]
theorem interval_perm {s : Int} {l m : List Int} (h : l.Perm m) : spread_Interval.f s l = spread_Interval.f s m := by
  unfold spread_Interval.f
  rw [okLine_perm h, cnt_perm_fun h, h.length_eq]
theorem emod2 {v s : Int} (h0 : 0 ≤ v) (h1 : v < 2 * s) : v % s = if v < s then v else v - s := by
  split
  · exact Int.emod_eq_of_lt h0 (by omega)
  · rw [← Int.sub_emod_right, Int.emod_eq_of_lt (by omega) (by omega)]
theorem isGap_turn {s : Int} {l : List Int} (hl : ∀ x ∈ l, 0 ≤ x ∧ x ≤ s - 1) (g : Int) (h : IsGap s l g) : IsGap s (l.map (turnF s)) g := by
  obtain ⟨x, hx, h1, h2, h3, h4⟩ := h
  have hxb := hl x hx
  have hq := hl _ h3
  have eq := emod2 (v := x + g) (s := s) (by omega) (by omega)
  refine ⟨turnF s ((x + g) % s), List.mem_map.2 ⟨_, h3, rfl⟩, h1, h2, ?_, ?_⟩
  · refine List.mem_map.2 ⟨x, hx, ?_⟩
    unfold turnF
    rw [eq]
    split
    · rw [emod2 (by omega) (by omega)]
      split <;> omega
    · rw [emod2 (by omega) (by omega)]
      split <;> omega
  · intro d d1 d2 hm
    obtain ⟨z, hz, e⟩ := List.mem_map.1 hm
    have hzb := hl z hz
    refine h4 (g - d) (by omega) (by omega) ?_
    have : (x + (g - d)) % s = z := by
      unfold turnF at e
      rw [eq] at e hq
      rw [emod2 (by omega) (by omega)]
      rw [emod2 (by split at hq <;> omega) (by split at hq <;> omega)] at e
      split at e <;> split at e <;> split <;> omega
    rw [this]
    exact hz
theorem turn_turn {s : Int} (l : List Int) : (l.map (turnF s)).map (turnF s) = l := by
  rw [List.map_map]
  have : turnF s ∘ turnF s = id := by
    funext x
    simp only [Function.comp, turnF, id]
    omega
  rw [this, List.map_id]
theorem turn_range {s : Int} {l : List Int} (hl : ∀ x ∈ l, 0 ≤ x ∧ x ≤ s - 1) : ∀ x ∈ l.map (turnF s), 0 ≤ x ∧ x ≤ s - 1 := by
  intro x hx
  obtain ⟨y, hy, rfl⟩ := List.mem_map.1 hx
  have := hl y hy
  unfold turnF
  omega
theorem gapsR_turn {s : Int} {l : List Int} (hl : ∀ x ∈ l, 0 ≤ x ∧ x ≤ s - 1) : gapsR s (l.map (turnF s)) = gapsR s l := by
  have ht := turn_range hl
  refine strict_unique (gapsR_strict _ _) (gapsR_strict _ _) (fun g => ?_)
  rw [gapsR_mem s l hl, gapsR_mem s _ ht]
  refine ⟨fun h => ?_, isGap_turn hl g⟩
  have := isGap_turn ht g h
  rwa [turn_turn] at this
/-! ### points in an order -/
theorem map_range_rd (l : List Int) : (List.range l.length).map (fun k : Nat => rd l (k : Int)) = l := by
  apply List.ext_getElem
  · simp
  · intro i h1 h2
    simp [rd, h2]
theorem mixed_perm {l : List Int} {o : List Int} (h : o.Perm ((List.range l.length).map (fun k : Nat => (k : Int)))) : (o.map (rd l)).Perm l := by
  have := h.map (rd l)
  rw [List.map_map] at this
  have e := map_range_rd l
  rw [show (rd l ∘ fun k : Nat => (k : Int)) = fun k : Nat => rd l (k : Int) from rfl, e] at this
  exact this
end Go.Proofs.Ythngclneffngbaa.Pr
