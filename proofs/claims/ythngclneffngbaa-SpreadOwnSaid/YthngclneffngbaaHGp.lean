import Derived.Test.YthngclneffngbaaHGaps
namespace Go.Proofs.Ythngclneffngbaa.Pr
open Go.RowKit Go.Proofs.YthngclneffngbaaW.PrintWords Go.Proofs.YthngclneffngbaaW.PrintLast Go.Proofs.YthngclneffngbaaW.PrintMore
set_option linter.unusedVariables false
set_option linter.unusedSimpArgs false

/-! ### what Compact leaves of a sorted list -/
theorem compact_mem (l : List Int) (x : Int) : x ∈ Lib.compact l ↔ x ∈ l := by
  refine ⟨compact_sub l x, fun h => ?_⟩
  obtain ⟨i, hi, rfl⟩ := List.mem_iff_getElem.1 h
  have key : ∀ i (hi : i < l.length), l[i] ∈ Lib.compact l := by
    intro i
    induction i with
    | zero =>
      intro hi
      unfold Lib.compact Lib.compactUpTo
      exact List.mem_map.2 ⟨0, List.mem_filter.2 ⟨List.mem_range.2 hi, by simp [Lib.keeps]⟩, by simp [hi]⟩
    | succ i ih =>
      intro hi
      by_cases e : l[i + 1] = l[i]
      · rw [e]
        exact ih (by omega)
      · unfold Lib.compact Lib.compactUpTo
        refine List.mem_map.2 ⟨i + 1, List.mem_filter.2 ⟨List.mem_range.2 hi, ?_⟩, by simp [hi]⟩
        have : i < l.length := by omega
        simp [Lib.keeps, hi, this, e]
  exact key i hi
theorem compact_strict {l : List Int} (h : l.Pairwise (· ≤ ·)) : (Lib.compact l).Pairwise (· < ·) := by
  unfold Lib.compact Lib.compactUpTo
  rw [List.pairwise_map]
  have hp := List.pairwise_iff_getElem.1 h
  refine List.Pairwise.imp_of_mem ?_ (List.Pairwise.filter (Lib.keeps l.toArray) (List.pairwise_lt_range (n := l.length)))
  intro a b ha hb hab
  have hb1 := List.mem_range.1 (List.mem_filter.1 hb).1
  have hb2 := (List.mem_filter.1 hb).2
  have hbl : b - 1 < l.length := by omega
  have hal : a < l.length := by omega
  have e1 : l[a]'hal ≤ l[b - 1]'hbl := by
    by_cases e : a = b - 1
    · subst e
      exact Int.le_refl _
    · exact hp a (b - 1) hal hbl (by omega)
  have e2 : l[b - 1]'hbl ≤ l[b]'hb1 := hp (b - 1) b hbl hb1 (by omega)
  have e3 : l[b]'hb1 ≠ l[b - 1]'hbl := by
    simp [Lib.keeps, hb1, hbl, show b ≠ 0 by omega] at hb2
    exact hb2
  simp [hal, hb1]
  omega
theorem strict_unique {l m : List Int} (hl : l.Pairwise (· < ·)) (hm : m.Pairwise (· < ·)) (h : ∀ x, x ∈ l ↔ x ∈ m) : l = m := by
  refine sorted_unique (hl.imp Int.le_of_lt) (hm.imp Int.le_of_lt) ?_
  exact (List.perm_ext_iff_of_nodup (hl.imp (fun h e => by omega)) (hm.imp (fun h e => by omega))).2 h
theorem placesL_strict (l : List Int) : (placesL l).Pairwise (· < ·) := compact_strict (sortI_sorted l)
theorem placesL_mem (l : List Int) (x : Int) : x ∈ placesL l ↔ x ∈ l := (compact_mem _ x).trans (sortI_mem l x)

/-! ### gaps, told without an order -/
/-- g is the way from a place to the next one, on a circle of s places. -/
def IsGap (s : Int) (l : List Int) (g : Int) : Prop := ∃ x, x ∈ l ∧ 1 ≤ g ∧ g ≤ s ∧ (x + g) % s ∈ l ∧ ∀ d, 1 ≤ d → d < g → (x + d) % s ∉ l
theorem rd_get {l : List Int} {i : Nat} (h : i < l.length) : rd l (i : Int) = l[i] := by simp [rd, h]
theorem gapAt_is (s : Int) (q : List Int) (hs : q.Pairwise (· < ·)) (hr : ∀ x ∈ q, 0 ≤ x ∧ x ≤ s - 1) (i : Nat) (hi : i < q.length) :
    1 ≤ gapAt s q i ∧ gapAt s q i ≤ s ∧ (q[i] + gapAt s q i) % s ∈ q ∧ ∀ d, 1 ≤ d → d < gapAt s q i → (q[i] + d) % s ∉ q := by
  have hp := List.pairwise_iff_getElem.1 hs
  have hx := hr _ (List.getElem_mem hi)
  have h0 : 0 < q.length := by omega
  have hm0 := hr _ (List.getElem_mem h0)
  unfold gapAt
  rw [rd_get hi]
  by_cases hn : i + 1 < q.length
  · rw [if_pos hn, show (i : Int) + 1 = ((i + 1 : Nat) : Int) by omega, rd_get hn]
    have h1 := hp i (i + 1) hi hn (by omega)
    have hy := hr _ (List.getElem_mem hn)
    refine ⟨by omega, by omega, ?_, ?_⟩
    · rw [show q[i] + (q[i + 1] - q[i]) = q[i + 1] by omega, Int.emod_eq_of_lt (by omega) (by omega)]
      exact List.getElem_mem hn
    · intro d h2 h3 hmem
      rw [Int.emod_eq_of_lt (by omega) (by omega)] at hmem
      obtain ⟨j, hj, e⟩ := List.mem_iff_getElem.1 hmem
      rcases Nat.lt_trichotomy j (i + 1) with h | h | h
      · rcases Nat.lt_trichotomy j i with h' | h' | h'
        · have := hp j i hj hi h'
          omega
        · subst h'
          omega
        · omega
      · subst h
        omega
      · have := hp (i + 1) j hn hj h
        omega
  · rw [if_neg hn, show (0 : Int) = ((0 : Nat) : Int) from rfl, rd_get h0]
    have hlast : ∀ j (hj : j < q.length), q[j] ≤ q[i] := by
      intro j hj
      by_cases e : j = i
      · subst e
        exact Int.le_refl _
      · have := hp j i hj hi (by omega)
        omega
    have hfirst : ∀ j (hj : j < q.length), q[0] ≤ q[j] := by
      intro j hj
      by_cases e : j = 0
      · subst e
        exact Int.le_refl _
      · have := hp 0 j h0 hj (by omega)
        omega
    have hle := hfirst i hi
    refine ⟨by omega, by omega, ?_, ?_⟩
    · rw [show q[i] + (q[0] + s - q[i]) = q[0] + s by omega, Int.add_emod_right, Int.emod_eq_of_lt (by omega) (by omega)]
      exact List.getElem_mem h0
    · intro d h2 h3 hmem
      by_cases hd : q[i] + d < s
      · rw [Int.emod_eq_of_lt (by omega) hd] at hmem
        obtain ⟨j, hj, e⟩ := List.mem_iff_getElem.1 hmem
        have := hlast j hj
        omega
      · rw [show q[i] + d = (q[i] + d - s) + s by omega, Int.add_emod_right, Int.emod_eq_of_lt (by omega) (by omega)] at hmem
        obtain ⟨j, hj, e⟩ := List.mem_iff_getElem.1 hmem
        have := hfirst j hj
        omega
theorem gapsL_mem (s : Int) (q : List Int) (hs : q.Pairwise (· < ·)) (hr : ∀ x ∈ q, 0 ≤ x ∧ x ≤ s - 1) (g : Int) : g ∈ gapsL s q ↔ IsGap s q g := by
  constructor
  · intro h
    obtain ⟨i, hi, rfl⟩ := List.mem_map.1 h
    have hi := List.mem_range.1 hi
    obtain ⟨h1, h2, h3, h4⟩ := gapAt_is s q hs hr i hi
    exact ⟨q[i], List.getElem_mem hi, h1, h2, h3, h4⟩
  · rintro ⟨x, hx, h1, h2, h3, h4⟩
    obtain ⟨i, hi, rfl⟩ := List.mem_iff_getElem.1 hx
    obtain ⟨k1, k2, k3, k4⟩ := gapAt_is s q hs hr i hi
    have : g = gapAt s q i := by
      rcases Int.lt_trichotomy g (gapAt s q i) with h | h | h
      · exact absurd h3 (k4 g h1 h)
      · exact h
      · exact absurd k3 (h4 _ k1 h)
    rw [this]
    exact List.mem_map.2 ⟨i, List.mem_range.2 hi, rfl⟩
theorem isGap_congr {s : Int} {l m : List Int} (h : ∀ x, x ∈ l ↔ x ∈ m) (g : Int) : IsGap s l g ↔ IsGap s m g := by
  unfold IsGap
  simp only [h]
/-- the answer of Gaps -/
def gapsR (s : Int) (l : List Int) : List Int := Lib.compact (sortI (gapsL s (placesL l)))
theorem gapsR_strict (s : Int) (l : List Int) : (gapsR s l).Pairwise (· < ·) := compact_strict (sortI_sorted _)
theorem gapsR_mem (s : Int) (l : List Int) (hr : ∀ x ∈ l, 0 ≤ x ∧ x ≤ s - 1) (g : Int) : g ∈ gapsR s l ↔ IsGap s l g := by
  unfold gapsR
  rw [compact_mem, sortI_mem, gapsL_mem s _ (placesL_strict l) (fun x hx => hr x ((placesL_mem l x).1 hx))]
  exact isGap_congr (placesL_mem l) g
/-- a map of the circle onto the circle that keeps steps -/
theorem isGap_map {s : Int} {l : List Int} (f : Int → Int) (hl : ∀ x ∈ l, 0 ≤ x ∧ x ≤ s - 1) (h1 : ∀ x d : Int, (f x + d) % s = f ((x + d) % s))
    (h2 : ∀ x y, 0 ≤ x → x ≤ s - 1 → 0 ≤ y → y ≤ s - 1 → f x = f y → x = y) (hs : 1 ≤ s) (g : Int) : IsGap s (l.map f) g ↔ IsGap s l g := by
  have hm : ∀ z, (z % s ∈ l) ↔ f (z % s) ∈ l.map f := by
    intro z
    have z0 := Int.emod_nonneg z (show s ≠ 0 by omega)
    have z1 := Int.emod_lt_of_pos z (show 0 < s by omega)
    constructor
    · intro h
      exact List.mem_map.2 ⟨_, h, rfl⟩
    · intro h
      obtain ⟨y, hy, e⟩ := List.mem_map.1 h
      have hy2 := hl y hy
      rw [← h2 y (z % s) hy2.1 hy2.2 z0 (by omega) e]
      exact hy
  unfold IsGap
  constructor
  · rintro ⟨y, hy, k1, k2, k3, k4⟩
    obtain ⟨x, hx, rfl⟩ := List.mem_map.1 hy
    refine ⟨x, hx, k1, k2, ?_, ?_⟩
    · rw [hm, ← h1]
      exact k3
    · intro d hd1 hd2
      rw [hm, ← h1]
      exact k4 d hd1 hd2
  · rintro ⟨x, hx, k1, k2, k3, k4⟩
    refine ⟨f x, List.mem_map.2 ⟨x, hx, rfl⟩, k1, k2, ?_, ?_⟩
    · rw [h1, ← hm]
      exact k3
    · intro d hd1 hd2
      rw [h1, ← hm]
      exact k4 d hd1 hd2
theorem gapsR_map {s : Int} {l : List Int} (f : Int → Int) (hl : ∀ x ∈ l, 0 ≤ x ∧ x ≤ s - 1) (hf : ∀ x ∈ l, 0 ≤ f x ∧ f x ≤ s - 1) (h1 : ∀ x d : Int, (f x + d) % s = f ((x + d) % s))
    (h2 : ∀ x y, 0 ≤ x → x ≤ s - 1 → 0 ≤ y → y ≤ s - 1 → f x = f y → x = y) (hs : 1 ≤ s) : gapsR s (l.map f) = gapsR s l := by
  refine strict_unique (gapsR_strict _ _) (gapsR_strict _ _) (fun g => ?_)
  rw [gapsR_mem s l hl, gapsR_mem s _ (fun x hx => by obtain ⟨y, hy, rfl⟩ := List.mem_map.1 hx; exact hf y hy)]
  exact isGap_map f hl h1 h2 hs g
/-! ### the gaps add up -/
theorem gaps_sum (s lo hi : Int) (q : List Int) (h0 : 0 < q.length) (hb : ∀ i, i < q.length → lo ≤ gapAt s q i ∧ gapAt s q i ≤ hi) : lo * q.length ≤ s ∧ s ≤ hi * q.length := by
  have step : ∀ k : Nat, k < q.length → lo * k ≤ rd q k - rd q 0 ∧ rd q k - rd q 0 ≤ hi * k := by
    intro k
    induction k with
    | zero => intro _; simp
    | succ k ih =>
      intro hk
      obtain ⟨i1, i2⟩ := ih (by omega)
      have hg := hb k (by omega)
      unfold gapAt at hg
      rw [if_pos hk] at hg
      have e : ((k + 1 : Nat) : Int) = (k : Int) + 1 := by omega
      rw [e, Int.mul_add, Int.mul_add]
      omega
  obtain ⟨i1, i2⟩ := step (q.length - 1) (by omega)
  have hg := hb (q.length - 1) (by omega)
  unfold gapAt at hg
  rw [if_neg (by omega)] at hg
  have e : (q.length : Int) = ((q.length - 1 : Nat) : Int) + 1 := by omega
  rw [e, Int.mul_add, Int.mul_add]
  omega
/-! ### how many places -/
def firsts (l : List Int) : Nat → List Int
  | 0 => []
  | i + 1 => if rd l i ∈ l.take i then firsts l i else firsts l i ++ [rd l i]
theorem firsts_mem (l : List Int) : ∀ i, i ≤ l.length → ∀ x, x ∈ firsts l i ↔ x ∈ l.take i
  | 0, _, x => by simp [firsts]
  | i + 1, h, x => by
    have ih := firsts_mem l i (by omega) x
    have e : l.take (i + 1) = l.take i ++ [rd l i] := take_succ_rd l i (by omega)
    rw [firsts, e]
    split
    · rename_i hm
      rw [ih, List.mem_append, List.mem_singleton]
      constructor
      · exact Or.inl
      · rintro (h | rfl)
        · exact h
        · exact hm
    · rw [List.mem_append, List.mem_append, ih]
theorem firsts_nodup (l : List Int) : ∀ i, i ≤ l.length → (firsts l i).Nodup
  | 0, _ => by simp [firsts]
  | i + 1, h => by
    have ih := firsts_nodup l i (by omega)
    rw [firsts]
    split
    · exact ih
    · rename_i hm
      rw [List.nodup_append]
      refine ⟨ih, by simp, ?_⟩
      intro a ha b hb e
      rw [List.mem_singleton] at hb
      subst hb e
      exact hm ((firsts_mem l i (by omega) _).1 ha)
theorem firsts_len (l : List Int) : (firsts l l.length).length = (placesL l).length := by
  refine List.Perm.length_eq ((List.perm_ext_iff_of_nodup (firsts_nodup l _ (Nat.le_refl _)) ((placesL_strict l).imp (fun h e => by omega))).2 (fun x => ?_))
  rw [firsts_mem l _ (Nat.le_refl _), List.take_length, placesL_mem]
end Go.Proofs.Ythngclneffngbaa.Pr
