/- Series returns the first mirrors and Pairs the numbers with their mirrors, or ErrArg: for any ints. -/
import Derived.Test.YthngclneffngbaaPrB3
import Derived.Test.YthngclneffngbaaHAw
import Derived.Test.YthngclneffngbaaHS
namespace Go.Proofs.Ythngclneffngbaa.Pr
open Go.RowKit Go.Proofs.YthngclneffngbaaW.PrintWords Go.Proofs.YthngclneffngbaaW.PrintLast Go.Proofs.YthngclneffngbaaW.PrintMore
set_option linter.unusedVariables false

theorem awake_bind : Evt (fun k => (numnahlaw03_awake.f k).bind fun t => some t) true := Evt.congr awake_ev (fun k => by cases numnahlaw03_awake.f k <;> rfl)
theorem sl1 (b d : Int) (n : Nat) (hb : 2 ≤ b ∧ b ≤ 16) (hd : 0 ≤ d ∧ d ≤ 9) (hn : n ≤ 60) : ∀ (m i : Nat), i ≤ n → n - i ≤ m → Evt (fun k => numnahlaw03_SpreadSeries.l1 k b d (prs b d.toNat n) (n : Int) (i : Int)) true := by
  intro m
  induction m with
  | zero =>
    intro i hi hm
    obtain rfl : i = n := by omega
    refine Evt.step (fun k => ?_) awake_bind
    simp only [numnahlaw03_SpreadSeries.l1]
    rw [if_neg (by omega)]
  | succ m ih =>
    intro i hi hm
    by_cases h : i = n
    · exact ih i hi (by omega)
    · have hr : rd_T50 (prs b d.toNat n) (i : Int) = ⟨(i : Int), mirL b 0 (i : Int) d.toNat⟩ := by
        simp [rd_T50, prs, show i < n by omega]
      refine Evt.step (g' := fun k => (numnahref03_Turned.f k b d i).bind fun t266 => (if mirL b 0 (i : Int) d.toNat = t266 then (numnahlaw03_SpreadSeries.l1 k b d (prs b d.toNat n) (n : Int) ((i + 1 : Nat) : Int)) else (some false))) (fun k => ?_) (Evt.bind (turned_ev b d i hb hd (by omega)) ?_)
      · simp only [numnahlaw03_SpreadSeries.l1]
        rw [if_pos (by omega), if_pos (by omega), if_pos (by simp [prs]; omega), hr, if_pos rfl, wr (by omega) (by omega)]
        rfl
      · exact Evt.pos rfl (ih (i + 1) (by omega) (by omega))
theorem sj3 (b d : Int) (x9 : List S50) (x10 : Int) (h : ((2 ≤ b ∧ b ≤ 16) ∧ (1 ≤ d ∧ d ≤ 9) ∧ powL b 60 1 d.toNat ≠ 0 ∧ x9 = prs b d.toNat (powL b 60 1 d.toNat).toNat ∧ x10 = 0) ∨ (¬ ((2 ≤ b ∧ b ≤ 16) ∧ (1 ≤ d ∧ d ≤ 9) ∧ powL b 60 1 d.toNat ≠ 0) ∧ x9 = [] ∧ x10 = 2)) :
    Evt (fun k => numnahlaw03_SpreadSeries.j3 k b d x9 x10) true := by
  refine Evt.step (fun k => by simp only [numnahlaw03_SpreadSeries.j3]; rfl) (Evt.bind (whole_ev b d 60 (by omega)) ?_)
  rcases h with ⟨hb, hd, h0, rfl, rfl⟩ | ⟨hno, rfl, rfl⟩
  · have hbd := powL_bound b 60 hb.1 d.toNat 1 (by omega) (by omega)
    rw [if_pos ⟨hb, hd.1, hd.2⟩]
    refine Evt.neg h0 ?_
    generalize hP : powL b 60 1 d.toNat = P at h0 hbd ⊢
    refine Evt.pos (by simp [prs]; omega) ?_
    refine Evt.step (g' := fun k => numnahlaw03_SpreadSeries.l1 k b d (prs b d.toNat P.toNat) P 0) (fun k => ?_) ?_
    · simp only [numnahlaw03_SpreadSeries.j4]
      simp
    · have := sl1 b d P.toNat hb (by omega) (by omega) _ 0 (by omega) (Nat.le_refl _)
      rw [Int.toNat_of_nonneg hbd.1] at this
      exact this
  · have e : (if (2 ≤ b ∧ b ≤ 16) ∧ 1 ≤ d ∧ d ≤ 9 then powL b 60 1 d.toNat else 0) = 0 := by
      by_cases h1 : (2 ≤ b ∧ b ≤ 16) ∧ 1 ≤ d ∧ d ≤ 9
      · rw [if_pos h1]
        by_cases e : powL b 60 1 d.toNat = 0
        · exact e
        · exact absurd ⟨h1.1, h1.2, e⟩ hno
      · rw [if_neg h1]
    rw [e]
    refine Evt.pos rfl (Evt.pos rfl (Evt.pos rfl awake_bind))
theorem sl0 (b d : Int) (n : Nat) (x9 : List S50) (x10 : Int) (hb : 2 ≤ b ∧ b ≤ 16) (hd : 0 ≤ d ∧ d ≤ 9) (hn : n ≤ 60) (hj : Evt (fun k => numnahlaw03_SpreadSeries.j3 k b d x9 x10) true) : ∀ (m i : Nat), i ≤ n → n - i ≤ m →
    Evt (fun k => numnahlaw03_SpreadSeries.l0 k b d (n : Int) (mirs b d.toNat n) x9 x10 (i : Int)) true := by
  intro m
  induction m with
  | zero =>
    intro i hi hm
    obtain rfl : i = n := by omega
    refine Evt.step (fun k => ?_) hj
    simp only [numnahlaw03_SpreadSeries.l0]
    rw [if_neg (by omega)]
  | succ m ih =>
    intro i hi hm
    by_cases h : i = n
    · exact ih i hi (by omega)
    · have hr : rd (mirs b d.toNat n) (i : Int) = mirL b 0 (i : Int) d.toNat := by
        simp [rd, mirs, show i < n by omega]
      refine Evt.step (g' := fun k => (numnahref03_Turned.f k b d i).bind fun t266 => (if mirL b 0 (i : Int) d.toNat = t266 then (numnahlaw03_SpreadSeries.l0 k b d (n : Int) (mirs b d.toNat n) x9 x10 ((i + 1 : Nat) : Int)) else (some false))) (fun k => ?_) (Evt.bind (turned_ev b d i hb hd (by omega)) ?_)
      · simp only [numnahlaw03_SpreadSeries.l0]
        rw [if_pos (by omega), if_pos (by omega), if_pos (by simp [mirs]; omega), hr, wr (by omega) (by omega)]
        rfl
      · exact Evt.pos rfl (ih (i + 1) (by omega) (by omega))
theorem SpreadSeries_pure : numnahlaw03_SpreadSeries.Pure := by
  intro b d n _ _ _
  refine Evt.ex ?_
  have hpairs : ∃ x9 x10, Evt (fun k => spread_Pairs.f k b d) (x9, x10) ∧ Evt (fun k => numnahlaw03_SpreadSeries.j3 k b d x9 x10) true := by
    by_cases h : (2 ≤ b ∧ b ≤ 16) ∧ (1 ≤ d ∧ d ≤ 9) ∧ powL b 60 1 d.toNat ≠ 0
    · exact ⟨_, _, pairs_yes b d h.1 h.2.1 h.2.2, sj3 b d _ _ (.inl ⟨h.1, h.2.1, h.2.2, rfl, rfl⟩)⟩
    · exact ⟨_, _, pairs_no b d h, sj3 b d _ _ (.inr ⟨h, rfl, rfl⟩)⟩
  obtain ⟨x9, x10, hp, hj⟩ := hpairs
  have hw := whole_ev b d 1000 (by omega)
  unfold numnahlaw03_SpreadSeries.f
  by_cases hs : okSeries b d n 1000
  · have hs2 := hs
    obtain ⟨hb, hd, h1, h2, h3⟩ := hs2
    refine Evt.bind (series_yes b d n hs) (Evt.bind hp (Evt.bind hw ?_))
    rw [if_pos ⟨hb, hd.1, hd.2⟩]
    refine Evt.neg (by omega) (Evt.neg (by omega) ?_)
    rw [decide_eq_false (by omega)]
    refine Evt.step (g' := fun k => numnahlaw03_SpreadSeries.j1 k b d n (mirs b d.toNat n.toNat) x9 x10 false) (fun k => ?_) (Evt.step (g' := fun k => numnahlaw03_SpreadSeries.l0 k b d n (mirs b d.toNat n.toNat) x9 x10 0) (fun k => ?_) ?_)
    · simp only [numnahlaw03_SpreadSeries.j0]
      rw [if_neg (by simp), if_pos (by simp [mirs]; omega)]
      rfl
    · simp only [numnahlaw03_SpreadSeries.j1]
      simp
    · have := sl0 b d n.toNat x9 x10 hb (by omega) (by omega) hj _ 0 (by omega) (Nat.le_refl _)
      rw [Int.toNat_of_nonneg (by omega)] at this
      exact this
  · refine Evt.bind (series_no b d n hs) (Evt.bind hp (Evt.bind hw ?_))
    have hj0 : Evt (fun k => numnahlaw03_SpreadSeries.j0 k b d n [] 2 x9 x10 true) true := by
      refine Evt.step (fun k => ?_) hj
      simp only [numnahlaw03_SpreadSeries.j0]
      simp
    by_cases h1 : n < 1
    · exact Evt.pos h1 hj0
    · refine Evt.neg h1 ?_
      by_cases h2 : n > 60
      · exact Evt.pos h2 hj0
      · refine Evt.neg h2 ?_
        rw [decide_eq_true ?_]
        · exact hj0
        · by_cases h3 : (2 ≤ b ∧ b ≤ 16) ∧ 1 ≤ d ∧ d ≤ 9
          · rw [if_pos h3]
            rcases Int.lt_or_le (powL b 1000 1 d.toNat) n with h4 | h4
            · exact h4
            · exact absurd ⟨h3.1, h3.2, by omega, by omega, h4⟩ hs
          · rw [if_neg h3]
            omega
end Go.Proofs.Ythngclneffngbaa.Pr
namespace Go.Proofs.Ythngclneffngbaa.Pure
theorem SpreadSeries : Pr.numnahlaw03_SpreadSeries.Pure := Pr.SpreadSeries_pure
end Go.Proofs.Ythngclneffngbaa.Pure
