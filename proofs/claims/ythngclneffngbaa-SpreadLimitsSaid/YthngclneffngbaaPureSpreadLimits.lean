/- The discrepancy is at least 1/(2n) and at most 1, no deviation is greater, and Interval lies between the deviations of the counts below and twice the discrepancy: for any scale, points and place. -/
import Derived.Test.YthngclneffngbaaPrB6
import Derived.Test.YthngclneffngbaaHAw
import Derived.Test.YthngclneffngbaaHI2
namespace Go.Proofs.Ythngclneffngbaa.Pr
open Go.RowKit Go.Proofs.YthngclneffngbaaW.PrintWords Go.Proofs.YthngclneffngbaaW.PrintLast Go.Proofs.YthngclneffngbaaW.PrintMore
set_option linter.unusedVariables false

theorem awake_bind6 : Evt (fun k => (numnahlaw03_awake.f k).bind fun t => some t) true := Evt.congr awake_ev (fun k => by cases numnahlaw03_awake.f k <;> rfl)
theorem lim_l0 (s t : Int) (l : List Int) (d1 d2 v1 v2 s0 s1 : Int) (hl : l.length ≤ 60) (r : Bool)
    (hend : Evt (fun k => (numnahref03_Reduced.f k (mx (wrap64 ((wrap64 (cnt l t * s)) - (wrap64 (t * (l.length : Int))))) (wrap64 ((wrap64 (t * (l.length : Int))) - (wrap64 (cnt l t * s))))) (wrap64 (s * (l.length : Int)))).bind fun bt362 => ((numnahlaw03_less.f v1 v2 bt362.1 bt362.2).bind fun t365 => (if t365 = true then (some false) else ((numnahlaw03_less.f (wrap64 (2 * d1)) d2 v1 v2).bind fun t366 => (if t366 = true then (some false) else (if s0 < s1 then ((numnahlaw03_awake.f k).bind fun t367 => (some t367)) else (some false))))))) r) :
    ∀ (d i : Nat) (c : Int), i ≤ l.length → l.length - i ≤ d → 0 ≤ c → c ≤ i → c + cnt (l.drop i) t = cnt l t →
    Evt (fun k => numnahlaw03_SpreadLimits.l0 k s t l c (i : Int) d1 d2 v1 v2 s0 s1) r := by
  intro d
  induction d with
  | zero =>
    intro i c hi hd h1 h2 h3
    obtain rfl : i = l.length := by omega
    simp [cnt_nil] at h3
    subst h3
    refine Evt.step (fun k => ?_) hend
    simp only [numnahlaw03_SpreadLimits.l0]
    rw [if_neg (by omega)]
  | succ d ih =>
    intro i c hi hd h1 h2 h3
    by_cases h : i < l.length
    · rw [cnt_drop l i h] at h3
      by_cases hc : rd l i < t
      · rw [if_pos hc] at h3
        refine Evt.step (fun k => ?_) (ih (i + 1) (c + 1) (by omega) (by omega) (by omega) (by omega) (by omega))
        simp only [numnahlaw03_SpreadLimits.l0]
        rw [if_pos (by omega), if_pos (by omega), if_pos hc, wr (by omega) (by omega), wr (by omega) (by omega)]
        rfl
      · rw [if_neg hc] at h3
        refine Evt.step (fun k => ?_) (ih (i + 1) c (by omega) (by omega) (by omega) (by omega) (by omega))
        simp only [numnahlaw03_SpreadLimits.l0]
        rw [if_pos (by omega), if_pos (by omega), if_neg hc, wr (by omega) (by omega)]
        rfl
    · exact ih i c hi (by omega) h1 h2 h3
theorem SpreadLimits_pure : numnahlaw03_SpreadLimits.Pure := by
  intro a0 l1 a2 _ _ hl _ _
  obtain ⟨hs1, hs2, hok⟩ := tame_ok a0 1000 l1 (by omega) (by omega)
  have ht := tame_ev a0 1000 l1 (by omega) (by omega) hl
  generalize tameL (tameS a0 1000) l1 = l at ht hok
  generalize tameS a0 1000 = s at ht hok hs1 hs2
  obtain ⟨b1, b2, b3, b4⟩ := okLine_bounds hok
  have hmr := modF_range a2 (s + 1) (by omega)
  have hme := mod_eq a2 (s + 1) (by omega) (by omega)
  generalize modF a2 (s + 1) = t at hmr hme
  have hD2 := bnd_mul (a := l.length) (b := s) (A := 60) (B := 1000) (by omega) (by omega) (by omega) (by omega)
  have hD : 1 ≤ (l.length : Int) * s := by
    have := Int.mul_le_mul (a := 1) (b := 1) (c := (l.length : Int)) (d := s) (by omega) (by omega) (by omega) (by omega)
    omega
  -- the discrepancy
  have hpos : ∀ u : Nat, -1 < (devL s l.length (cnt l) u).1 := fun u => by have := offL_devL s l.length (cnt l) u; have := offL_nonneg s l.length (cnt l u) u; omega
  obtain ⟨at', hat1, hat2, hat3, hat4, hat5⟩ := lineW_at s l.length (cnt l) hpos (s + 1).toNat (by omega)
  have hmax := fun u => lineW_max s l.length (cnt l) (s + 1).toNat u
  have hhalf := line_half s l hok
  have hmbd := lineW_bound s l (by omega) (by omega) (s + 1).toNat (by omega)
  have hdt := hmax t.toNat (by omega)
  rw [Int.toNat_of_nonneg hmr.1] at hdt
  have hdtb := devL_bound s l t (by omega) (by omega) (by omega)
  have hone : (lineW s l.length (cnt l) (s + 1).toNat).1 ≤ l.length * s := by
    rw [hat3]
    have c1 := cnt_le l at'
    have c2 := cnt_le l (at' + 1)
    have m1 : cnt l at' * s ≤ l.length * s := Int.mul_le_mul_of_nonneg_right c1.2 (by omega)
    have m2 : cnt l (at' + 1) * s ≤ l.length * s := Int.mul_le_mul_of_nonneg_right c2.2 (by omega)
    have m3 := Int.mul_nonneg c1.1 (show 0 ≤ s by omega)
    have m4 := Int.mul_nonneg c2.1 (show 0 ≤ s by omega)
    have m5 : (at' : Int) * l.length ≤ s * l.length := Int.mul_le_mul_of_nonneg_right (by omega) (by omega)
    have m6 := Int.mul_nonneg (show 0 ≤ (at' : Int) by omega) (show 0 ≤ (l.length : Int) by omega)
    rw [Int.mul_comm s] at m5
    unfold devL offL mx
    repeat' split
    all_goals (dsimp only; omega)
  -- the intervals
  have hint1 : ∀ u : Int, 0 < u → u ≤ s → offL s l.length (cnt l u) u ≤ (intW s l.length (cnt l) s.toNat).1 := by
    intro u h0 h1
    have h2 := intW_max s l.length (cnt l) s.toNat 0 (by omega) (by omega) (u - 1).toNat (by omega)
    have h3 : cnt l (0 : Nat) = 0 := by
      have : ∀ m : List Int, okPts s m = true → cnt m 0 = 0 := by
        intro m
        induction m with
        | nil => intro _; rfl
        | cons x m ih =>
          intro h
          have hx := okPts_mem h (List.mem_cons_self (a := x) (l := m))
          rw [cnt_cons, if_neg (by omega), ih (by unfold okPts at h ⊢; simp at h ⊢; exact h.2)]
          rfl
      exact this l (okLine_pts hok)
    rw [h3, show ((0 : Nat) : Int) + 1 + (u - 1).toNat = u by omega, show (1 : Int) + (u - 1).toNat = u by omega, Int.sub_zero] at h2
    exact h2
  have hintP := intW_at s l.length (cnt l) (fun c t => offL_nonneg s l.length c t) (fun p => p.1 ≤ 2 * (lineW s l.length (cnt l) (s + 1).toNat).1 ∧ 0 ≤ p.1 ∧ p.1 ≤ 200000 ∧ p.2.1 < p.2.2) (by
    intro a j ha hj
    have e := offL_sub s l.length (cnt l (a + 1 + j)) (cnt l a) (a + 1 + j) a
    rw [show (a : Int) + 1 + j - a = 1 + j by omega] at e
    have d1 := offL_devL s l.length (cnt l) (a + 1 + j)
    have d2 := offL_devL s l.length (cnt l) a
    have d3 := hmax (a + 1 + j) (by omega)
    have d4 := hmax a (by omega)
    have d5 := offL_nonneg s l.length (cnt l (a + 1 + j) - cnt l a) (1 + j)
    have c1 := cnt_le l a
    have c2 := cnt_le l (a + 1 + j)
    have c3 := cnt_mono l (show (a : Int) ≤ a + 1 + j by omega)
    have d6 := offL_bound s l.length (cnt l (a + 1 + j) - cnt l a) (1 + j) (by omega) (by omega) (by omega) (by omega)
    have ec : ((a + 1 + j : Nat) : Int) = (a : Int) + 1 + j := by omega
    rw [ec] at d3
    dsimp only
    omega) s.toNat (by omega) (by omega)
  obtain ⟨hi1, hi2, hi3, hi4⟩ := hintP
  obtain ⟨m, hm⟩ : ∃ m, m = (lineW s l.length (cnt l) (s + 1).toNat).1 := ⟨_, rfl⟩
  obtain ⟨v, hv⟩ : ∃ v, v = (intW s l.length (cnt l) s.toNat).1 := ⟨_, rfl⟩
  rw [← hm] at hhalf hmbd hdt hone hi1 hat3
  rw [← hv] at hi1 hi2 hi3
  have hm0 : 0 ≤ m := by omega
  have rm := redF_range m (l.length * s) 200000 hD hm0 (by omega)
  have rv := redF_range v (l.length * s) 200000 hD hi2 hi3
  have cm := redF_cross m (l.length * s) hD
  have cv := redF_cross v (l.length * s) hD
  -- the count below
  have hc := cnt_le l t
  have hcs := bnd_mul (a := cnt l t) (b := s) (A := 60) (B := 1000) (by omega) (by omega) (by omega) (by omega)
  have htn := bnd_mul (a := t) (b := l.length) (A := 1000) (B := 60) (by omega) (by omega) (by omega) (by omega)
  have hbel : mx (cnt l t * s - t * l.length) (t * l.length - cnt l t * s) = offL s l.length (cnt l t) t := by unfold offL; congr 1; omega
  have hbb := offL_bound s l.length (cnt l t) t (by omega) (by omega) (by omega) (by omega)
  have hbv : offL s l.length (cnt l t) t ≤ v := by
    by_cases h0 : t = 0
    · have : offL s l.length (cnt l t) t = 0 := by
        have h3 : cnt l t = 0 := by
          have := hint1
          rw [h0]
          have key : ∀ m : List Int, okPts s m = true → cnt m 0 = 0 := by
            intro m
            induction m with
            | nil => intro _; rfl
            | cons x m ih =>
              intro h
              have hx := okPts_mem h (List.mem_cons_self (a := x) (l := m))
              rw [cnt_cons, if_neg (by omega), ih (by unfold okPts at h ⊢; simp at h ⊢; exact h.2)]
              rfl
          exact key l (okLine_pts hok)
        rw [h3, h0]
        unfold offL mx
        simp
      omega
    · rw [hv]
      exact hint1 t (by omega) (by omega)
  refine Evt.ex ?_
  unfold numnahlaw03_SpreadLimits.f
  refine Evt.bind ht ?_
  dsimp only
  rw [wr (x := s + 1) (by omega) (by omega), hme]
  simp only [Option.bind_some]
  unfold spread_Line.f spread_Deviation.f spread_Interval.f
  simp only [if_pos hok, Option.bind_some]
  rw [hat2, if_pos ⟨hok, by omega, by omega⟩, if_pos ⟨hok, by omega, by omega⟩, ← hat3, ← hm, ← hv]
  simp only [Option.bind_some, if_true, beq_self_eq_true, Bool.not_true, Bool.or_self, Bool.false_eq_true, if_false]
  rw [less_red m _ (l.length * s) (by omega) (by omega) (by omega), decide_eq_false (by omega)]
  simp only [Option.bind_some, Bool.false_eq_true, if_false]
  have hl1 : numnahlaw03_less.f (redF m (l.length * s)).1 (redF m (l.length * s)).2 1 (wrap64 (2 * l.length)) = some false := by
    rw [wr (by omega) (by omega), less_eq _ _ _ _ (by omega) (by omega) (by omega) (by omega)]
    congr 1
    rw [decide_eq_false]
    have hq := rm.2.2.1
    have h5 : (redF m (l.length * s)).2 * s ≤ (redF m (l.length * s)).1 * (2 * l.length) * s := by
      have h6 : s * (redF m (l.length * s)).2 ≤ (2 * m) * (redF m (l.length * s)).2 := Int.mul_le_mul_of_nonneg_right hhalf (by omega)
      have h7 : (redF m (l.length * s)).1 * (2 * l.length) * s = 2 * ((redF m (l.length * s)).1 * (l.length * s)) := by
        rw [Int.mul_assoc, Int.mul_assoc 2, Int.mul_left_comm _ 2]
      rw [h7, cm, Int.mul_comm _ s, ← Int.mul_assoc]
      exact h6
    have := Int.le_of_mul_le_mul_right h5 (by omega)
    omega
  have hl2 : numnahlaw03_less.f 1 1 (redF m (l.length * s)).1 (redF m (l.length * s)).2 = some false := by
    rw [less_eq _ _ _ _ (by omega) (by omega) (by omega) (by omega)]
    congr 1
    rw [decide_eq_false]
    have h5 : (redF m (l.length * s)).1 * (l.length * s) ≤ (redF m (l.length * s)).2 * (l.length * s) := by
      rw [cm, Int.mul_comm _ (l.length * s)]
      exact Int.mul_le_mul_of_nonneg_right hone (by omega)
    have := Int.le_of_mul_le_mul_right h5 (by omega)
    omega
  rw [hl1, hl2]
  simp only [Option.bind_some, Bool.false_eq_true, if_false]
  have hj : Evt (fun k => numnahlaw03_SpreadLimits.j0 k s t l false (redF m (l.length * s)).1 (redF m (l.length * s)).2 (redF v (l.length * s)).1 (redF v (l.length * s)).2 (intW s l.length (cnt l) s.toNat).2.1 (intW s l.length (cnt l) s.toNat).2.2) true := by
    refine Evt.step (g' := fun k => numnahlaw03_SpreadLimits.l0 k s t l 0 ((0 : Nat) : Int) (redF m (l.length * s)).1 (redF m (l.length * s)).2 (redF v (l.length * s)).1 (redF v (l.length * s)).2 (intW s l.length (cnt l) s.toNat).2.1 (intW s l.length (cnt l) s.toNat).2.2) (fun k => ?_) (lim_l0 s t l _ _ _ _ _ _ b4 true ?_ l.length 0 0 (by omega) (by omega) (by omega) (by omega) (by simp))
    · simp only [numnahlaw03_SpreadLimits.j0]
      simp
    · rw [wr (x := cnt l t * s) (by omega) (by omega), wr (x := t * l.length) (by omega) (by omega), wr (x := cnt l t * s - t * l.length) (by omega) (by omega), wr (x := t * l.length - cnt l t * s) (by omega) (by omega), Int.mul_comm s, wr (x := l.length * s) (by omega) (by omega), hbel]
      refine Evt.bind (reduced_ev _ _ hD (by omega) (by omega) (by omega)) ?_
      rw [less_red v _ (l.length * s) (by omega) (by omega) (by omega), decide_eq_false (by omega)]
      simp only [Option.bind_some, Bool.false_eq_true, if_false]
      rw [wr (x := 2 * _) (by omega) (by omega), less_eq _ _ _ _ (by omega) (by omega) (by omega) (by omega), decide_eq_false]
      · simp only [Option.bind_some, Bool.false_eq_true, if_false, if_pos hi4]
        exact awake_bind6
      · -- 2 p q' < p' q would mean 2 m < v
        intro hlt
        have hq := rm.2.2.1
        have hq' := rv.2.2.1
        generalize (redF m (l.length * s)).1 = p at cm hlt
        generalize (redF m (l.length * s)).2 = q at cm hlt hq
        generalize (redF v (l.length * s)).1 = p' at cv hlt
        generalize (redF v (l.length * s)).2 = q' at cv hlt hq'
        have e1 : (2 * p * q') * (l.length * s) = 2 * m * (q * q') := by
          rw [Int.mul_assoc 2 p, Int.mul_assoc 2, Int.mul_right_comm p, cm, Int.mul_assoc m, ← Int.mul_assoc 2]
        have e2 : (p' * q) * (l.length * s) = v * (q * q') := by rw [Int.mul_right_comm, cv, Int.mul_assoc, Int.mul_comm q']
        have := Int.mul_lt_mul_of_pos_right hlt (show 0 < (l.length : Int) * s by omega)
        rw [e1, e2] at this
        have := Int.lt_of_mul_lt_mul_right this (Int.mul_nonneg (by omega) (by omega))
        omega
  by_cases hta : t < (at' : Int)
  · simp only [if_pos hta]
    refine Evt.neg ?_ hj
    intro he
    have h6 := hat5 t.toNat (by omega)
    rw [Int.toNat_of_nonneg hmr.1, ← hat3] at h6
    have h7 := redF_inj m _ (l.length * s) hD (Prod.ext (by simp at he; exact he.1) (by simp at he; exact he.2))
    omega
  · simp only [if_neg hta]
    exact hj
end Go.Proofs.Ythngclneffngbaa.Pr
namespace Go.Proofs.Ythngclneffngbaa.Pure
theorem SpreadLimits : Pr.numnahlaw03_SpreadLimits.Pure := Pr.SpreadLimits_pure
end Go.Proofs.Ythngclneffngbaa.Pure
