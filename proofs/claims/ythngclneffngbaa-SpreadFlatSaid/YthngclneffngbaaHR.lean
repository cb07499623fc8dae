import Derived.Test.YthngclneffngbaaHT
import Derived.Test.YthngclneffngbaaPrA19
namespace Go.Proofs.Ythngclneffngbaa.Pr
open Go.RowKit Go.Proofs.YthngclneffngbaaW.PrintWords Go.Proofs.YthngclneffngbaaW.PrintLast Go.Proofs.YthngclneffngbaaW.PrintMore
set_option linter.unusedVariables false
set_option linter.unusedSimpArgs false

/-! ### the reference's functions on a line -/
theorem list_eq (l : List Int) (h : l.length * 8 ≤ 140737488351232) : numnahlaw03_list.f l = some (l.take 61) := by
  have e : mn (l.length : Int) 61 = ((min l.length 61 : Nat) : Int) := by unfold mn; split <;> omega
  unfold numnahlaw03_list.f
  rw [e, if_pos (by omega), if_pos (by omega), if_pos (by simp; omega)]
  congr 1
  simp only [Int.toNat_natCast, List.nil_append]
  rw [List.take_eq_take_iff]
  omega
theorem okPts_drop (s : Int) (l : List Int) (i : Nat) (h : i < l.length) : okPts s (l.drop i) = (decide (0 ≤ rd l i ∧ rd l i ≤ s - 1) && okPts s (l.drop (i + 1))) := by
  rw [List.drop_eq_getElem_cons h]
  unfold okPts
  rw [List.all_cons]
  simp [rd, h]
theorem points_loop (s : Int) (l : List Int) (hl : l.length ≤ 61) : ∀ (d i : Nat), i ≤ l.length → l.length - i ≤ d →
    Evt (fun k => numnahref03_Points.l0 k s l (i : Int)) (okPts s (l.drop i) && (decide (1 ≤ s ∧ s ≤ 1000) && decide (1 ≤ l.length ∧ l.length ≤ 60))) := by
  intro d
  induction d with
  | zero =>
    intro i hi hd
    obtain rfl : i = l.length := by omega
    refine Evt.now fun k => ?_
    simp only [numnahref03_Points.l0]
    rw [if_neg (by omega)]
    have e : okPts s (l.drop l.length) = true := by simp [okPts]
    rw [e]
    by_cases h1 : s ≥ 1
    · rw [if_pos h1]
      by_cases h2 : s ≤ 1000
      · rw [if_pos h2]
        by_cases h3 : (l.length : Int) ≥ 1
        · rw [if_pos h3]
          congr 1
          rw [decide_eq_true (p := 1 ≤ s ∧ s ≤ 1000) ⟨h1, h2⟩]
          simp only [Bool.true_and]
          rw [decide_eq_decide]
          omega
        · rw [if_neg h3, decide_eq_false (p := 1 ≤ l.length ∧ l.length ≤ 60) (by omega)]
          simp
      · rw [if_neg h2, decide_eq_false (p := 1 ≤ s ∧ s ≤ 1000) (by omega)]
        simp
    · rw [if_neg h1, decide_eq_false (p := 1 ≤ s ∧ s ≤ 1000) (by omega)]
      simp
  | succ d ih =>
    intro i hi hd
    by_cases h : i < l.length
    · rw [okPts_drop s l i h]
      by_cases h1 : rd l i < 0
      · refine Evt.now fun k => ?_
        simp only [numnahref03_Points.l0]
        rw [if_pos (by omega), if_pos (by omega), if_pos h1, decide_eq_false (p := 0 ≤ rd l i ∧ rd l i ≤ s - 1) (by omega)]
        simp
      · by_cases h2 : rd l i ≥ s
        · refine Evt.now fun k => ?_
          simp only [numnahref03_Points.l0]
          rw [if_pos (by omega), if_pos (by omega), if_neg h1, if_pos h2, decide_eq_false (p := 0 ≤ rd l i ∧ rd l i ≤ s - 1) (by omega)]
          simp
        · rw [decide_eq_true (p := 0 ≤ rd l i ∧ rd l i ≤ s - 1) (by omega)]
          simp only [Bool.true_and]
          refine Evt.step (fun k => ?_) (ih (i + 1) (by omega) (by omega))
          simp only [numnahref03_Points.l0]
          rw [if_pos (by omega), if_pos (by omega), if_neg h1, if_neg h2, wr (by omega) (by omega)]
          rfl
    · exact ih i hi (by omega)
theorem points_ev (s : Int) (l : List Int) (hl : l.length ≤ 61) : Evt (fun k => numnahref03_Points.f k s l) (okLine s l) := by
  have h := points_loop s l hl l.length 0 (by omega) (by omega)
  refine Evt.val h ?_
  unfold okLine
  simp only [List.drop_zero]
  cases okPts s l <;> simp
theorem cnt_drop (l : List Int) (i : Nat) (h : i < l.length) (t : Int) : cnt (l.drop i) t = cnt (l.drop (i + 1)) t + if rd l i < t then 1 else 0 := by
  rw [List.drop_eq_getElem_cons h, cnt_cons]
  simp [rd, h]
theorem below_loop (l : List Int) (t : Int) (hl : l.length ≤ 61) : ∀ (d i : Nat) (a : Int), i ≤ l.length → l.length - i ≤ d → 0 ≤ a → a ≤ i →
    Evt (fun k => numnahref03_below.l0 k l t a (i : Int)) (a + cnt (l.drop i) t) := by
  intro d
  induction d with
  | zero =>
    intro i a hi hd h1 h2
    obtain rfl : i = l.length := by omega
    refine Evt.now fun k => ?_
    simp only [numnahref03_below.l0]
    rw [if_neg (by omega)]
    simp [cnt]
  | succ d ih =>
    intro i a hi hd h1 h2
    by_cases h : i < l.length
    · rw [cnt_drop l i h]
      by_cases hc : rd l i < t
      · refine Evt.val (Evt.step (fun k => ?_) (ih (i + 1) (a + 1) (by omega) (by omega) (by omega) (by omega))) (by rw [if_pos hc]; omega)
        simp only [numnahref03_below.l0]
        rw [if_pos (by omega), if_pos (by omega), if_pos hc, wr (by omega) (by omega), wr (by omega) (by omega)]
        rfl
      · refine Evt.val (Evt.step (fun k => ?_) (ih (i + 1) a (by omega) (by omega) (by omega) (by omega))) (by rw [if_neg hc]; omega)
        simp only [numnahref03_below.l0]
        rw [if_pos (by omega), if_pos (by omega), if_neg hc, wr (by omega) (by omega)]
        rfl
    · exact ih i a hi (by omega) h1 h2
theorem below_ev (l : List Int) (t : Int) (hl : l.length ≤ 61) : Evt (fun k => numnahref03_below.f k l t) (cnt l t) := by
  have h := below_loop l t hl l.length 0 0 (by omega) (by omega) (by omega) (by omega)
  exact Evt.val h (by simp)
theorem roff_eq (a b : Int) (h1 : -1000000000 ≤ a ∧ a ≤ 1000000000) (h2 : -1000000000 ≤ b ∧ b ≤ 1000000000) : numnahref03_off.f a b = some (mx (a - b) (-(a - b))) := by
  unfold numnahref03_off.f
  rw [wr (by omega) (by omega), wr (by omega) (by omega)]
  congr 2
  omega
theorem dev_ev (s t : Int) (l : List Int) (hs : 1 ≤ s ∧ s ≤ 1000) (hl : l.length ≤ 60) (ht : 0 ≤ t ∧ t ≤ s) : Evt (fun k => numnahref03_Deviation.f k s l t) (devL s l.length (cnt l) t) := by
  have b1 := cnt_le l t
  have b2 := cnt_le l (t + 1)
  have m1 := bnd_mul (a := cnt l t) (b := s) (A := 60) (B := 1000) (by omega) (by omega) (by omega) (by omega)
  have m2 := bnd_mul (a := cnt l (t + 1)) (b := s) (A := 60) (B := 1000) (by omega) (by omega) (by omega) (by omega)
  have m3 := bnd_mul (a := t) (b := l.length) (A := 1000) (B := 60) (by omega) (by omega) (by omega) (by omega)
  unfold numnahref03_Deviation.f
  refine Evt.bind (below_ev l t (by omega)) ?_
  simp only [wr (x := cnt l t * s) (by omega) (by omega), wr (x := t * l.length) (by omega) (by omega), wr (x := t + 1) (by omega) (by omega)]
  rw [roff_eq _ _ (by omega) (by omega)]
  simp only [Option.bind_some]
  refine Evt.bind (below_ev l (t + 1) (by omega)) (Evt.all fun k => ?_)
  simp only [wr (x := cnt l (t + 1) * s) (by omega) (by omega)]
  rw [roff_eq _ _ (by omega) (by omega)]
  simp only [Option.bind_some]
  unfold devL offL
  by_cases e : t = s
  · rw [if_pos e, if_pos e]
  · rw [if_neg e, if_neg e]
    generalize mx (cnt l t * s - t * ↑l.length) (-(cnt l t * s - t * ↑l.length)) = p
    generalize mx (cnt l (t + 1) * s - t * ↑l.length) (-(cnt l (t + 1) * s - t * ↑l.length)) = q
    by_cases h : p ≥ q
    · rw [if_pos h, decide_eq_true (p := q ≤ p) (by omega), show mx p q = p by unfold mx; rw [if_neg (by omega)]]
    · rw [if_neg h, decide_eq_false (p := q ≤ p) (by omega), show mx p q = q by unfold mx; rw [if_pos (by omega)]]
theorem rline_loop (s : Int) (l : List Int) (hs : 1 ≤ s ∧ s ≤ 1000) (hl : 1 ≤ l.length ∧ l.length ≤ 60) : ∀ (d i : Nat), (i : Int) ≤ s + 1 → (s + 1).toNat - i ≤ d →
    Evt (fun k => numnahref03_Line.l0 k s l (lineW s l.length (cnt l) i).1 (lineW s l.length (cnt l) i).2.1 (lineW s l.length (cnt l) i).2.2 (i : Int))
      ((redF (lineW s l.length (cnt l) (s + 1).toNat).1 (l.length * s)).1, (redF (lineW s l.length (cnt l) (s + 1).toNat).1 (l.length * s)).2, (lineW s l.length (cnt l) (s + 1).toNat).2.1, (lineW s l.length (cnt l) (s + 1).toNat).2.2) := by
  intro d
  induction d with
  | zero =>
    intro i hi hd
    obtain rfl : i = (s + 1).toNat := by omega
    have hb := lineW_bound s l (by omega) (by omega) (s + 1).toNat (by omega)
    have hm := bnd_mul (a := l.length) (b := s) (A := 60) (B := 1000) (by omega) (by omega) (by omega) (by omega)
    have hm1 : 1 ≤ (l.length : Int) * s := by
      have := Int.mul_le_mul (a := 1) (b := 1) (c := (l.length : Int)) (d := s) (by omega) (by omega) (by omega) (by omega)
      omega
    refine Evt.step (g' := fun k => (numnahref03_Reduced.f k (lineW s l.length (cnt l) (s + 1).toNat).1 (l.length * s)).bind fun bt214 => (some (bt214.1, bt214.2, (lineW s l.length (cnt l) (s + 1).toNat).2.1, (lineW s l.length (cnt l) (s + 1).toNat).2.2))) (fun k => ?_) ?_
    · simp only [numnahref03_Line.l0]
      rw [if_neg (by omega), Int.mul_comm s, wr (by omega) (by omega)]
    · exact Evt.bind (reduced_ev _ _ hm1 (by omega) (by omega) (by omega)) (Evt.all fun _ => rfl)
  | succ d ih =>
    intro i hi hd
    by_cases h : (i : Int) ≤ s
    · have hd2 := dev_ev s i l hs hl.2 (by omega)
      have hgo := ih (i + 1) (by omega) (by omega)
      refine Evt.step (g' := fun k => (numnahref03_Deviation.f k s l i).bind fun bt212 => (if bt212.1 > (lineW s l.length (cnt l) i).1 then (numnahref03_Line.l0 k s l bt212.1 i bt212.2 (wrap64 (i + 1))) else (numnahref03_Line.l0 k s l (lineW s l.length (cnt l) i).1 (lineW s l.length (cnt l) i).2.1 (lineW s l.length (cnt l) i).2.2 (wrap64 (i + 1))))) (fun k => ?_) (Evt.bind hd2 ?_)
      · simp only [numnahref03_Line.l0]
        rw [if_pos h]
      · rw [wr (by omega) (by omega)]
        rw [lineW] at hgo
        by_cases hc : (lineW s l.length (cnt l) i).1 < (devL s l.length (cnt l) i).1
        · rw [if_pos hc] at hgo
          simp only [gt_iff_lt, if_pos hc]
          exact hgo
        · rw [if_neg hc] at hgo
          simp only [gt_iff_lt, if_neg hc]
          exact hgo
    · exact ih i hi (by omega)
theorem rline_ev (s : Int) (l : List Int) (h : okLine s l = true) : Evt (fun k => numnahref03_Line.f k s l)
      ((redF (lineW s l.length (cnt l) (s + 1).toNat).1 (l.length * s)).1, (redF (lineW s l.length (cnt l) (s + 1).toNat).1 (l.length * s)).2, (lineW s l.length (cnt l) (s + 1).toNat).2.1, (lineW s l.length (cnt l) (s + 1).toNat).2.2) := by
  obtain ⟨b1, b2, b3, b4⟩ := okLine_bounds h
  exact rline_loop s l ⟨b1, b2⟩ ⟨b3, b4⟩ (s + 1).toNat 0 (by omega) (by omega)
end Go.Proofs.Ythngclneffngbaa.Pr
