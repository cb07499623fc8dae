import Derived.Test.YthngclneffngbaaHSheet
import Derived.Test.YthngclneffngbaaPrA18
import Derived.Test.YthngclneffngbaaPrA6
import Derived.Test.YthngclneffngbaaPrA7
namespace Go.Proofs.Ythngclneffngbaa.Pr
open Go.RowKit Go.Proofs.YthngclneffngbaaW.PrintWords Go.Proofs.YthngclneffngbaaW.PrintLast Go.Proofs.YthngclneffngbaaW.PrintMore
set_option linter.unusedVariables false
set_option linter.unusedSectionVars false
set_option linter.unusedSimpArgs false

theorem pairs_eq (l : List S50) (hl : l.length * 16 ≤ 140737488351232) : numnahlaw03_pairs.f l = some (l.take 61) := by
  have e : l.take (mn (l.length : Int) 61).toNat = l.take 61 := by
    unfold mn
    split
    · rfl
    · rw [show ((l.length : Int)).toNat = l.length by simp, List.take_length, List.take_of_length_le (by omega)]
  have e2 : 0 ≤ mn (l.length : Int) 61 ∧ mn (l.length : Int) 61 ≤ l.length := by
    unfold mn
    split <;> omega
  unfold numnahlaw03_pairs.f
  rw [if_pos e2.1, if_pos e2.2, e]
  simp only [Option.bind_some]
  rw [if_pos (by simp; omega)]
  simp
/-! ### Plane -/
theorem okPts2_cons (s : Int) (p : S50) (l : List S50) : okPts2 s (p :: l) = (decide ((0 ≤ p.f0 ∧ p.f0 ≤ s - 1) ∧ 0 ≤ p.f1 ∧ p.f1 ≤ s - 1) && okPts2 s l) := by simp [okPts2]
theorem drop_rd50 (l : List S50) (i : Nat) (h : i < l.length) : l.drop i = rd_T50 l (i : Int) :: l.drop (i + 1) := by
  rw [List.drop_eq_getElem_cons h]
  simp [rd_T50, h]
theorem plane_loop (s : Int) (l : List S50) (hl : l.length ≤ 61) : ∀ (d i : Nat), i ≤ l.length → l.length - i ≤ d →
    Evt (fun k => numnahref03_Plane.l0 k s l (i : Int)) (decide (1 ≤ s ∧ s ≤ 100) && (decide (1 ≤ l.length ∧ l.length ≤ 60) && okPts2 s (l.drop i))) := by
  intro d
  induction d with
  | zero =>
    intro i hi hd
    obtain rfl : i = l.length := by omega
    refine Evt.now fun k => ?_
    simp only [numnahref03_Plane.l0]
    rw [if_neg (by omega), List.drop_length]
    by_cases h1 : s ≥ 1
    · rw [if_pos h1]
      by_cases h2 : s ≤ 100
      · rw [if_pos h2]
        by_cases h3 : (l.length : Int) ≥ 1
        · rw [if_pos h3, decide_eq_true (show 1 ≤ s ∧ s ≤ 100 by omega)]
          by_cases h4 : l.length ≤ 60
          · rw [decide_eq_true (show 1 ≤ l.length ∧ l.length ≤ 60 by omega), decide_eq_true (show (l.length : Int) ≤ 60 by omega)]
            rfl
          · rw [decide_eq_false (show ¬ (1 ≤ l.length ∧ l.length ≤ 60) by omega), decide_eq_false (show ¬ (l.length : Int) ≤ 60 by omega)]
            rfl
        · rw [if_neg h3, decide_eq_false (show ¬ (1 ≤ l.length ∧ l.length ≤ 60) by omega)]
          simp
      · rw [if_neg h2, decide_eq_false (show ¬ (1 ≤ s ∧ s ≤ 100) by omega)]
        rfl
    · rw [if_neg h1, decide_eq_false (show ¬ (1 ≤ s ∧ s ≤ 100) by omega)]
      rfl
  | succ d ih =>
    intro i hi hd
    by_cases h : i = l.length
    · exact ih i hi (by omega)
    · have e := drop_rd50 l i (by omega)
      obtain ⟨p, hp⟩ : ∃ p, p = rd_T50 l (i : Int) := ⟨_, rfl⟩
      rw [← hp] at e
      rw [e, okPts2_cons]
      by_cases hok : (0 ≤ p.f0 ∧ p.f0 ≤ s - 1) ∧ 0 ≤ p.f1 ∧ p.f1 ≤ s - 1
      · rw [decide_eq_true hok, Bool.true_and]
        refine Evt.step (fun k => ?_) (ih (i + 1) (by omega) (by omega))
        simp only [numnahref03_Plane.l0]
        rw [if_pos (by omega), if_pos (by omega), ← hp, if_neg (by omega), if_neg (by omega), if_neg (by omega), if_neg (by omega), wr (by omega) (by omega)]
        rfl
      · rw [decide_eq_false hok, Bool.false_and, Bool.and_false, Bool.and_false]
        refine Evt.now fun k => ?_
        simp only [numnahref03_Plane.l0]
        rw [if_pos (by omega), if_pos (by omega), ← hp]
        split
        · rfl
        · split
          · rfl
          · split
            · rfl
            · rw [if_pos (by omega)]
theorem plane_ev (s : Int) (l : List S50) (hl : l.length ≤ 61) : Evt (fun k => numnahref03_Plane.f k s l) (okSheet s l) := by
  have := plane_loop s l hl l.length 0 (by omega) (by omega)
  rw [List.drop_zero] at this
  exact this
/-! ### the reference's Sheet -/
def rowL (n : Nat) (g : Int → Int) : List Int := (List.range n).map (fun t : Nat => g t)
theorem rowL_len (n : Nat) (g : Int → Int) : (rowL n g).length = n := by simp [rowL]
theorem rowL_rd (n : Nat) (g : Int → Int) (i : Int) (h0 : 0 ≤ i) (h1 : i < n) : rd (rowL n g) i = g i := by
  have : i.toNat < n := by omega
  simp [rd, rowL, this, Int.toNat_of_nonneg h0]
theorem rowL_set (n : Nat) (g : Int → Int) (i v : Int) (h0 : 0 ≤ i) : (rowL n g).set i.toNat v = rowL n (fun t => if t = i then v else g t) := by
  apply List.ext_getElem
  · simp [rowL]
  · intro j h1 h2
    rw [List.getElem_set]
    simp only [rowL, List.getElem_map, List.getElem_range]
    by_cases e : i.toNat = j
    · rw [if_pos e, if_pos (by omega)]
    · rw [if_neg e, if_neg (by omega)]
theorem rowL_congr (n : Nat) (g g' : Int → Int) (h : ∀ t : Int, 0 ≤ t → t < n → g t = g' t) : rowL n g = rowL n g' := by
  unfold rowL
  apply List.map_congr_left
  intro t ht
  exact h t (by omega) (by have := List.mem_range.1 ht; omega)
theorem rowL_zero (n : Nat) : List.replicate n (0 : Int) = rowL n (fun _ => 0) := by
  apply List.ext_getElem <;> simp [rowL]
/-- how many points are to the left, and just below -/
def rcnt (l : List S50) (x t : Int) : Int := (l.filter (fun p => decide (p.f0 < x ∧ p.f1 + 1 = t))).length
theorem rcnt_snoc (l : List S50) (p : S50) (x t : Int) : rcnt (l ++ [p]) x t = rcnt l x t + if p.f0 < x ∧ p.f1 + 1 = t then 1 else 0 := by
  unfold rcnt
  rw [List.filter_append]
  by_cases h : p.f0 < x ∧ p.f1 + 1 = t <;> simp [List.filter_cons, h]
theorem rcnt_cons (l : List S50) (p : S50) (x t : Int) : rcnt (p :: l) x t = rcnt l x t + if p.f0 < x ∧ p.f1 + 1 = t then 1 else 0 := by
  unfold rcnt
  by_cases h : p.f0 < x ∧ p.f1 + 1 = t <;> simp [List.filter_cons, h]
theorem rcnt_le (l : List S50) (x t : Int) : 0 ≤ rcnt l x t ∧ rcnt l x t ≤ l.length := by
  unfold rcnt
  have := List.length_filter_le (fun p => decide (p.f0 < x ∧ p.f1 + 1 = t)) l
  omega
theorem cnt2_up (l : List S50) (x t : Int) : cnt2 l x t = rcnt l x t + cnt2 l x (t - 1) := by
  induction l with
  | nil => simp [cnt2, rcnt]
  | cons p l ih =>
    rw [cnt2_cons, rcnt_cons, cnt2_cons, ih]
    split <;> split <;> split <;> omega
section
variable (s : Int) (l : List S50) (hs : 1 ≤ s ∧ s ≤ 100) (hl : l.length ≤ 60) (hp : okPts2 s l = true) (r : Int × Int × Int × Int × Bool)
include hs hl hp
/-- the first rows -/
def rowsL (x : Nat) : List (List Int) := (List.range x).map (fun u : Nat => rowL (s + 1).toNat (fun t => cnt2 l u t))
theorem rsh_l2 (x : Nat) (hx : (x : Int) ≤ s) (hnext : Evt (fun k => numnahref03_Sheet.l0 k s l (rowsL s l (x + 1)) ((x + 1 : Nat) : Int)) r) : ∀ (d : Nat) (t : Int), 1 ≤ t → t ≤ s + 1 → (s + 1 - t).toNat ≤ d →
    Evt (fun k => numnahref03_Sheet.l2 k s l (rowsL s l x) (x : Int) (rowL (s + 1).toNat (fun u => if u < t then cnt2 l x u else rcnt l x u)) t) r := by
  intro d
  induction d with
  | zero =>
    intro t t0 t1 hd
    obtain rfl : t = s + 1 := by omega
    refine Evt.step (fun k => ?_) hnext
    simp only [numnahref03_Sheet.l2]
    rw [if_neg (by omega), if_pos (by simp [rowsL]; omega), wr (by omega) (by omega)]
    congr 1
    unfold rowsL
    rw [List.range_succ, List.map_append]
    congr 1
    rw [List.map_singleton]
    congr 1
    exact rowL_congr _ _ _ (fun u h0 h1 => if_pos (by omega))
  | succ d ih =>
    intro t t0 t1 hd
    by_cases h : t = s + 1
    · exact ih t t0 t1 (by omega)
    · have b1 := rcnt_le l x t
      have b2 := cnt2_le l x (t - 1)
      refine Evt.step (fun k => ?_) (ih (t + 1) (by omega) (by omega) (by omega))
      simp only [numnahref03_Sheet.l2]
      rw [if_pos (by omega), if_pos (by omega), if_pos (by rw [rowL_len]; omega), wr (x := t - 1) (by omega) (by omega), if_pos (by omega), if_pos (by rw [rowL_len]; omega), rowL_rd _ _ t (by omega) (by omega), rowL_rd _ _ (t - 1) (by omega) (by omega),
        if_neg (by omega), if_pos (by omega), wr (x := rcnt l x t + cnt2 l x (t - 1)) (by omega) (by omega), wr (x := t + 1) (by omega) (by omega), rowL_set _ _ _ _ (by omega)]
      congr 1
      refine rowL_congr _ _ _ (fun u h0 h1 => ?_)
      try dsimp only
      by_cases e : u = t
      · rw [if_pos e, if_pos (by omega), e]
        exact (cnt2_up l x t).symm
      · rw [if_neg e]
        by_cases e2 : u < t
        · rw [if_pos e2, if_pos (by omega)]
        · rw [if_neg e2, if_neg (by omega)]
theorem rsh_l1 (x : Nat) (hx : (x : Int) ≤ s) (hnext : Evt (fun k => numnahref03_Sheet.l0 k s l (rowsL s l (x + 1)) ((x + 1 : Nat) : Int)) r) : ∀ (d i : Nat), i ≤ l.length → l.length - i ≤ d →
    Evt (fun k => numnahref03_Sheet.l1 k s l (rowsL s l x) (x : Int) (rowL (s + 1).toNat (fun u => rcnt (l.take i) x u)) (i : Int)) r := by
  intro d
  induction d with
  | zero =>
    intro i hi hd
    obtain rfl : i = l.length := by omega
    have h2 := rsh_l2 s l hs hl hp r x hx hnext (s + 1).toNat 1 (by omega) (by omega) (by omega)
    refine Evt.step (fun k => ?_) h2
    simp only [numnahref03_Sheet.l1]
    rw [if_neg (by omega), List.take_length]
    congr 1
    refine rowL_congr _ _ _ (fun u h0 h1 => ?_)
    by_cases e : u < 1
    · rw [if_pos e, cnt2_zero hp _ _ (Or.inr (by omega))]
      unfold rcnt
      rw [List.filter_eq_nil_iff.2 ?_]
      · rfl
      · intro p hpm
        have := okPts2_all hp p hpm
        simp
        omega
    · rw [if_neg e]
  | succ d ih =>
    intro i hi hd
    by_cases h : i = l.length
    · exact ih i hi (by omega)
    · have e := take_succ_rd50 l i (by omega)
      have hm : rd_T50 l (i : Int) ∈ l := by simp [rd_T50, show i < l.length by omega]
      have hb := okPts2_all hp _ hm
      obtain ⟨p, hpp⟩ : ∃ p, p = rd_T50 l (i : Int) := ⟨_, rfl⟩
      rw [← hpp] at e hb
      have hlt := List.length_take_le i l
      by_cases hx2 : p.f0 < (x : Int)
      · have b1 := rcnt_le (l.take i) x (p.f1 + 1)
        refine Evt.step (fun k => ?_) (ih (i + 1) (by omega) (by omega))
        simp only [numnahref03_Sheet.l1]
        rw [if_pos (by omega), if_pos (by omega), ← hpp, if_pos hx2, wr (x := p.f1 + 1) (by omega) (by omega), if_pos (by omega), if_pos (by rw [rowL_len]; omega), rowL_rd _ _ (p.f1 + 1) (by omega) (by omega), wr (x := rcnt (l.take i) x (p.f1 + 1) + 1) (by omega) (by omega), wr (x := (i : Int) + 1) (by omega) (by omega), rowL_set _ _ _ _ (by omega), e]
        congr 1
        refine rowL_congr _ _ _ (fun u h0 h1 => ?_)
        try dsimp only
        rw [rcnt_snoc]
        by_cases e3 : u = p.f1 + 1
        · rw [if_pos e3, if_pos (by omega), e3]
        · rw [if_neg e3, if_neg (by omega)]
          omega
      · refine Evt.step (fun k => ?_) (ih (i + 1) (by omega) (by omega))
        simp only [numnahref03_Sheet.l1]
        rw [if_pos (by omega), if_pos (by omega), ← hpp, if_neg hx2, wr (x := (i : Int) + 1) (by omega) (by omega), e]
        congr 1
        refine rowL_congr _ _ _ (fun u h0 h1 => ?_)
        rw [rcnt_snoc, if_neg (by omega)]
        omega
theorem rsh_l0 (hend : Evt (fun k => numnahref03_Sheet.l3 k s l (rowsL s l (s + 1).toNat) (-1) false 0 0 0) r) : ∀ (d x : Nat), (x : Int) ≤ s + 1 → (s + 1).toNat - x ≤ d → Evt (fun k => numnahref03_Sheet.l0 k s l (rowsL s l x) (x : Int)) r := by
  intro d
  induction d with
  | zero =>
    intro x hx hd
    obtain rfl : x = (s + 1).toNat := by omega
    refine Evt.step (fun k => ?_) hend
    simp only [numnahref03_Sheet.l0]
    rw [if_neg (by omega)]
  | succ d ih =>
    intro x hx hd
    by_cases h : (x : Int) = s + 1
    · exact ih x hx (by omega)
    · have h1 := rsh_l1 s l hs hl hp r x (by omega) (ih (x + 1) (by omega) (by omega)) l.length 0 (by omega) (by omega)
      refine Evt.step (fun k => ?_) h1
      simp only [numnahref03_Sheet.l0]
      rw [if_pos (by omega), wr (x := s + 1) (by omega) (by omega), if_pos (by omega), if_pos (by omega), rowL_zero]
      congr 1
end
end Go.Proofs.Ythngclneffngbaa.Pr
