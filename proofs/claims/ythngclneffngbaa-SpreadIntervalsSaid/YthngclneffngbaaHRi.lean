import Derived.Test.YthngclneffngbaaPrA15
import Derived.Test.YthngclneffngbaaPrA17
import Derived.Test.YthngclneffngbaaHR
import Derived.Test.YthngclneffngbaaHInt
import Derived.Test.YthngclneffngbaaHMove
namespace Go.Proofs.Ythngclneffngbaa.Pr
open Go.RowKit Go.Proofs.YthngclneffngbaaW.PrintWords Go.Proofs.YthngclneffngbaaW.PrintLast Go.Proofs.YthngclneffngbaaW.PrintMore
set_option linter.unusedVariables false
set_option linter.unusedSimpArgs false

def cntsL (l : List Int) (n : Nat) : List Int := (List.range n).map (fun (t : Nat) => cnt l (t : Int))
theorem cntsL_len (l : List Int) (n : Nat) : (cntsL l n).length = n := by simp [cntsL]
theorem cntsL_rd (l : List Int) (n : Nat) (t : Int) (h0 : 0 ≤ t) (h1 : t < n) : rd (cntsL l n) t = cnt l t := by
  obtain ⟨i, rfl⟩ : ∃ i : Nat, t = i := ⟨t.toNat, by omega⟩
  have : i < n := by omega
  simp [rd, cntsL, this]
section
variable (s : Int) (l : List Int) (hs : 1 ≤ s ∧ s ≤ 1000) (hl : 1 ≤ l.length ∧ l.length ≤ 60)
include hs hl
theorem ri_l2 (a : Int) (ha : 0 ≤ a ∧ a < s) (acc : Int × Int × Int) (hacc : -1 ≤ acc.1 ∧ acc.1 ≤ 200000) (r : Int × Int × Int × Int)
    (hnext : Evt (fun k => numnahref03_Interval.l1 k s l (cntsL l (s + 1).toNat) (rowW s l.length (cnt l) a acc (s - a).toNat).1 (a + 1) (rowW s l.length (cnt l) a acc (s - a).toNat).2.1 (rowW s l.length (cnt l) a acc (s - a).toNat).2.2) r) :
    ∀ (d j : Nat), (j : Int) ≤ s - a → (s - a).toNat - j ≤ d → Evt (fun k => numnahref03_Interval.l2 k s l (cntsL l (s + 1).toNat) (rowW s l.length (cnt l) a acc j).1 a (a + 1 + j) (rowW s l.length (cnt l) a acc j).2.1 (rowW s l.length (cnt l) a acc j).2.2) r := by
  intro d
  induction d with
  | zero =>
    intro j hj hd
    obtain rfl : j = (s - a).toNat := by omega
    refine Evt.step (fun k => ?_) hnext
    simp only [numnahref03_Interval.l2]
    rw [if_neg (by omega), wr (x := a + 1) (by omega) (by omega)]
  | succ d ih =>
    intro j hj hd
    by_cases h : j = (s - a).toNat
    · exact ih j hj (by omega)
    · have b := rowW_bound s l a acc (by omega) (by omega) (by omega) hacc j (by omega)
      have c1 := cnt_le l a
      have c2 := cnt_le l (a + 1 + j)
      have c3 : cnt l a ≤ cnt l (a + 1 + j) := by
        unfold cnt
        have : (l.filter (fun x => decide (x < a))).length ≤ (l.filter (fun x => decide (x < a + 1 + j))).length := by
          rw [← List.countP_eq_length_filter, ← List.countP_eq_length_filter]
          exact List.countP_mono_left (fun x _ h => by simp at h ⊢; omega)
        omega
      have m1 := bnd_mul (a := cnt l (a + 1 + j) - cnt l a) (b := s) (A := 60) (B := 1000) (by omega) (by omega) (by omega) (by omega)
      have m2 := bnd_mul (a := 1 + (j : Int)) (b := (l.length : Int)) (A := 1000) (B := 60) (by omega) (by omega) (by omega) (by omega)
      have hn := ih (j + 1) (by omega) (by omega)
      have e : a + 1 + ((j + 1 : Nat) : Int) = a + 1 + j + 1 := by omega
      rw [e, rowW] at hn
      refine Evt.step (fun k => ?_) hn
      simp only [numnahref03_Interval.l2]
      have hlen := cntsL_len l (s + 1).toNat
      rw [if_pos (by omega), if_pos (by omega), if_pos (by omega), if_pos (by omega), if_pos (by omega), cntsL_rd l _ _ (by omega) (by omega), cntsL_rd l _ _ (by omega) (by omega),
        wr (x := cnt l (a + 1 + j) - cnt l a) (by omega) (by omega), wr (x := (cnt l (a + 1 + j) - cnt l a) * s) (by omega) (by omega), show a + 1 + (j : Int) - a = 1 + j by omega, wr (x := 1 + (j : Int)) (by omega) (by omega), wr (x := (1 + (j : Int)) * l.length) (by omega) (by omega), roff_eq _ _ (by omega) (by omega), wr (x := a + 1 + (j : Int) + 1) (by omega) (by omega)]
      simp only [Option.bind_some]
      have eo : mx ((cnt l (a + 1 + j) - cnt l a) * s - (1 + (j : Int)) * l.length) (-((cnt l (a + 1 + j) - cnt l a) * s - (1 + (j : Int)) * l.length)) = offL s l.length (cnt l (a + 1 + j) - cnt l a) (1 + j) := rfl
      rw [eo]
      by_cases hg : (rowW s l.length (cnt l) a acc j).1 < offL s l.length (cnt l (a + 1 + j) - cnt l a) (1 + j)
      · rw [if_pos hg, if_pos hg]
      · rw [if_neg hg, if_neg hg]
theorem ri_l1 : ∀ (d i : Nat), (i : Int) ≤ s → s.toNat - i ≤ d → Evt (fun k => numnahref03_Interval.l1 k s l (cntsL l (s + 1).toNat) (intW s l.length (cnt l) i).1 (i : Int) (intW s l.length (cnt l) i).2.1 (intW s l.length (cnt l) i).2.2)
    ((redF (intW s l.length (cnt l) s.toNat).1 (l.length * s)).1, (redF (intW s l.length (cnt l) s.toNat).1 (l.length * s)).2, (intW s l.length (cnt l) s.toNat).2.1, (intW s l.length (cnt l) s.toNat).2.2) := by
  have m := bnd_mul (a := s) (b := (l.length : Int)) (A := 1000) (B := 60) (by omega) (by omega) (by omega) (by omega)
  have m1 : 0 < s * (l.length : Int) := Int.mul_pos (by omega) (by omega)
  intro d
  induction d with
  | zero =>
    intro i hi hd
    obtain rfl : i = s.toNat := by omega
    have b := intW_bound s l (by omega) (by omega) s.toNat (by omega)
    refine Evt.step (g' := fun k => (numnahref03_Reduced.f k (intW s l.length (cnt l) s.toNat).1 (l.length * s)).bind fun bt814 => (some (bt814.1, bt814.2, (intW s l.length (cnt l) s.toNat).2.1, (intW s l.length (cnt l) s.toNat).2.2))) (fun k => ?_) ?_
    · simp only [numnahref03_Interval.l1]
      rw [if_neg (by omega), wr (by omega) (by omega), Int.mul_comm s]
    · rw [Int.mul_comm] at m m1
      exact Evt.bind (reduced_ev _ _ (by omega) (by omega) (by omega) (by omega)) (Evt.all fun k => rfl)
  | succ d ih =>
    intro i hi hd
    by_cases h : (i : Int) = s
    · exact ih i hi (by omega)
    · have b := intW_bound s l (by omega) (by omega) i hi
      have hn := ih (i + 1) (by omega) (by omega)
      rw [intW] at hn
      rw [show ((i + 1 : Nat) : Int) = (i : Int) + 1 by omega] at hn
      have h2 := ri_l2 s l hs hl (i : Int) (by omega) _ b _ hn (s - i).toNat 0 (by omega) (by omega)
      refine Evt.step (fun k => ?_) h2
      simp only [numnahref03_Interval.l1]
      rw [if_pos (by omega), wr (by omega) (by omega)]
      simp [rowW]
theorem ri_l0 : ∀ (d i : Nat), (i : Int) ≤ s + 1 → (s + 1).toNat - i ≤ d → Evt (fun k => numnahref03_Interval.l0 k s l (cntsL l i) (i : Int))
    ((redF (intW s l.length (cnt l) s.toNat).1 (l.length * s)).1, (redF (intW s l.length (cnt l) s.toNat).1 (l.length * s)).2, (intW s l.length (cnt l) s.toNat).2.1, (intW s l.length (cnt l) s.toNat).2.2) := by
  intro d
  induction d with
  | zero =>
    intro i hi hd
    obtain rfl : i = (s + 1).toNat := by omega
    have h1 := ri_l1 s l hs hl s.toNat 0 (by omega) (by omega)
    refine Evt.step (fun k => ?_) h1
    simp only [numnahref03_Interval.l0]
    rw [if_neg (by omega)]
    rfl
  | succ d ih =>
    intro i hi hd
    by_cases h : i = (s + 1).toNat
    · exact ih i hi (by omega)
    · have hn := ih (i + 1) (by omega) (by omega)
      have e : cntsL l (i + 1) = cntsL l i ++ [cnt l (i : Int)] := by unfold cntsL; rw [List.range_succ, List.map_append]; rfl
      rw [e] at hn
      refine Evt.step (g' := fun k => (numnahref03_below.f k l (i : Int)).bind fun t809 => (if (cntsL l i).length < 17592186044416 then (numnahref03_Interval.l0 k s l (cntsL l i ++ [t809]) (wrap64 ((i : Int) + 1))) else none)) (fun k => ?_) (Evt.bind (below_ev l (i : Int) (by omega)) ?_)
      · simp only [numnahref03_Interval.l0]
        rw [if_pos (by omega)]
      · rw [cntsL_len, wr (by omega) (by omega)]
        simp only [if_pos (show i < 17592186044416 by omega)]
        exact hn
theorem rinterval_ev : Evt (fun k => numnahref03_Interval.f k s l)
    ((redF (intW s l.length (cnt l) s.toNat).1 (l.length * s)).1, (redF (intW s l.length (cnt l) s.toNat).1 (l.length * s)).2, (intW s l.length (cnt l) s.toNat).2.1, (intW s l.length (cnt l) s.toNat).2.2) :=
  ri_l0 s l hs hl (s + 1).toNat 0 (by omega) (by omega)
end
end Go.Proofs.Ythngclneffngbaa.Pr
