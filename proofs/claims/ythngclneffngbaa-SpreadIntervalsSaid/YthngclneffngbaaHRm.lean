import Derived.Test.YthngclneffngbaaPrA17
import Derived.Test.YthngclneffngbaaHR
import Derived.Test.YthngclneffngbaaHMove
namespace Go.Proofs.Ythngclneffngbaa.Pr
open Go.RowKit Go.Proofs.YthngclneffngbaaW.PrintWords Go.Proofs.YthngclneffngbaaW.PrintLast Go.Proofs.YthngclneffngbaaW.PrintMore
set_option linter.unusedVariables false

theorem rmove_pt (s b x : Int) (hs : 1 ≤ s ∧ s ≤ 1000) (hx : 0 ≤ x ∧ x ≤ s - 1) : Int.tmod (wrap64 (x + Int.tmod (wrap64 (Int.tmod b s + s)) s)) s = movF s b x := by
  have ht := tmod_range b s hs.1
  rw [wr (x := Int.tmod b s + s) (by omega) (by omega), Int.tmod_eq_emod_of_nonneg (a := Int.tmod b s + s) (by omega)]
  have h1 := Int.emod_nonneg (Int.tmod b s + s) (show s ≠ 0 by omega)
  have h2 := Int.emod_lt_of_pos (Int.tmod b s + s) (show 0 < s by omega)
  rw [wr (by omega) (by omega), Int.tmod_eq_emod_of_nonneg (by omega)]
  unfold movF
  rw [Int.add_emod_emod, Int.add_assoc]
theorem rmove_ev (s b : Int) (l : List Int) (hs : 1 ≤ s ∧ s ≤ 1000) (hl : l.length ≤ 60) (hr : ∀ x ∈ l, 0 ≤ x ∧ x ≤ s - 1) : Evt (fun k => numnahref03_Move.f k s l b) (l.map (movF s b)) := by
  have loop : ∀ (d i : Nat), i ≤ l.length → l.length - i ≤ d → Evt (fun k => numnahref03_Move.l0 k s l (Int.tmod (wrap64 (Int.tmod b s + s)) s) ((l.take i).map (movF s b)) (i : Int)) (l.map (movF s b)) := by
    intro d
    induction d with
    | zero =>
      intro i hi hd
      obtain rfl : i = l.length := by omega
      refine Evt.now fun k => ?_
      simp only [numnahref03_Move.l0]
      rw [if_neg (by omega), List.take_length]
    | succ d ih =>
      intro i hi hd
      by_cases h : i = l.length
      · exact ih i hi (by omega)
      · have hn := ih (i + 1) (by omega) (by omega)
        have hx : rd l (i : Int) ∈ l := by
          simp only [rd, Int.toNat_natCast]
          rw [List.getD_eq_getElem?_getD, List.getElem?_eq_getElem (show i < l.length by omega)]
          exact List.getElem_mem _
        rw [take_succ_rd l i (by omega), List.map_append, List.map_singleton] at hn
        refine Evt.step (fun k => ?_) hn
        simp only [numnahref03_Move.l0]
        rw [if_pos (by omega), if_pos (by omega), if_neg (by omega), if_pos (by simp; omega), wr (x := (i : Int) + 1) (by omega) (by omega), rmove_pt s b _ hs (hr _ hx)]
        rfl
  have h := loop l.length 0 (by omega) (by omega)
  unfold numnahref03_Move.f
  simp only [if_neg (show ¬ s = 0 by omega)]
  exact h
end Go.Proofs.Ythngclneffngbaa.Pr
