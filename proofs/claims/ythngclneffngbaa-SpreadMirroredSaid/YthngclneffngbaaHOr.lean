import Derived.Test.YthngclneffngbaaPrA14
import Derived.Test.YthngclneffngbaaHT
namespace Go.Proofs.Ythngclneffngbaa.Pr
open Go.RowKit Go.Proofs.YthngclneffngbaaW.PrintWords Go.Proofs.YthngclneffngbaaW.PrintLast Go.Proofs.YthngclneffngbaaW.PrintMore
set_option linter.unusedVariables false
set_option linter.unusedSimpArgs false

/-- where the next number is put in -/
def ordK (l : List Int) (i : Nat) : Int := if (i : Int) < l.length then modF (rd l (i : Int)) ((i : Int) + 1) else i
/-- an order of the first numbers -/
def ordL (l : List Int) : Nat → List Int
  | 0 => []
  | i + 1 => (ordL l i).take (ordK l i).toNat ++ [(i : Int)] ++ (ordL l i).drop (ordK l i).toNat
theorem ordL_perm (l : List Int) : ∀ i, (ordL l i).Perm ((List.range i).map (fun k : Nat => (k : Int)))
  | 0 => .refl _
  | i + 1 => by
    have ih := ordL_perm l i
    rw [ordL, List.range_succ, List.map_append, List.append_assoc]
    refine List.Perm.trans (List.perm_append_comm_assoc _ _ _) ?_
    rw [List.take_append_drop]
    exact List.perm_append_comm.trans (ih.append_right _)
theorem ordL_len (l : List Int) (i : Nat) : (ordL l i).length = i := by rw [(ordL_perm l i).length_eq]; simp
theorem ordK_range (l : List Int) (i : Nat) : 0 ≤ ordK l i ∧ ordK l i ≤ i := by
  unfold ordK
  split
  · have := modF_range (rd l (i : Int)) ((i : Int) + 1) (by omega)
    omega
  · omega
theorem order_loop (l : List Int) (n : Nat) (hn : n ≤ 61) : ∀ (d i : Nat), i ≤ n → n - i ≤ d → Evt (fun k => numnahlaw03_order.l0 k l (n : Int) (ordL l i) (i : Int)) (ordL l n) := by
  intro d
  induction d with
  | zero =>
    intro i hi hd
    obtain rfl : i = n := by omega
    refine Evt.now fun k => ?_
    simp only [numnahlaw03_order.l0]
    rw [if_neg (by omega)]
  | succ d ih =>
    intro i hi hd
    by_cases h : i = n
    · exact ih i hi (by omega)
    · have hk := ordK_range l i
      have hlen := ordL_len l i
      refine Evt.step (fun k => ?_) (ih (i + 1) (by omega) (by omega))
      simp only [numnahlaw03_order.l0]
      rw [if_pos (by omega), wr (x := (i : Int) + 1) (by omega) (by omega)]
      by_cases hl : (i : Int) < l.length
      · have e : ordK l i = modF (rd l (i : Int)) ((i : Int) + 1) := by unfold ordK; rw [if_pos hl]
        rw [if_pos hl, if_pos (by omega), mod_eq _ _ (by omega) (by omega), ← e]
        simp only [Option.bind_some]
        rw [if_pos (by omega), if_pos (by omega), if_pos (by simp; omega), if_pos (by simp; omega), if_pos (by simp; omega)]
        simp only [ordL, List.nil_append]
        rfl
      · have e : ordK l i = i := by unfold ordK; rw [if_neg hl]
        rw [if_neg hl, if_pos (by omega), if_pos (by omega)]
        simp only [Option.bind_some]
        rw [if_pos (by simp; omega), if_pos (by simp; omega), if_pos (by simp; omega)]
        simp only [ordL, List.nil_append, e]
        rfl
theorem order_ev (l : List Int) (n : Nat) (hn : n ≤ 61) : Evt (fun k => numnahlaw03_order.f k l (n : Int)) (ordL l n) := by
  unfold numnahlaw03_order.f
  exact order_loop l n hn n 0 (by omega) (by omega)
end Go.Proofs.Ythngclneffngbaa.Pr
