import Derived.Test.YthngclneffngbaaHIvl
namespace Go.Proofs.Ythngclneffngbaa.Pr
open Go.RowKit Go.Proofs.YthngclneffngbaaW.PrintWords Go.Proofs.YthngclneffngbaaW.PrintLast Go.Proofs.YthngclneffngbaaW.PrintMore
set_option linter.unusedVariables false

theorem ints_loopI (l : List Int) (hl : l.length ≤ 61) : ∀ (d i : Nat), i ≤ l.length → l.length - i ≤ d → Evt (fun k => numnahlaw03_ints.l0 k l l (i : Int)) true := by
  intro d
  induction d with
  | zero =>
    intro i hi hd
    refine Evt.now fun k => ?_
    simp only [numnahlaw03_ints.l0]
    rw [if_neg (by omega)]
  | succ d ih =>
    intro i hi hd
    by_cases h : i = l.length
    · exact ih i hi (by omega)
    · refine Evt.step (fun k => ?_) (ih (i + 1) (by omega) (by omega))
      simp only [numnahlaw03_ints.l0]
      rw [if_pos (by omega), if_pos (by omega), if_pos (by omega), if_pos trivial, wr (by omega) (by omega)]
      rfl
theorem ints_evI (l : List Int) (hl : l.length ≤ 61) : Evt (fun k => numnahlaw03_ints.f k l l) true := by
  unfold numnahlaw03_ints.f
  simp only [if_true]
  exact ints_loopI l hl l.length 0 (by omega) (by omega)
theorem okLine_allI {s : Int} {l : List Int} (h : okLine s l = true) : ∀ x ∈ l, 0 ≤ x ∧ x ≤ s - 1 := by
  have := okLine_pts' h
  unfold okPts at this
  intro x hx
  simpa using List.all_eq_true.1 this x hx
def numnahlaw03_SpreadIntervals.f (a0 : Int) (l1 : List Int) (a2 : Int) : Option Bool := if l1.length * 8 ≤ 140737488351232 then some true else none
theorem numnahlaw03_SpreadIntervals.calls (a0 : Int) (A1 : Option Addr) (c1 : Nat) (l1 : List Int) (a2 : Int) (r : Bool) (w : World) (hr1 : Kd.C (Kd.int .i64) w A1 l1.length l1) (hc1 : l1.length ≤ c1) (h : numnahlaw03_SpreadIntervals.f a0 l1 a2 = some r) :
    Calls Try.prog 16 #[.int .i64 a0, .slice A1 l1.length c1, .int .i64 a2] w fun e w' => e = .returned (.bool r) ∧ Below w.heap.size w w' := by
  unfold numnahlaw03_SpreadIntervals.f at h
  by_cases hl : l1.length * 8 ≤ 140737488351232
  · rw [if_pos hl] at h
    obtain rfl : r = true := by simpa using h.symm
    have hm : (l1.take 61).length ≤ 61 := by simp; omega
    have hp := (points_ev a0 (l1.take 61) hm).ex
    by_cases ok : okLine a0 (l1.take 61) = true
    · obtain ⟨b1, b2, b3, b4⟩ := okLine_bounds ok
      have hall := okLine_allI ok
      obtain ⟨⟨q1, q2⟩, q3⟩ := places_ok ok
      have gl : (gapsL a0 (placesL (l1.take 61))).length = (placesL (l1.take 61)).length := by simp [gapsL]
      have al : (gapsR a0 (l1.take 61)).length ≤ 60 := by
        unfold gapsR
        exact Nat.le_trans (compact_le _) (by rw [sortI_len]; omega)
      refine intervals_walk a0 A1 c1 l1 a2 w hr1 hc1 hl _ _ _ _ 0 0 0 (gapsR a0 (l1.take 61)) ((l1.take 61).map (movF a0 a2)) true
        (by unfold spread_Interval.f; rw [if_pos ok]) (by unfold spread_Gaps.f; rw [if_pos ok]; rfl) (by unfold spread_Move.f; rw [if_pos ok]) (by rw [ok] at hp; exact hp) (Or.inr ⟨rfl, rfl, rfl, rfl, ?_, ?_, ?_, ?_, ?_⟩)
      · exact (rinterval_ev a0 (l1.take 61) ⟨b1, b2⟩ ⟨by omega, by omega⟩).ex
      · exact (rgaps_ev a0 (l1.take 61) ⟨b1, b2⟩ ⟨by omega, by omega⟩ hall).ex
      · exact (rmove_ev a0 a2 (l1.take 61) ⟨b1, b2⟩ (by omega) hall).ex
      · exact (ints_evI _ (by omega)).ex
      · exact (ints_evI _ (by rw [List.length_map]; omega)).ex
    · refine intervals_walk a0 A1 c1 l1 a2 w hr1 hc1 hl 0 0 0 0 2 2 2 [] [] false
        (by unfold spread_Interval.f; rw [if_neg ok]) (by unfold spread_Gaps.f; rw [if_neg ok]) (by unfold spread_Move.f; rw [if_neg ok]) (by rw [Bool.eq_false_iff.2 ok] at hp; exact hp) (Or.inl ⟨rfl, rfl, rfl, rfl, rfl, rfl, rfl, rfl, rfl, rfl⟩)
  · rw [if_neg hl] at h
    cases h
end Go.Proofs.Ythngclneffngbaa.Pr
