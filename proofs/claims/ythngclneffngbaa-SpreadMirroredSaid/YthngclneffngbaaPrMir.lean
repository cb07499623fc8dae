import Derived.Test.YthngclneffngbaaHMw
namespace Go.Proofs.Ythngclneffngbaa.Pr
open Go.RowKit Go.Proofs.YthngclneffngbaaW.PrintWords Go.Proofs.YthngclneffngbaaW.PrintLast Go.Proofs.YthngclneffngbaaW.PrintMore
set_option linter.unusedVariables false

theorem ints_loopM (l : List Int) (hl : l.length ≤ 61) : ∀ (d i : Nat), i ≤ l.length → l.length - i ≤ d → Evt (fun k => numnahlaw03_ints.l0 k l l (i : Int)) true := by
  intro d
  induction d with
  | zero =>
    intro i hi hd
    refine Evt.now fun k => ?_
    simp only [numnahlaw03_ints.l0]
    rw [if_neg (by omega)]
  | succ d ih =>
    intro i hi hd
    by_cases h : i = l.length
    · exact ih i hi (by omega)
    · refine Evt.step (fun k => ?_) (ih (i + 1) (by omega) (by omega))
      simp only [numnahlaw03_ints.l0]
      rw [if_pos (by omega), if_pos (by omega), if_pos (by omega), if_pos trivial, wr (by omega) (by omega)]
      rfl
theorem ints_evM (l : List Int) (hl : l.length ≤ 61) : Evt (fun k => numnahlaw03_ints.f k l l) true := by
  unfold numnahlaw03_ints.f
  simp only [if_true]
  exact ints_loopM l hl l.length 0 (by omega) (by omega)
theorem okLine_allM {s : Int} {l : List Int} (h : okLine s l = true) : ∀ x ∈ l, 0 ≤ x ∧ x ≤ s - 1 := by
  have := okLine_pts' h
  unfold okPts at this
  intro x hx
  simpa using List.all_eq_true.1 this x hx
theorem okLine_mkM {s : Int} {l : List Int} (h1 : 1 ≤ s ∧ s ≤ 1000) (h2 : 1 ≤ l.length ∧ l.length ≤ 60) (h3 : ∀ x ∈ l, 0 ≤ x ∧ x ≤ s - 1) : okLine s l = true := by
  unfold okLine okPts
  simp only [Bool.and_eq_true, decide_eq_true_eq, List.all_eq_true]
  exact ⟨h1, by omega, fun y hy => by have := h3 y hy; simpa using this⟩
theorem mir_facts (a0 : Int) (l1 l2 : List Int) (hl : l1.length * 8 ≤ 140737488351232) : ∃ s l o gl d1 d2 e1 e2 at_ low p1 q1 p2 q2 p3 q3, MirF a0 l1 l2 s l o gl d1 d2 e1 e2 at_ low p1 q1 p2 q2 p3 q3 := by
  obtain ⟨h1, h2, ok⟩ := tame_ok a0 300 l1 (by omega) (by omega)
  have ht := tame_ev a0 300 l1 (by omega) (by omega) hl
  obtain ⟨s, hs⟩ : ∃ s, s = tameS a0 300 := ⟨_, rfl⟩
  rw [← hs] at h1 h2 ok ht
  obtain ⟨l, hl2⟩ : ∃ l, l = tameL s l1 := ⟨_, rfl⟩
  rw [← hl2] at ok ht
  obtain ⟨b1, b2, b3, b4⟩ := okLine_bounds ok
  have hall := okLine_allM ok
  have hp := ordL_perm l2 l.length
  have hm := mixed_perm hp
  have htl : (l.map (turnF s)).length = l.length := by simp
  have okt : okLine s (l.map (turnF s)) = true := okLine_mkM ⟨by omega, by omega⟩ (by omega) (turn_range hall)
  obtain ⟨⟨q1, q2⟩, q3⟩ := places_ok ok
  have gl : (gapsL s (placesL l)).length = (placesL l).length := by simp [gapsL]
  have al : (gapsR s l).length ≤ 60 := by
    unfold gapsR
    exact Nat.le_trans (compact_le _) (by rw [sortI_len]; omega)
  have hi := spread_Interval.f.eq_1 s l
  rw [if_pos ok] at hi
  have hn := spread_Line.f.eq_1 s l
  rw [if_pos ok] at hn
  have hi2 := spread_Interval.f.eq_1 s (l.map (turnF s))
  rw [if_pos okt, htl, intW_turn s l.length (cnt l) (cnt (l.map (turnF s))) (fun t _ _ => cnt_turn s l t)] at hi2
  refine ⟨s, l, ordL l2 l.length, gapsR s l, _, _, _, _, _, _, _, _, _, _, _, _, ht.ex, (order_ev l2 l.length (by omega)).ex, ordL_len _ _, ?_, ⟨h1, h2⟩, ⟨by omega, by omega⟩, ?_, hi, hi2, (interval_perm hm).trans hi, ?_, ?_, hn, (line_perm hm).trans hn, (ints_evM _ (by omega)).ex⟩
  · intro i i0 i1
    have := hp.mem_iff.1 (rd_mem' i i0 i1)
    obtain ⟨k, hk, e⟩ := List.mem_map.1 this
    have := List.mem_range.1 hk
    omega
  · intro i i0 i1
    exact hall _ (rd_mem' i i0 i1)
  · unfold spread_Gaps.f
    rw [if_pos ok]
    rfl
  · unfold spread_Gaps.f
    rw [if_pos okt]
    exact congrArg (fun x => some (x, (0 : Int))) (gapsR_turn hall)
def numnahlaw03_SpreadMirrored.f (a0 : Int) (l1 l2 : List Int) : Option Bool := if l1.length * 8 ≤ 140737488351232 then some true else none
theorem numnahlaw03_SpreadMirrored.calls (a0 : Int) (A1 : Option Addr) (c1 : Nat) (l1 : List Int) (A2 : Option Addr) (c2 : Nat) (l2 : List Int) (r : Bool) (w : World) (hr1 : Kd.C (Kd.int .i64) w A1 l1.length l1) (hc1 : l1.length ≤ c1) (hr2 : Kd.C (Kd.int .i64) w A2 l2.length l2) (hc2 : l2.length ≤ c2) (h : numnahlaw03_SpreadMirrored.f a0 l1 l2 = some r) :
    Calls Try.prog 15 #[.int .i64 a0, .slice A1 l1.length c1, .slice A2 l2.length c2] w fun e w' => e = .returned (.bool r) ∧ Below w.heap.size w w' := by
  unfold numnahlaw03_SpreadMirrored.f at h
  by_cases hl : l1.length * 8 ≤ 140737488351232
  · rw [if_pos hl] at h
    obtain rfl : r = true := by simpa using h.symm
    obtain ⟨s, l, o, gl, d1, d2, e1, e2, at_, low, p1, q1, p2, q2, p3, q3, hf⟩ := mir_facts a0 l1 l2 hl
    exact mirrored_walk a0 A1 c1 l1 A2 c2 l2 w hr1 hc1 hr2 hc2 s l o gl d1 d2 e1 e2 at_ low p1 q1 p2 q2 p3 q3 hf
  · rw [if_neg hl] at h
    cases h
end Go.Proofs.Ythngclneffngbaa.Pr
