/- Results are new memory, and no function changes its arguments: for every scale, list and way. -/
import Derived.Test.YthngclneffngbaaPrB10
import Derived.Test.YthngclneffngbaaHRg
import Derived.Test.YthngclneffngbaaHGp
import Derived.Test.YthngclneffngbaaHT
import Derived.Test.YthngclneffngbaaHR
import Derived.Test.YthngclneffngbaaHAw
namespace Go.Proofs.Ythngclneffngbaa.Pure
open Go.RowKit Go.Proofs.Ythngclneffngbaa.Pr Go.Proofs.YthngclneffngbaaW.PrintWords Go.Proofs.YthngclneffngbaaW.PrintLast Go.Proofs.YthngclneffngbaaW.PrintMore
set_option linter.unusedVariables false
set_option linter.unusedSectionVars false

theorem awake_bindO : Evt (fun k => (numnahlaw03_awake.f k).bind fun t => some t) true := Evt.congr awake_ev (fun k => by cases numnahlaw03_awake.f k <;> rfl)
theorem ints_loopO (l : List Int) (hl : l.length ≤ 61) : ∀ (d i : Nat), i ≤ l.length → l.length - i ≤ d → Evt (fun k => numnahlaw03_ints.l0 k l l (i : Int)) true := by
  intro d
  induction d with
  | zero =>
    intro i hi hd
    refine Evt.now fun k => ?_
    simp only [numnahlaw03_ints.l0]
    rw [if_neg (by omega)]
  | succ d ih =>
    intro i hi hd
    by_cases h : i = l.length
    · exact ih i hi (by omega)
    · refine Evt.step (fun k => ?_) (ih (i + 1) (by omega) (by omega))
      simp only [numnahlaw03_ints.l0]
      rw [if_pos (by omega), if_pos (by omega), if_pos (by omega), if_pos trivial, wr (by omega) (by omega)]
      rfl
theorem ints_evO (l : List Int) (hl : l.length ≤ 61) : Evt (fun k => numnahlaw03_ints.f k l l) true := by
  unfold numnahlaw03_ints.f
  simp only [if_true]
  exact ints_loopO l hl l.length 0 (by omega) (by omega)
/-- the sheet -/
def shL (l : List Int) (i : Nat) : List S50 := (List.range i).map (fun j : Nat => ⟨rd l (j : Int), rd l ((l.length : Int) - 1 - j)⟩)
theorem shL_len (l : List Int) (i : Nat) : (shL l i).length = i := by simp [shL]
section
variable (s : Int) (l : List Int) (by_ : Int) (ok : okLine s l = true)
include ok
theorem own_l3 (sh : List S50) (hsh : sh.length ≤ 60) : ∀ (d i : Nat), i ≤ sh.length → sh.length - i ≤ d → Evt (fun k => numnahlaw03_SpreadOwn.l3 k s l l sh sh 0 0 (i : Int)) true := by
  obtain ⟨b1, b2, b3, b4⟩ := okLine_bounds ok
  have hall : ∀ x ∈ l, 0 ≤ x ∧ x ≤ s - 1 := by
    have := okLine_pts' ok
    unfold okPts at this
    intro x hx
    simpa using List.all_eq_true.1 this x hx
  have al : (gapsR s l).length ≤ 60 := by
    obtain ⟨⟨q1, q2⟩, q3⟩ := places_ok ok
    have gl : (gapsL s (placesL l)).length = (placesL l).length := by simp [gapsL]
    unfold gapsR
    exact Nat.le_trans (compact_le _) (by rw [sortI_len]; omega)
  have hg : spread_Gaps.f s l = some (gapsR s l, 0) := by unfold spread_Gaps.f; rw [if_pos ok]; rfl
  intro d
  induction d with
  | zero =>
    intro i hi hd
    have h1 := ints_evO l (by omega)
    have h2 := rgaps_ev s l ⟨b1, b2⟩ ⟨by omega, by omega⟩ hall
    have h3 := ints_evO (gapsR s l) (by omega)
    refine Evt.step (g' := fun k => (numnahlaw03_ints.f k l l).bind fun t922 => (if t922 = true then ((numnahref03_Gaps.f k s l).bind fun t923 => ((numnahlaw03_ints.f k (gapsR s l) t923).bind fun t926 => (if t926 = true then ((numnahlaw03_awake.f k).bind fun t927 => (some t927)) else (some false)))) else (some false))) (fun k => ?_) ?_
    · simp only [numnahlaw03_SpreadOwn.l3]
      rw [if_neg (by omega), hg]
      simp only [Option.bind_some, if_true]
    · refine Evt.bind h1 ?_
      simp only [if_true]
      refine Evt.bind h2 (Evt.bind h3 ?_)
      simp only [if_true]
      exact awake_bindO
  | succ d ih =>
    intro i hi hd
    by_cases h : i = sh.length
    · exact ih i hi (by omega)
    · refine Evt.step (fun k => ?_) (ih (i + 1) (by omega) (by omega))
      simp only [numnahlaw03_SpreadOwn.l3]
      rw [if_pos (by omega), if_pos (by omega), if_pos (by omega), if_neg (by simp), wr (by omega) (by omega)]
      rfl
theorem own_l2 (sh : List S50) (hsh : sh.length ≤ 60) : ∀ (d i : Nat) (g : List Int), g.length ≤ 60 → i ≤ g.length → g.length - i ≤ d → Evt (fun k => numnahlaw03_SpreadOwn.l2 k s l l sh sh g 0 0 (i : Int)) true := by
  intro d
  induction d with
  | zero =>
    intro i g hg hi hd
    refine Evt.step (fun k => ?_) (own_l3 s l ok sh hsh sh.length 0 (by omega) (by omega))
    simp only [numnahlaw03_SpreadOwn.l2]
    rw [if_neg (by omega)]
    rfl
  | succ d ih =>
    intro i g hg hi hd
    by_cases h : i = g.length
    · exact ih i g hg hi (by omega)
    · refine Evt.step (fun k => ?_) (ih (i + 1) (g.set (i : Int).toNat (-7)) (by simpa using hg) (by simp; omega) (by simp; omega))
      simp only [numnahlaw03_SpreadOwn.l2]
      rw [if_pos (by omega), if_pos (by omega), wr (by omega) (by omega)]
      rfl
theorem own_l1 (sh : List S50) (hsh : sh.length ≤ 60) (g : List Int) (hg : g.length ≤ 60) : ∀ (d i : Nat) (m : List Int), m.length ≤ 60 → i ≤ m.length → m.length - i ≤ d → Evt (fun k => numnahlaw03_SpreadOwn.l1 k s l l sh sh g 0 m 0 (i : Int)) true := by
  intro d
  induction d with
  | zero =>
    intro i m hm hi hd
    refine Evt.step (fun k => ?_) (own_l2 s l ok sh hsh g.length 0 g hg (by omega) (by omega))
    simp only [numnahlaw03_SpreadOwn.l1]
    rw [if_neg (by omega)]
    rfl
  | succ d ih =>
    intro i m hm hi hd
    by_cases h : i = m.length
    · exact ih i m hm hi (by omega)
    · refine Evt.step (fun k => ?_) (ih (i + 1) (m.set (i : Int).toNat (-7)) (by simpa using hm) (by simp; omega) (by simp; omega))
      simp only [numnahlaw03_SpreadOwn.l1]
      rw [if_pos (by omega), if_pos (by omega), wr (by omega) (by omega)]
      rfl
theorem own_l0 : ∀ (d i : Nat), i ≤ l.length → l.length - i ≤ d → Evt (fun k => numnahlaw03_SpreadOwn.l0 k s by_ l l (shL l i) (i : Int)) true := by
  obtain ⟨b1, b2, b3, b4⟩ := okLine_bounds ok
  have al : (gapsR s l).length ≤ 60 := by
    obtain ⟨⟨q1, q2⟩, q3⟩ := places_ok ok
    have gl : (gapsL s (placesL l)).length = (placesL l).length := by simp [gapsL]
    unfold gapsR
    exact Nat.le_trans (compact_le _) (by rw [sortI_len]; omega)
  have hg : spread_Gaps.f s l = some (gapsR s l, 0) := by unfold spread_Gaps.f; rw [if_pos ok]; rfl
  have hn := spread_Line.f.eq_1 s l
  rw [if_pos ok] at hn
  have hi := spread_Interval.f.eq_1 s l
  rw [if_pos ok] at hi
  have hm := spread_Move.f.eq_1 s l by_
  rw [if_pos ok] at hm
  obtain ⟨vs, hs⟩ : ∃ v, spread_Sheet.f s (shL l l.length) = some v := by
    unfold spread_Sheet.f
    split
    · exact ⟨_, rfl⟩
    · exact ⟨_, rfl⟩
  intro d
  induction d with
  | zero =>
    intro i hi' hd
    obtain rfl : i = l.length := by omega
    refine Evt.step (fun k => ?_) (own_l1 s l ok (shL l l.length) (by rw [shL_len]; omega) (gapsR s l) al (l.map (movF s by_)).length 0 (l.map (movF s by_)) (by simp; omega) (by omega) (by omega))
    simp only [numnahlaw03_SpreadOwn.l0]
    rw [if_neg (by omega), if_pos (by rw [shL_len]; simp; omega), hn]
    simp only [Option.bind_some]
    rw [hi]
    simp only [Option.bind_some]
    rw [hs]
    simp only [Option.bind_some]
    rw [hg]
    simp only [Option.bind_some]
    rw [hm]
    simp only [Option.bind_some, List.nil_append]
    rfl
  | succ d ih =>
    intro i hi' hd
    by_cases h : i = l.length
    · exact ih i hi' (by omega)
    · refine Evt.step (fun k => ?_) (ih (i + 1) (by omega) (by omega))
      simp only [numnahlaw03_SpreadOwn.l0]
      rw [if_pos (by omega), if_pos (by omega), wr (x := (l.length : Int) - 1) (by omega) (by omega), wr (x := (l.length : Int) - 1 - i) (by omega) (by omega), if_pos (by omega), if_pos (by omega), if_pos (by rw [shL_len]; omega), wr (x := (i : Int) + 1) (by omega) (by omega)]
      congr 1
      unfold shL
      rw [List.range_succ, List.map_append]
      rfl
end
theorem SpreadOwn : numnahlaw03_SpreadOwn.Pure := by
  intro a0 l1 a2 _ _ hl _ _
  obtain ⟨h1, h2, ok⟩ := tame_ok a0 100 l1 (by omega) (by omega)
  have ht := tame_ev a0 100 l1 (by omega) (by omega) hl
  obtain ⟨b1, b2, b3, b4⟩ := okLine_bounds ok
  have hli := list_eq (tameL (tameS a0 100) l1) (by omega)
  rw [List.take_of_length_le (show (tameL (tameS a0 100) l1).length ≤ 61 by omega)] at hli
  refine Evt.ex (g := fun k => numnahlaw03_SpreadOwn.f k a0 l1 a2) ?_
  unfold numnahlaw03_SpreadOwn.f
  refine Evt.bind ht (Evt.bind (Evt.const hli) ?_)
  exact own_l0 _ _ a2 ok _ 0 (by omega) (Nat.le_refl _)
end Go.Proofs.Ythngclneffngbaa.Pure
