/- the reference's Rules says whether newLaws takes them; laws and few cut lists. -/
import Derived.Test.YtaafeallcaiooaaGreatPr0
import Derived.Test.YtaafeallcaiooaaGreatPrA1
import Derived.Test.YtaafeallcaiooaaGreatPrA3
import Derived.Test.YtaafeallcaiooaaGreatPrA4
import Derived.Test.YtaafeallcaiooaaGreatHRt2
import Derived.Test.YtaafeallcaiooaaGreatHGs
import Derived.Test.YtaafeallcaiooaaGreatHSr
-- Laid by wip/tools/inj.py of this project, which drives the kit's printer. Lean checks it.
namespace Go.Proofs.YtaafeallcaiooaaGreat.Pr
open Go.RowKit Go.Proofs.YtaafeallcaiooaaGreatW.PrintWords Go.Proofs.YtaafeallcaiooaaGreatW.PrintLast Go.Proofs.YtaafeallcaiooaaGreatW.PrintMore
attribute [local go_sem] max2_int min2_int max_two min_two max_three min_three max_four min_four   -- for this text's walks alone
set_option linter.unusedVariables false
set_option linter.unusedSimpArgs false

/-! ### numnahref08_Rules: function 31 -/
mutual
def numnahref08_Rules.l0 : Nat → List (S94) → Int → Option (Bool)
 | 0, _, _ => none
 | k + 1, x0, x3 => if x3 < (x0.length : Int) then (if 0 ≤ x3 then ((numnahref08_Term.f k ((rd_T94 x0 x3).f0)).bind fun t218 => (if t218 = true then ((numnahref08_Term.f k ((rd_T94 x0 x3).f1)).bind fun t219 => (if t219 = true then ((numnahref08_Size.f k ((rd_T94 x0 x3).f0)).bind fun t220 => (if t220 > 12 then (numnahref08_Rules.j1 k x0 x3 ((rd_T94 x0 x3).f0) ((rd_T94 x0 x3).f1) true) else ((numnahref08_Size.f k ((rd_T94 x0 x3).f1)).bind fun t221 => (if t221 > 12 then (numnahref08_Rules.j1 k x0 x3 ((rd_T94 x0 x3).f0) ((rd_T94 x0 x3).f1) true) else (if 0 < (((rd_T94 x0 x3).f0).size : Int) then ((numnahref08_Variable.f (bt ((rd_T94 x0 x3).f0) 0)).bind fun t222 => (numnahref08_Rules.j1 k x0 x3 ((rd_T94 x0 x3).f0) ((rd_T94 x0 x3).f1) t222)) else (none)))))) else (numnahref08_Rules.j1 k x0 x3 ((rd_T94 x0 x3).f0) ((rd_T94 x0 x3).f1) true))) else (numnahref08_Rules.j1 k x0 x3 ((rd_T94 x0 x3).f0) ((rd_T94 x0 x3).f1) true))) else (none)) else (some (decide ((x0.length : Int) ≤ 6)))
def numnahref08_Rules.j1 : Nat → List (S94) → Int → ByteArray → ByteArray → Bool → Option (Bool)
 | 0, _, _, _, _, _ => none
 | k + 1, x0, x3, x4, x5, x45 => if x45 = true then (some false) else (numnahref08_Rules.l1 k x0 x3 x4 x5 0)
def numnahref08_Rules.l1 : Nat → List (S94) → Int → ByteArray → ByteArray → Int → Option (Bool)
 | 0, _, _, _, _, _ => none
 | k + 1, x0, x3, x4, x5, x6 => if x6 < (x5.size : Int) then (if 0 ≤ x6 then ((numnahref08_Variable.f (bt x5 x6)).bind fun t223 => (if t223 = true then ((numnahref08_occurs.f k (bt x5 x6) x4).bind fun t224 => (if t224 = true then (numnahref08_Rules.l1 k x0 x3 x4 x5 (wrap64 (x6 + 1))) else (some false))) else (numnahref08_Rules.l1 k x0 x3 x4 x5 (wrap64 (x6 + 1))))) else (none)) else (numnahref08_Rules.l0 k x0 (wrap64 (x3 + 1)))
end
def numnahref08_Rules.f (k : Nat) (l0 : List (S94)) : Option (Bool) := numnahref08_Rules.l0 k l0 0
theorem numnahref08_Rules.mono_l : ∀ k, (∀ y0 y1, LeO (numnahref08_Rules.l0 k y0 y1) (numnahref08_Rules.l0 (k + 1) y0 y1)) ∧ (∀ y0 y1 y2 y3 y4, LeO (numnahref08_Rules.j1 k y0 y1 y2 y3 y4) (numnahref08_Rules.j1 (k + 1) y0 y1 y2 y3 y4)) ∧ (∀ y0 y1 y2 y3 y4, LeO (numnahref08_Rules.l1 k y0 y1 y2 y3 y4) (numnahref08_Rules.l1 (k + 1) y0 y1 y2 y3 y4))
 | 0 => ⟨fun _ _ r h => by simp [numnahref08_Rules.l0] at h, fun _ _ _ _ _ r h => by simp [numnahref08_Rules.j1] at h, fun _ _ _ _ _ r h => by simp [numnahref08_Rules.l1] at h⟩
 | k + 1 => by
  obtain ⟨ih0, ih1, ih2⟩ := numnahref08_Rules.mono_l k
  refine ⟨?_, ?_, ?_⟩
  ·intro y0 y1
   unfold numnahref08_Rules.l0
   repeat' first
   | (with_reducible exact ih0 _ _)
   | (with_reducible exact ih1 _ _ _ _ _)
   | (with_reducible exact ih2 _ _ _ _ _)
   | (with_reducible exact numnahref08_Size.mono _ _)
   | (with_reducible exact numnahref08_Term.mono _ _)
   | (with_reducible exact numnahref08_occurs.mono _ _ _)
   | (with_reducible exact LeO.refl _)
   | (with_reducible exact LeO.none _)
   | (with_reducible refine LeO.ite ?_ ?_)
   | (with_reducible refine LeO.bind ?_ (fun _ => ?_))
   | exact ih0 _ _
   | exact ih1 _ _ _ _ _
   | exact ih2 _ _ _ _ _
   | exact numnahref08_Size.mono _ _
   | exact numnahref08_Term.mono _ _
   | exact numnahref08_occurs.mono _ _ _
   | exact LeO.none _
   | refine LeO.ite ?_ ?_
   | refine LeO.bind ?_ (fun _ => ?_)
  ·intro y0 y1 y2 y3 y4
   unfold numnahref08_Rules.j1
   repeat' first
   | (with_reducible exact ih0 _ _)
   | (with_reducible exact ih1 _ _ _ _ _)
   | (with_reducible exact ih2 _ _ _ _ _)
   | (with_reducible exact numnahref08_Size.mono _ _)
   | (with_reducible exact numnahref08_Term.mono _ _)
   | (with_reducible exact numnahref08_occurs.mono _ _ _)
   | (with_reducible exact LeO.refl _)
   | (with_reducible exact LeO.none _)
   | (with_reducible refine LeO.ite ?_ ?_)
   | (with_reducible refine LeO.bind ?_ (fun _ => ?_))
   | exact ih0 _ _
   | exact ih1 _ _ _ _ _
   | exact ih2 _ _ _ _ _
   | exact numnahref08_Size.mono _ _
   | exact numnahref08_Term.mono _ _
   | exact numnahref08_occurs.mono _ _ _
   | exact LeO.none _
   | refine LeO.ite ?_ ?_
   | refine LeO.bind ?_ (fun _ => ?_)
  ·intro y0 y1 y2 y3 y4
   unfold numnahref08_Rules.l1
   repeat' first
   | (with_reducible exact ih0 _ _)
   | (with_reducible exact ih1 _ _ _ _ _)
   | (with_reducible exact ih2 _ _ _ _ _)
   | (with_reducible exact numnahref08_Size.mono _ _)
   | (with_reducible exact numnahref08_Term.mono _ _)
   | (with_reducible exact numnahref08_occurs.mono _ _ _)
   | (with_reducible exact LeO.refl _)
   | (with_reducible exact LeO.none _)
   | (with_reducible refine LeO.ite ?_ ?_)
   | (with_reducible refine LeO.bind ?_ (fun _ => ?_))
   | exact ih0 _ _
   | exact ih1 _ _ _ _ _
   | exact ih2 _ _ _ _ _
   | exact numnahref08_Size.mono _ _
   | exact numnahref08_Term.mono _ _
   | exact numnahref08_occurs.mono _ _ _
   | exact LeO.none _
   | refine LeO.ite ?_ ?_
   | refine LeO.bind ?_ (fun _ => ?_)
theorem numnahref08_Rules.mono : ∀ a0 k, LeO (numnahref08_Rules.f k a0) (numnahref08_Rules.f (k + 1) a0) := by
 intro a0 k
 obtain ⟨ih0, ih1, ih2⟩ := numnahref08_Rules.mono_l k
 unfold numnahref08_Rules.f
 repeat' first
   | (with_reducible exact ih0 _ _)
   | (with_reducible exact ih1 _ _ _ _ _)
   | (with_reducible exact ih2 _ _ _ _ _)
   | (with_reducible exact numnahref08_Size.mono _ _)
   | (with_reducible exact numnahref08_Term.mono _ _)
   | (with_reducible exact numnahref08_occurs.mono _ _ _)
   | (with_reducible exact LeO.refl _)
   | (with_reducible exact LeO.none _)
   | (with_reducible refine LeO.ite ?_ ?_)
   | (with_reducible refine LeO.bind ?_ (fun _ => ?_))
   | exact ih0 _ _
   | exact ih1 _ _ _ _ _
   | exact ih2 _ _ _ _ _
   | exact numnahref08_Size.mono _ _
   | exact numnahref08_Term.mono _ _
   | exact numnahref08_occurs.mono _ _ _
   | exact LeO.none _
   | refine LeO.ite ?_ ?_
   | refine LeO.bind ?_ (fun _ => ?_)
/-! ### numnahref08_insert: function 103 -/
def numnahref08_insert.l0 : Nat → List ByteArray → ByteArray → Int → Option (List ByteArray)
 | 0, _, _, _ => none
 | k + 1, x0, x1, x5 => if x5 < (x0.length : Int) then (if 0 ≤ x5 then (if (Op.bytesLess ((rdOf ByteArray.empty x0 x5).toList) x1.toList) = true then (numnahref08_insert.l0 k x0 x1 (wrap64 (x5 + 1))) else (if (rdOf ByteArray.empty x0 x5).toList = x1.toList then (some x0) else (if x5 ≤ (x0.length : Int) then ((some (x0.take (x5 : Int).toNat : List ByteArray)).bind fun y227 => (if ([] : List ByteArray).length + y227.length < 8796093022208 then ((some (([] : List ByteArray) ++ y227 : List ByteArray)).bind fun y231 => (if y231.length < 8796093022208 then ((some (y231 ++ [x1] : List ByteArray)).bind fun y234 => ((some (x0.drop (x5 : Int).toNat : List ByteArray)).bind fun y237 => (if y234.length + y237.length < 8796093022208 then (some (y234 ++ y237)) else (none)))) else (none))) else (none))) else (none)))) else (none)) else (if 0 ≤ x5 then (if x5 ≤ (x0.length : Int) then ((some (x0.take (x5 : Int).toNat : List ByteArray)).bind fun y244 => (if ([] : List ByteArray).length + y244.length < 8796093022208 then ((some (([] : List ByteArray) ++ y244 : List ByteArray)).bind fun y248 => (if y248.length < 8796093022208 then ((some (y248 ++ [x1] : List ByteArray)).bind fun y251 => ((some (x0.drop (x5 : Int).toNat : List ByteArray)).bind fun y254 => (if y251.length + y254.length < 8796093022208 then (some (y251 ++ y254)) else (none)))) else (none))) else (none))) else (none)) else (none))
def numnahref08_insert.f (k : Nat) (l0 : List ByteArray) (a1 : ByteArray) : Option (List ByteArray) := numnahref08_insert.l0 k l0 a1 0
theorem numnahref08_insert.mono_l : ∀ k, (∀ y0 y1 y2, LeO (numnahref08_insert.l0 k y0 y1 y2) (numnahref08_insert.l0 (k + 1) y0 y1 y2))
 | 0 => fun _ _ _ r h => by simp [numnahref08_insert.l0] at h
 | k + 1 => by
  have ih0 := numnahref08_insert.mono_l k
  ·intro y0 y1 y2
   unfold numnahref08_insert.l0
   repeat' first
   | (with_reducible exact ih0 _ _ _)
   | (with_reducible exact LeO.refl _)
   | (with_reducible exact LeO.none _)
   | (with_reducible refine LeO.ite ?_ ?_)
   | (with_reducible refine LeO.bind ?_ (fun _ => ?_))
   | exact ih0 _ _ _
   | exact LeO.none _
   | refine LeO.ite ?_ ?_
   | refine LeO.bind ?_ (fun _ => ?_)
theorem numnahref08_insert.mono : ∀ a0 a1 k, LeO (numnahref08_insert.f k a0 a1) (numnahref08_insert.f (k + 1) a0 a1) := by
 intro a0 a1 k
 have ih0 := numnahref08_insert.mono_l k
 unfold numnahref08_insert.f
 repeat' first
   | (with_reducible exact ih0 _ _ _)
   | (with_reducible exact LeO.refl _)
   | (with_reducible exact LeO.none _)
   | (with_reducible refine LeO.ite ?_ ?_)
   | (with_reducible refine LeO.bind ?_ (fun _ => ?_))
   | exact ih0 _ _ _
   | exact LeO.none _
   | refine LeO.ite ?_ ?_
   | refine LeO.bind ?_ (fun _ => ?_)
/-! ### numnahref08_has: function 81 -/
def numnahref08_has.l0 : Nat → List ByteArray → ByteArray → Int → Option (Bool)
 | 0, _, _, _ => none
 | k + 1, x0, x1, x5 => if x5 < (x0.length : Int) then (if 0 ≤ x5 then (if (rdOf ByteArray.empty x0 x5).toList = x1.toList then (some true) else (numnahref08_has.l0 k x0 x1 (wrap64 (x5 + 1)))) else (none)) else (some false)
def numnahref08_has.f (k : Nat) (l0 : List ByteArray) (a1 : ByteArray) : Option (Bool) := numnahref08_has.l0 k l0 a1 0
theorem numnahref08_has.mono_l : ∀ k, (∀ y0 y1 y2, LeO (numnahref08_has.l0 k y0 y1 y2) (numnahref08_has.l0 (k + 1) y0 y1 y2))
 | 0 => fun _ _ _ r h => by simp [numnahref08_has.l0] at h
 | k + 1 => by
  have ih0 := numnahref08_has.mono_l k
  ·intro y0 y1 y2
   unfold numnahref08_has.l0
   repeat' first
   | (with_reducible exact ih0 _ _ _)
   | (with_reducible exact LeO.refl _)
   | (with_reducible exact LeO.none _)
   | (with_reducible refine LeO.ite ?_ ?_)
   | (with_reducible refine LeO.bind ?_ (fun _ => ?_))
   | exact ih0 _ _ _
   | exact LeO.none _
   | refine LeO.ite ?_ ?_
   | refine LeO.bind ?_ (fun _ => ?_)
theorem numnahref08_has.mono : ∀ a0 a1 k, LeO (numnahref08_has.f k a0 a1) (numnahref08_has.f (k + 1) a0 a1) := by
 intro a0 a1 k
 have ih0 := numnahref08_has.mono_l k
 unfold numnahref08_has.f
 repeat' first
   | (with_reducible exact ih0 _ _ _)
   | (with_reducible exact LeO.refl _)
   | (with_reducible exact LeO.none _)
   | (with_reducible refine LeO.ite ?_ ?_)
   | (with_reducible refine LeO.bind ?_ (fun _ => ?_))
   | exact ih0 _ _ _
   | exact LeO.none _
   | refine LeO.ite ?_ ?_
   | refine LeO.bind ?_ (fun _ => ?_)
end Go.Proofs.YtaafeallcaiooaaGreat.Pr
-- indented by one
namespace Go.Proofs.YtaafeallcaiooaaGreat.Pr
open Go.RowKit Go.Proofs.YtaafeallcaiooaaGreatW.PrintWords Go.Proofs.YtaafeallcaiooaaGreatW.PrintLast Go.Proofs.YtaafeallcaiooaaGreatW.PrintMore
set_option linter.unusedVariables false
set_option linter.unusedSimpArgs false
def hasB (c : Int) (l : List UInt8) : Bool := l.any (fun b => decide ((b.toNat : Int) = c))
theorem hasB_app (c : Int) (a b : List UInt8) : hasB c (a ++ b) = (hasB c a || hasB c b) := List.any_append
theorem hasB_cons (c : Int) (a : UInt8) (b : List UInt8) : hasB c (a :: b) = (decide ((a.toNat : Int) = c) || hasB c b) := List.any_cons
theorem occ_tx (c : Int) (hc : 120 ≤ c ∧ c ≤ 122) : ∀ t : Tm, t.good → hasB c t.tx = occT c t := by
 have hM : ∀ (l : List Tm) (i : Nat), (∀ x, x ∈ l → hasB c x.tx = occT c x) → hasB c (txM i l) = l.any (occT c) := by
  intro l
  induction l with
  | nil => intro i _; rfl
  | cons x l ih =>
   intro i h
   have hm : decide ((((UInt8.ofNat (mark i).toNat).toNat : Nat) : Int) = c) = false := by
    rw [mark_nat]
    unfold mark
    split <;> exact decide_eq_false (by omega)
   rw [txM, hasB_cons, hm, Bool.false_or, hasB_app, h x (by simp), ih (i + 1) (fun y hy => h y (by simp [hy])), List.any_cons]
 refine Tm.ind (fun d hg => ?_) (fun s l ih hg => ?_)
 ·rw [Tm.good] at hg
  have hd := ch_toNat (c := d) (by omega)
  rw [Tm.tx, hasB_cons, hd, occ_var, show hasB c [] = false from rfl, Bool.or_false]
  by_cases h : d = c
  ·rw [decide_eq_true h, decide_eq_true h.symm]
  ·rw [decide_eq_false h, decide_eq_false (fun e => h e.symm)]
 ·have hl2 := good_len hg
  rw [Tm.good] at hg
  have hs := ch_toNat (c := s) (by omega)
  rw [tx_app2 s l hl2, hasB_cons, hs, decide_eq_false (by omega), Bool.false_or, occ_app]
  by_cases h0 : l.length = 0
  ·rw [if_pos h0, List.length_eq_zero_iff.1 h0]; rfl
  ·rw [if_neg h0, hasB_app, hM l 0 (fun x hx => ih x hx (goods_mem hg.2.2 hx)), hasB_cons, decide_eq_false (show ¬ ((41 : UInt8).toNat : Int) = c by have : ((41 : UInt8).toNat : Int) = 41 := rfl; omega)]
   show (_ || (false || false)) = _
   rw [Bool.or_false, Bool.or_false]
theorem occursL (c : Int) (s : ByteArray) (hs : s.size ≤ 140737488351232) : ∀ (n i : Nat), s.size - i ≤ n → i ≤ s.size → Evt (fun k => numnahref08_occurs.l0 k c s (i : Int)) (hasB c (s.data.toList.drop i)) := by
 intro n
 induction n with
 | zero =>
  intro i h1 h2
  refine Evt.now fun k => ?_
  rw [numnahref08_occurs.l0, if_neg (by omega), List.drop_eq_nil_of_le (by simp; omega)]
  rfl
 | succ n ih =>
  intro i h1 h2
  by_cases hi : i < s.size
  ·obtain ⟨d, hd, hb⟩ := at_get s i hi
   have hw := wrN s hs (i := i) (by omega)
   rw [hd, hasB_cons]
   by_cases hc : (d.toNat : Int) = c
   ·rw [decide_eq_true hc, Bool.true_or]
    refine Evt.now fun k => ?_
    rw [numnahref08_occurs.l0, if_pos (by omega), if_pos (by omega), hb, if_pos hc]
   ·rw [decide_eq_false hc, Bool.false_or]
    refine Evt.step (fun k => ?_) (ih (i + 1) (by omega) (by omega))
    rw [numnahref08_occurs.l0, if_pos (by omega), if_pos (by omega), hb, if_neg hc, hw]
  ·exact ih i (by omega) h2
theorem occursE (c : Int) (s : ByteArray) (hs : s.size ≤ 140737488351232) : Evt (fun k => numnahref08_occurs.f k c s) (hasB c s.data.toList) := by
 have := occursL c s hs s.size 0 (by omega) (by omega)
 rw [List.drop_zero] at this
 exact this
def isVarB (c : Int) : Bool := decide (120 ≤ c) && decide (c ≤ 122)
theorem variable_eq (c : Int) : numnahref08_Variable.f c = some (isVarB c) := by
 unfold numnahref08_Variable.f isVarB
 by_cases h : c ≥ 120
 ·rw [if_pos h, decide_eq_true (show 120 ≤ c from h), Bool.true_and]
 ·rw [if_neg h, decide_eq_false (show ¬ 120 ≤ c from h), Bool.false_and]
/-- the variables of a text occur in another one -/
def varsIn (L : List UInt8) (R : List UInt8) : Bool := R.all (fun b => !isVarB (b.toNat : Int) || hasB (b.toNat : Int) L)
theorem rules_l1 (rs : List S94) (x3 : Int) (L R : ByteArray) (hL : L.size ≤ 140737488351232) (hR : R.size ≤ 140737488351232) (b : Bool) (hr : Evt (fun k => numnahref08_Rules.l0 k rs (wrap64 (x3 + 1))) b) : ∀ (n i : Nat), R.size - i ≤ n → i ≤ R.size → Evt (fun k => numnahref08_Rules.l1 k rs x3 L R (i : Int)) (varsIn L.data.toList (R.data.toList.drop i) && b) := by
 intro n
 induction n with
 | zero =>
  intro i h1 h2
  rw [List.drop_eq_nil_of_le (by simp; omega)]
  refine Evt.step (fun k => ?_) hr
  rw [numnahref08_Rules.l1, if_neg (by omega)]
 | succ n ih =>
  intro i h1 h2
  by_cases hi : i < R.size
  ·obtain ⟨d, hd, hb⟩ := at_get R i hi
   have hw := wrN R hR (i := i) (by omega)
   have ih' := ih (i + 1) (by omega) (by omega)
   have hv : varsIn L.data.toList (d :: R.data.toList.drop (i + 1)) = ((!isVarB (d.toNat : Int) || hasB (d.toNat : Int) L.data.toList) && varsIn L.data.toList (R.data.toList.drop (i + 1))) := List.all_cons
   rw [hd, hv, Bool.and_assoc]
   refine Evt.step (g' := fun k => if isVarB (d.toNat : Int) = true then ((numnahref08_occurs.f k (d.toNat : Int) L).bind fun t224 => (if t224 = true then (numnahref08_Rules.l1 k rs x3 L R ((i + 1 : Nat) : Int)) else (some false))) else (numnahref08_Rules.l1 k rs x3 L R ((i + 1 : Nat) : Int))) (fun k => ?_) ?_
   ·rw [numnahref08_Rules.l1, if_pos (by omega), if_pos (by omega), hb, variable_eq, Option.bind_some, hw]
   ·cases hB : isVarB (d.toNat : Int) with
    | false => exact Evt.neg (by simp) ih'
    | true =>
     refine Evt.pos rfl (Evt.bind (occursE _ L hL) ?_)
     cases hasB (d.toNat : Int) L.data.toList with
     | true => exact Evt.pos rfl ih'
     | false => exact Evt.neg (by simp) (Evt.all fun _ => rfl)
  ·exact ih i (by omega) h2
theorem isVarB_iff {c : Int} : isVarB c = true ↔ c = 120 ∨ c = 121 ∨ c = 122 := by
 unfold isVarB
 rw [Bool.and_eq_true, decide_eq_true_eq, decide_eq_true_eq]
 omega
theorem hasB_iff {c : Int} {l : List UInt8} : hasB c l = true ↔ ∃ b ∈ l, (b.toNat : Int) = c := by
 unfold hasB
 rw [List.any_eq_true]
 simp
theorem varsIn_eq {a b : Tm} (ha : a.good) (hb : b.good) : varsIn a.tx b.tx = (okVar a b 120 && (okVar a b 121 && okVar a b 122)) := by
 have key : ∀ c : Int, 120 ≤ c ∧ c ≤ 122 → (okVar a b c = true ↔ (hasB c b.tx = true → hasB c a.tx = true)) := fun c hc => by
  unfold okVar
  rw [occ_tx c hc a ha, occ_tx c hc b hb]
  cases occT c b <;> cases occT c a <;> simp
 rw [Bool.eq_iff_iff, Bool.and_eq_true, Bool.and_eq_true, key 120 (by omega), key 121 (by omega), key 122 (by omega)]
 unfold varsIn
 rw [List.all_eq_true]
 constructor
 ·intro h
  have g : ∀ c : Int, (c = 120 ∨ c = 121 ∨ c = 122) → hasB c b.tx = true → hasB c a.tx = true := fun c hc hh => by
   obtain ⟨x, hx, rfl⟩ := hasB_iff.1 hh
   have := h x hx
   rw [isVarB_iff.2 hc, Bool.not_true, Bool.false_or] at this
   exact this
  exact ⟨g 120 (by omega), g 121 (by omega), g 122 (by omega)⟩
 ·rintro ⟨h0, h1, h2⟩ x hx
  cases hv : isVarB (x.toNat : Int) with
  | false => rfl
  | true =>
   have hb : hasB (x.toNat : Int) b.tx = true := hasB_iff.2 ⟨x, hx, rfl⟩
   rw [Bool.not_true, Bool.false_or]
   rcases isVarB_iff.1 hv with e | e | e <;> rw [e] at hb ⊢
   ·exact h0 hb
   ·exact h1 hb
   ·exact h2 hb
theorem rd94_at (xs : List S94) (i : Nat) (h : i < xs.length) : rd_T94 xs (i : Int) = xs[i] := by
 unfold rd_T94
 rw [Int.toNat_natCast, List.getD_eq_getElem?_getD, List.getElem?_eq_getElem h]
 rfl
theorem text_data (t : Tm) : t.text.data.toList = t.tx := B8_list _
theorem sizeTE {s : ByteArray} {T : Tm} (hs : s.size ≤ 140737488351232) (h : readT s = some T) : Evt (fun k => numnahref08_Size.f k s) T.size := by
 have hsz := sizeE' s hs
 have hT := readT_iff.1 h
 have hcn : (cnt s.data.toList : Int) = T.size := by
  rw [hT.2.2, text_data]
  exact cnt_tx T hT.1
 rw [hcn] at hsz
 exact hsz
theorem tx_first (U : Tm) (h : U.good) : ∃ (d : UInt8) (l : List UInt8), U.tx = d :: l ∧ (d.toNat : Int) = (match U with | .var c => c | .app s _ => s) := by
 cases U with
 | var c =>
  rw [Tm.good] at h
  exact ⟨ch c, [], by rw [Tm.tx], ch_toNat (by omega)⟩
 | app s l =>
  have hl2 := good_len h
  rw [Tm.good] at h
  exact ⟨ch s, _, tx_app2 s l hl2, ch_toNat (by omega)⟩
theorem head_var {T : Tm} (h : T.good) : 0 < T.text.size ∧ isVarB (bt T.text 0) = isV T := by
 obtain ⟨d, l, h1, h2⟩ := tx_first T h
 have h3 : T.text.data.toList.drop 0 = d :: l := by rw [List.drop_zero, text_data, h1]
 obtain ⟨h4, h5, _⟩ := at_cons h3
 refine ⟨h4, ?_⟩
 have h5' : bt T.text 0 = (d.toNat : Int) := h5
 rw [h5', h2]
 cases T with
 | var c => rw [Tm.good] at h; show isVarB c = true; exact isVarB_iff.2 (by omega)
 | app s l => rw [Tm.good] at h; show isVarB s = false; rw [← Bool.not_eq_true, isVarB_iff]; omega
theorem rules_one (rs : List S94) (i : Nat) (h : i < rs.length) (hL : rs[i].f0.size ≤ 140737488351232) (hR : rs[i].f1.size ≤ 140737488351232) (b : Bool) (hr : Evt (fun k => numnahref08_Rules.l0 k rs (wrap64 ((i : Int) + 1))) b) :
  Evt (fun k => numnahref08_Rules.l0 k rs (i : Int)) ((lawT rs[i]).isSome && b) := by
 obtain ⟨L, hLe⟩ : ∃ L, L = rs[i].f0 := ⟨_, rfl⟩
 obtain ⟨R, hRe⟩ : ∃ R, R = rs[i].f1 := ⟨_, rfl⟩
 have hj : Evt (fun k => numnahref08_Rules.j1 k rs (i : Int) L R true) false := Evt.now fun k => by rw [numnahref08_Rules.j1, if_pos rfl]
 refine Evt.step (g' := fun k => (numnahref08_Term.f k L).bind fun t218 => (if t218 = true then ((numnahref08_Term.f k R).bind fun t219 => (if t219 = true then ((numnahref08_Size.f k L).bind fun t220 => (if t220 > 12 then (numnahref08_Rules.j1 k rs (i : Int) L R true) else ((numnahref08_Size.f k R).bind fun t221 => (if t221 > 12 then (numnahref08_Rules.j1 k rs (i : Int) L R true) else (if 0 < ((L).size : Int) then ((numnahref08_Variable.f (bt L 0)).bind fun t222 => (numnahref08_Rules.j1 k rs (i : Int) L R t222)) else (none)))))) else (numnahref08_Rules.j1 k rs (i : Int) L R true))) else (numnahref08_Rules.j1 k rs (i : Int) L R true))) (fun k => ?_) ?_
 ·rw [numnahref08_Rules.l0, if_pos (by omega), if_pos (by omega), rd94_at rs i h, ← hLe, ← hRe]
 rw [← hLe] at hL
 rw [← hRe] at hR
 have hlaw : lawT rs[i] = ((readT L).bind fun a => (readT R).map fun b => (a, b)).bind fun r => if okLaw r.1 r.2 then some r else none := by rw [hLe, hRe]; rfl
 rw [hlaw]
 refine Evt.bind (termRE L hL) ?_
 cases hA : readT L with
 | none => exact Evt.neg (by simp) hj
 | some A =>
  refine Evt.pos rfl (Evt.bind (termRE R hR) ?_)
  cases hB : readT R with
  | none => exact Evt.neg (by simp) hj
  | some B =>
   have gA := readT_iff.1 hA
   have gB := readT_iff.1 hB
   rw [Option.bind_some, Option.map_some, Option.bind_some]
   dsimp only
   unfold okLaw
   refine Evt.pos rfl (Evt.bind (sizeTE hL hA) ?_)
   by_cases h1 : A.size > 12
   ·rw [decide_eq_false (show ¬ A.size ≤ 12 by omega), Bool.false_and, Bool.and_false, if_neg (by simp)]
    exact Evt.pos h1 hj
   ·refine Evt.neg h1 (Evt.bind (sizeTE hR hB) ?_)
    rw [decide_eq_true (show A.size ≤ 12 by omega), Bool.true_and]
    by_cases h2 : B.size > 12
    ·rw [decide_eq_false (show ¬ B.size ≤ 12 by omega), Bool.false_and, Bool.and_false, if_neg (by simp)]
     exact Evt.pos h2 hj
    ·have hv := head_var gA.1
     rw [← gA.2.2] at hv
     refine Evt.neg h2 (Evt.pos (by omega) ?_)
     rw [decide_eq_true (show B.size ≤ 12 by omega), Bool.true_and, variable_eq, hv.2]
     cases hV : isV A with
     | true =>
      rw [Bool.not_true, Bool.false_and, if_neg (by simp)]
      exact hj
     | false =>
      have h3 := rules_l1 rs (i : Int) L R hL hR b hr R.size 0 (by omega) (by omega)
      rw [List.drop_zero, gA.2.2, gB.2.2, text_data, text_data, varsIn_eq gA.1 gB.1, ← gA.2.2, ← gB.2.2] at h3
      rw [Bool.not_false, Bool.true_and]
      refine Evt.step (g' := fun k => numnahref08_Rules.l1 k rs (i : Int) L R ((0 : Nat) : Int)) (fun k => ?_) (h3.val ?_)
      ·rw [Option.bind_some, numnahref08_Rules.j1, if_neg (by simp)]; rfl
      ·cases (okVar A B 120 && (okVar A B 121 && okVar A B 122)) <;> rfl
theorem rules_l0 (rs : List S94) (hl : rs.length ≤ 1000) (hz : ∀ x, x ∈ rs → x.f0.size ≤ 1000 ∧ x.f1.size ≤ 1000) : ∀ (n i : Nat), i + n = rs.length → Evt (fun k => numnahref08_Rules.l0 k rs (i : Int)) ((lawsT (rs.drop i)).isSome && decide ((rs.length : Int) ≤ 6))
 | 0, i, hi => by
  rw [List.drop_of_length_le (by omega), lawsT]
  refine Evt.now fun k => ?_
  rw [numnahref08_Rules.l0, if_neg (by omega)]
  rfl
 | n + 1, i, hi => by
  have hlt : i < rs.length := by omega
  have hz' := hz rs[i] (List.getElem_mem hlt)
  have ih := rules_l0 rs hl hz n (i + 1) (by omega)
  have hw : wrap64 ((i : Int) + 1) = ((i + 1 : Nat) : Int) := (wr (by omega) (by omega)).trans (by omega)
  rw [← hw] at ih
  refine (rules_one rs i hlt (by omega) (by omega) _ ih).val ?_
  rw [List.drop_eq_getElem_cons hlt, lawsT]
  cases lawT rs[i] with
  | none => rfl
  | some x => cases lawsT (rs.drop (i + 1)) <;> rfl
/-! ### laws, few -/
def okL (rs : List S94) : Prop := rs.length ≤ 7 ∧ ∀ x, x ∈ rs → x.f0.size ≤ 80 ∧ x.f1.size ≤ 80
theorem mn80 (n : Nat) : 0 ≤ mn (n : Int) 80 ∧ mn (n : Int) 80 ≤ (n : Int) ∧ mn (n : Int) 80 ≤ 80 := by unfold mn; split <;> omega
theorem lawsL (l : List S94) : ∀ (n i : Nat) (acc : List S94), i + n = 7 → i ≤ l.length → acc.length = i → (∀ x, x ∈ acc → x.f0.size ≤ 80 ∧ x.f1.size ≤ 80) → ∃ r, okL r ∧ Evt (fun k => numnahlaw08_laws.l0 k l acc (i : Int)) r
 | 0, i, acc, hi, hx, ha, hz => by
  refine ⟨acc, ⟨by omega, hz⟩, Evt.now fun k => ?_⟩
  rw [numnahlaw08_laws.l0, if_neg (show ¬ (i : Int) ≤ 6 by omega)]
  split <;> rfl
 | n + 1, i, acc, hi, hx, ha, hz => by
  by_cases hlt : i < l.length
  ·have hw : wrap64 ((i : Int) + 1) = ((i + 1 : Nat) : Int) := (wr (by omega) (by omega)).trans (by omega)
   have m0 := mn80 l[i].f0.size
   have m1 := mn80 l[i].f1.size
   obtain ⟨r, hr, hE⟩ := lawsL l n (i + 1) (acc ++ [⟨l[i].f0.extract 0 (mn (l[i].f0.size : Int) 80).toNat, l[i].f1.extract 0 (mn (l[i].f1.size : Int) 80).toNat⟩]) (by omega) (by omega) (by simp [ha]) (fun x hx => by
    rcases List.mem_append.1 hx with hx | hx
    ·exact hz x hx
    ·obtain rfl := List.mem_singleton.1 hx
     dsimp only
     rw [ByteArray.size_extract, ByteArray.size_extract]
     omega)
   refine ⟨r, hr, Evt.step (fun k => ?_) hE⟩
   rw [numnahlaw08_laws.l0, if_pos (by omega), if_pos (by omega), if_pos (by omega), rd94_at l i hlt, if_pos m0.1, if_pos m0.2.1, if_pos m1.1, if_pos m1.2.1, if_pos (by omega), hw]
  ·refine ⟨acc, ⟨by omega, hz⟩, Evt.now fun k => ?_⟩
   rw [numnahlaw08_laws.l0, if_neg (by omega)]
def okF (l : List ByteArray) : Prop := l.length ≤ 21 ∧ ∀ x, x ∈ l → x.size ≤ 400
theorem rdOf_at (xs : List ByteArray) (i : Nat) (h : i < xs.length) : rdOf ByteArray.empty xs (i : Int) = xs[i] := by
 unfold rdOf
 rw [Int.toNat_natCast, List.getD_eq_getElem?_getD, List.getElem?_eq_getElem h]
 rfl
theorem fewL (l : List ByteArray) : ∀ (n i : Nat) (acc : List ByteArray), i + n = 21 → i ≤ l.length → acc.length = i → (∀ x, x ∈ acc → x.size ≤ 400) → ∃ r, okF r ∧ Evt (fun k => numnahlaw08_few.l0 k l acc (i : Int)) r
 | 0, i, acc, hi, hx, ha, hz => by
  refine ⟨acc, ⟨by omega, hz⟩, Evt.now fun k => ?_⟩
  rw [numnahlaw08_few.l0, if_neg (show ¬ (i : Int) ≤ 20 by omega)]
  split <;> rfl
 | n + 1, i, acc, hi, hx, ha, hz => by
  by_cases hlt : i < l.length
  ·have hw : wrap64 ((i : Int) + 1) = ((i + 1 : Nat) : Int) := (wr (by omega) (by omega)).trans (by omega)
   obtain ⟨t, ht, hts⟩ := short_ev l[i]
   obtain ⟨r, hr, hE⟩ := fewL l n (i + 1) (acc ++ [t]) (by omega) (by omega) (by simp [ha]) (fun x hx => by
    rcases List.mem_append.1 hx with hx | hx
    ·exact hz x hx
    ·obtain rfl := List.mem_singleton.1 hx
     exact hts)
   refine ⟨r, hr, Evt.step (fun k => ?_) hE⟩
   rw [numnahlaw08_few.l0, if_pos (by omega), if_pos (by omega), if_pos (by omega), rdOf_at l i hlt, ht, Option.bind_some, if_pos (by omega), hw]
  ·refine ⟨acc, ⟨by omega, hz⟩, Evt.now fun k => ?_⟩
   rw [numnahlaw08_few.l0, if_neg (by omega)]
end Go.Proofs.YtaafeallcaiooaaGreat.Pr
-- indented by one
