import Derived.Test.YtaafeallcaiooaaGreatPr0
import Derived.Test.YtaafeallcaiooaaGreatPrA2
import Derived.Test.YtaafeallcaiooaaGreatPrA3
-- Laid by wip/tools/inj.py of this project, which drives the kit's printer. Lean checks it.
namespace Go.Proofs.YtaafeallcaiooaaGreat.Pr
open Go.RowKit Go.Proofs.YtaafeallcaiooaaGreatW.PrintWords Go.Proofs.YtaafeallcaiooaaGreatW.PrintLast Go.Proofs.YtaafeallcaiooaaGreatW.PrintMore
attribute [local go_sem] max2_int min2_int max_two min_two max_three min_three max_four min_four   -- for this text's walks alone
set_option linter.unusedVariables false
set_option linter.unusedSimpArgs false

/-! ### numnahlaw08_laws: function 28 -/
def numnahlaw08_laws.l0 : Nat → List (S94) → List (S94) → Int → Option ((List (S94)))
 | 0, _, _, _ => none
 | k + 1, x0, x3, x4 => if x4 < (x0.length : Int) then (if x4 ≤ 6 then (if 0 ≤ x4 then (if 0 ≤ (mn (((rd_T94 x0 x4).f0).size : Int) 80) then (if (mn (((rd_T94 x0 x4).f0).size : Int) 80) ≤ (((rd_T94 x0 x4).f0).size : Int) then (if 0 ≤ (mn (((rd_T94 x0 x4).f1).size : Int) 80) then (if (mn (((rd_T94 x0 x4).f1).size : Int) 80) ≤ (((rd_T94 x0 x4).f1).size : Int) then (if x3.length < 4398046511104 then (numnahlaw08_laws.l0 k x0 (x3 ++ [(⟨((rd_T94 x0 x4).f0).extract 0 ((mn (((rd_T94 x0 x4).f0).size : Int) 80) : Int).toNat, ((rd_T94 x0 x4).f1).extract 0 ((mn (((rd_T94 x0 x4).f1).size : Int) 80) : Int).toNat⟩ : S94)]) (wrap64 (x4 + 1))) else (none)) else (none)) else (none)) else (none)) else (none)) else (none)) else (some x3)) else (some x3)
def numnahlaw08_laws.f (k : Nat) (l0 : List (S94)) : Option ((List (S94))) := numnahlaw08_laws.l0 k l0 ([] : List (S94)) 0
theorem numnahlaw08_laws.mono_l : ∀ k, (∀ y0 y1 y2, LeO (numnahlaw08_laws.l0 k y0 y1 y2) (numnahlaw08_laws.l0 (k + 1) y0 y1 y2))
 | 0 => fun _ _ _ r h => by simp [numnahlaw08_laws.l0] at h
 | k + 1 => by
  have ih0 := numnahlaw08_laws.mono_l k
  ·intro y0 y1 y2
   unfold numnahlaw08_laws.l0
   repeat' first
   | (with_reducible exact ih0 _ _ _)
   | (with_reducible exact LeO.refl _)
   | (with_reducible exact LeO.none _)
   | (with_reducible refine LeO.ite ?_ ?_)
   | (with_reducible refine LeO.bind ?_ (fun _ => ?_))
   | exact ih0 _ _ _
   | exact LeO.none _
   | refine LeO.ite ?_ ?_
   | refine LeO.bind ?_ (fun _ => ?_)
theorem numnahlaw08_laws.mono : ∀ a0 k, LeO (numnahlaw08_laws.f k a0) (numnahlaw08_laws.f (k + 1) a0) := by
 intro a0 k
 have ih0 := numnahlaw08_laws.mono_l k
 unfold numnahlaw08_laws.f
 repeat' first
   | (with_reducible exact ih0 _ _ _)
   | (with_reducible exact LeO.refl _)
   | (with_reducible exact LeO.none _)
   | (with_reducible refine LeO.ite ?_ ?_)
   | (with_reducible refine LeO.bind ?_ (fun _ => ?_))
   | exact ih0 _ _ _
   | exact LeO.none _
   | refine LeO.ite ?_ ?_
   | refine LeO.bind ?_ (fun _ => ?_)
/-! ### numnahlaw08_few: function 29 -/
def numnahlaw08_few.l0 : Nat → List ByteArray → List ByteArray → Int → Option (List ByteArray)
 | 0, _, _, _ => none
 | k + 1, x0, x3, x4 => if x4 < (x0.length : Int) then (if x4 ≤ 20 then (if 0 ≤ x4 then ((numnahlaw08_short.f (rdOf ByteArray.empty x0 x4)).bind fun t212 => (if x3.length < 8796093022208 then (numnahlaw08_few.l0 k x0 (x3 ++ [t212]) (wrap64 (x4 + 1))) else (none))) else (none)) else (some x3)) else (some x3)
def numnahlaw08_few.f (k : Nat) (l0 : List ByteArray) : Option (List ByteArray) := numnahlaw08_few.l0 k l0 ([] : List ByteArray) 0
theorem numnahlaw08_few.mono_l : ∀ k, (∀ y0 y1 y2, LeO (numnahlaw08_few.l0 k y0 y1 y2) (numnahlaw08_few.l0 (k + 1) y0 y1 y2))
 | 0 => fun _ _ _ r h => by simp [numnahlaw08_few.l0] at h
 | k + 1 => by
  have ih0 := numnahlaw08_few.mono_l k
  ·intro y0 y1 y2
   unfold numnahlaw08_few.l0
   repeat' first
   | (with_reducible exact ih0 _ _ _)
   | (with_reducible exact LeO.refl _)
   | (with_reducible exact LeO.none _)
   | (with_reducible refine LeO.ite ?_ ?_)
   | (with_reducible refine LeO.bind ?_ (fun _ => ?_))
   | exact ih0 _ _ _
   | exact LeO.none _
   | refine LeO.ite ?_ ?_
   | refine LeO.bind ?_ (fun _ => ?_)
theorem numnahlaw08_few.mono : ∀ a0 k, LeO (numnahlaw08_few.f k a0) (numnahlaw08_few.f (k + 1) a0) := by
 intro a0 k
 have ih0 := numnahlaw08_few.mono_l k
 unfold numnahlaw08_few.f
 repeat' first
   | (with_reducible exact ih0 _ _ _)
   | (with_reducible exact LeO.refl _)
   | (with_reducible exact LeO.none _)
   | (with_reducible refine LeO.ite ?_ ?_)
   | (with_reducible refine LeO.bind ?_ (fun _ => ?_))
   | exact ih0 _ _ _
   | exact LeO.none _
   | refine LeO.ite ?_ ?_
   | refine LeO.bind ?_ (fun _ => ?_)
/-! ### numnahref08_occurs: function 80 -/
def numnahref08_occurs.l0 : Nat → Int → ByteArray → Int → Option (Bool)
 | 0, _, _, _ => none
 | k + 1, x0, x1, x5 => if x5 < (x1.size : Int) then (if 0 ≤ x5 then (if (bt x1 x5) = x0 then (some true) else (numnahref08_occurs.l0 k x0 x1 (wrap64 (x5 + 1)))) else (none)) else (some false)
def numnahref08_occurs.f (k : Nat) (a0 : Int) (a1 : ByteArray) : Option (Bool) := numnahref08_occurs.l0 k a0 a1 0
theorem numnahref08_occurs.mono_l : ∀ k, (∀ y0 y1 y2, LeO (numnahref08_occurs.l0 k y0 y1 y2) (numnahref08_occurs.l0 (k + 1) y0 y1 y2))
 | 0 => fun _ _ _ r h => by simp [numnahref08_occurs.l0] at h
 | k + 1 => by
  have ih0 := numnahref08_occurs.mono_l k
  ·intro y0 y1 y2
   unfold numnahref08_occurs.l0
   repeat' first
   | (with_reducible exact ih0 _ _ _)
   | (with_reducible exact LeO.refl _)
   | (with_reducible exact LeO.none _)
   | (with_reducible refine LeO.ite ?_ ?_)
   | (with_reducible refine LeO.bind ?_ (fun _ => ?_))
   | exact ih0 _ _ _
   | exact LeO.none _
   | refine LeO.ite ?_ ?_
   | refine LeO.bind ?_ (fun _ => ?_)
theorem numnahref08_occurs.mono : ∀ a0 a1 k, LeO (numnahref08_occurs.f k a0 a1) (numnahref08_occurs.f (k + 1) a0 a1) := by
 intro a0 a1 k
 have ih0 := numnahref08_occurs.mono_l k
 unfold numnahref08_occurs.f
 repeat' first
   | (with_reducible exact ih0 _ _ _)
   | (with_reducible exact LeO.refl _)
   | (with_reducible exact LeO.none _)
   | (with_reducible refine LeO.ite ?_ ?_)
   | (with_reducible refine LeO.bind ?_ (fun _ => ?_))
   | exact ih0 _ _ _
   | exact LeO.none _
   | refine LeO.ite ?_ ?_
   | refine LeO.bind ?_ (fun _ => ?_)
end Go.Proofs.YtaafeallcaiooaaGreat.Pr
-- indented by one
-- Laid by wip/tools/inj.py of this project, which drives the kit's printer. Lean checks it.
namespace Go.Proofs.YtaafeallcaiooaaGreat.Pr
open Go.RowKit Go.Proofs.YtaafeallcaiooaaGreatW.PrintWords Go.Proofs.YtaafeallcaiooaaGreatW.PrintLast Go.Proofs.YtaafeallcaiooaaGreatW.PrintMore
attribute [local go_sem] max2_int min2_int max_two min_two max_three min_three max_four min_four   -- for this text's walks alone
set_option linter.unusedVariables false
set_option linter.unusedSimpArgs false

/-! ### numnahref08_Rules: function 31 -/
mutual
def numnahref08_Rules.l0 : Nat → List (S94) → Int → Option (Bool)
 | 0, _, _ => none
 | k + 1, x0, x3 => if x3 < (x0.length : Int) then (if 0 ≤ x3 then ((numnahref08_Term.f k ((rd_T94 x0 x3).f0)).bind fun t218 => (if t218 = true then ((numnahref08_Term.f k ((rd_T94 x0 x3).f1)).bind fun t219 => (if t219 = true then ((numnahref08_Size.f k ((rd_T94 x0 x3).f0)).bind fun t220 => (if t220 > 12 then (numnahref08_Rules.j1 k x0 x3 ((rd_T94 x0 x3).f0) ((rd_T94 x0 x3).f1) true) else ((numnahref08_Size.f k ((rd_T94 x0 x3).f1)).bind fun t221 => (if t221 > 12 then (numnahref08_Rules.j1 k x0 x3 ((rd_T94 x0 x3).f0) ((rd_T94 x0 x3).f1) true) else (if 0 < (((rd_T94 x0 x3).f0).size : Int) then ((numnahref08_Variable.f (bt ((rd_T94 x0 x3).f0) 0)).bind fun t222 => (numnahref08_Rules.j1 k x0 x3 ((rd_T94 x0 x3).f0) ((rd_T94 x0 x3).f1) t222)) else (none)))))) else (numnahref08_Rules.j1 k x0 x3 ((rd_T94 x0 x3).f0) ((rd_T94 x0 x3).f1) true))) else (numnahref08_Rules.j1 k x0 x3 ((rd_T94 x0 x3).f0) ((rd_T94 x0 x3).f1) true))) else (none)) else (some (decide ((x0.length : Int) ≤ 6)))
def numnahref08_Rules.j1 : Nat → List (S94) → Int → ByteArray → ByteArray → Bool → Option (Bool)
 | 0, _, _, _, _, _ => none
 | k + 1, x0, x3, x4, x5, x45 => if x45 = true then (some false) else (numnahref08_Rules.l1 k x0 x3 x4 x5 0)
def numnahref08_Rules.l1 : Nat → List (S94) → Int → ByteArray → ByteArray → Int → Option (Bool)
 | 0, _, _, _, _, _ => none
 | k + 1, x0, x3, x4, x5, x6 => if x6 < (x5.size : Int) then (if 0 ≤ x6 then ((numnahref08_Variable.f (bt x5 x6)).bind fun t223 => (if t223 = true then ((numnahref08_occurs.f k (bt x5 x6) x4).bind fun t224 => (if t224 = true then (numnahref08_Rules.l1 k x0 x3 x4 x5 (wrap64 (x6 + 1))) else (some false))) else (numnahref08_Rules.l1 k x0 x3 x4 x5 (wrap64 (x6 + 1))))) else (none)) else (numnahref08_Rules.l0 k x0 (wrap64 (x3 + 1)))
end
def numnahref08_Rules.f (k : Nat) (l0 : List (S94)) : Option (Bool) := numnahref08_Rules.l0 k l0 0
theorem numnahref08_Rules.mono_l : ∀ k, (∀ y0 y1, LeO (numnahref08_Rules.l0 k y0 y1) (numnahref08_Rules.l0 (k + 1) y0 y1)) ∧ (∀ y0 y1 y2 y3 y4, LeO (numnahref08_Rules.j1 k y0 y1 y2 y3 y4) (numnahref08_Rules.j1 (k + 1) y0 y1 y2 y3 y4)) ∧ (∀ y0 y1 y2 y3 y4, LeO (numnahref08_Rules.l1 k y0 y1 y2 y3 y4) (numnahref08_Rules.l1 (k + 1) y0 y1 y2 y3 y4))
 | 0 => ⟨fun _ _ r h => by simp [numnahref08_Rules.l0] at h, fun _ _ _ _ _ r h => by simp [numnahref08_Rules.j1] at h, fun _ _ _ _ _ r h => by simp [numnahref08_Rules.l1] at h⟩
 | k + 1 => by
  obtain ⟨ih0, ih1, ih2⟩ := numnahref08_Rules.mono_l k
  refine ⟨?_, ?_, ?_⟩
  ·intro y0 y1
   unfold numnahref08_Rules.l0
   repeat' first
   | (with_reducible exact ih0 _ _)
   | (with_reducible exact ih1 _ _ _ _ _)
   | (with_reducible exact ih2 _ _ _ _ _)
   | (with_reducible exact numnahref08_Size.mono _ _)
   | (with_reducible exact numnahref08_Term.mono _ _)
   | (with_reducible exact numnahref08_occurs.mono _ _ _)
   | (with_reducible exact LeO.refl _)
   | (with_reducible exact LeO.none _)
   | (with_reducible refine LeO.ite ?_ ?_)
   | (with_reducible refine LeO.bind ?_ (fun _ => ?_))
   | exact ih0 _ _
   | exact ih1 _ _ _ _ _
   | exact ih2 _ _ _ _ _
   | exact numnahref08_Size.mono _ _
   | exact numnahref08_Term.mono _ _
   | exact numnahref08_occurs.mono _ _ _
   | exact LeO.none _
   | refine LeO.ite ?_ ?_
   | refine LeO.bind ?_ (fun _ => ?_)
  ·intro y0 y1 y2 y3 y4
   unfold numnahref08_Rules.j1
   repeat' first
   | (with_reducible exact ih0 _ _)
   | (with_reducible exact ih1 _ _ _ _ _)
   | (with_reducible exact ih2 _ _ _ _ _)
   | (with_reducible exact numnahref08_Size.mono _ _)
   | (with_reducible exact numnahref08_Term.mono _ _)
   | (with_reducible exact numnahref08_occurs.mono _ _ _)
   | (with_reducible exact LeO.refl _)
   | (with_reducible exact LeO.none _)
   | (with_reducible refine LeO.ite ?_ ?_)
   | (with_reducible refine LeO.bind ?_ (fun _ => ?_))
   | exact ih0 _ _
   | exact ih1 _ _ _ _ _
   | exact ih2 _ _ _ _ _
   | exact numnahref08_Size.mono _ _
   | exact numnahref08_Term.mono _ _
   | exact numnahref08_occurs.mono _ _ _
   | exact LeO.none _
   | refine LeO.ite ?_ ?_
   | refine LeO.bind ?_ (fun _ => ?_)
  ·intro y0 y1 y2 y3 y4
   unfold numnahref08_Rules.l1
   repeat' first
   | (with_reducible exact ih0 _ _)
   | (with_reducible exact ih1 _ _ _ _ _)
   | (with_reducible exact ih2 _ _ _ _ _)
   | (with_reducible exact numnahref08_Size.mono _ _)
   | (with_reducible exact numnahref08_Term.mono _ _)
   | (with_reducible exact numnahref08_occurs.mono _ _ _)
   | (with_reducible exact LeO.refl _)
   | (with_reducible exact LeO.none _)
   | (with_reducible refine LeO.ite ?_ ?_)
   | (with_reducible refine LeO.bind ?_ (fun _ => ?_))
   | exact ih0 _ _
   | exact ih1 _ _ _ _ _
   | exact ih2 _ _ _ _ _
   | exact numnahref08_Size.mono _ _
   | exact numnahref08_Term.mono _ _
   | exact numnahref08_occurs.mono _ _ _
   | exact LeO.none _
   | refine LeO.ite ?_ ?_
   | refine LeO.bind ?_ (fun _ => ?_)
theorem numnahref08_Rules.mono : ∀ a0 k, LeO (numnahref08_Rules.f k a0) (numnahref08_Rules.f (k + 1) a0) := by
 intro a0 k
 obtain ⟨ih0, ih1, ih2⟩ := numnahref08_Rules.mono_l k
 unfold numnahref08_Rules.f
 repeat' first
   | (with_reducible exact ih0 _ _)
   | (with_reducible exact ih1 _ _ _ _ _)
   | (with_reducible exact ih2 _ _ _ _ _)
   | (with_reducible exact numnahref08_Size.mono _ _)
   | (with_reducible exact numnahref08_Term.mono _ _)
   | (with_reducible exact numnahref08_occurs.mono _ _ _)
   | (with_reducible exact LeO.refl _)
   | (with_reducible exact LeO.none _)
   | (with_reducible refine LeO.ite ?_ ?_)
   | (with_reducible refine LeO.bind ?_ (fun _ => ?_))
   | exact ih0 _ _
   | exact ih1 _ _ _ _ _
   | exact ih2 _ _ _ _ _
   | exact numnahref08_Size.mono _ _
   | exact numnahref08_Term.mono _ _
   | exact numnahref08_occurs.mono _ _ _
   | exact LeO.none _
   | refine LeO.ite ?_ ?_
   | refine LeO.bind ?_ (fun _ => ?_)
/-! ### numnahref08_insert: function 103 -/
def numnahref08_insert.l0 : Nat → List ByteArray → ByteArray → Int → Option (List ByteArray)
 | 0, _, _, _ => none
 | k + 1, x0, x1, x5 => if x5 < (x0.length : Int) then (if 0 ≤ x5 then (if (Op.bytesLess ((rdOf ByteArray.empty x0 x5).toList) x1.toList) = true then (numnahref08_insert.l0 k x0 x1 (wrap64 (x5 + 1))) else (if (rdOf ByteArray.empty x0 x5).toList = x1.toList then (some x0) else (if x5 ≤ (x0.length : Int) then ((some (x0.take (x5 : Int).toNat : List ByteArray)).bind fun y227 => (if ([] : List ByteArray).length + y227.length < 8796093022208 then ((some (([] : List ByteArray) ++ y227 : List ByteArray)).bind fun y231 => (if y231.length < 8796093022208 then ((some (y231 ++ [x1] : List ByteArray)).bind fun y234 => ((some (x0.drop (x5 : Int).toNat : List ByteArray)).bind fun y237 => (if y234.length + y237.length < 8796093022208 then (some (y234 ++ y237)) else (none)))) else (none))) else (none))) else (none)))) else (none)) else (if 0 ≤ x5 then (if x5 ≤ (x0.length : Int) then ((some (x0.take (x5 : Int).toNat : List ByteArray)).bind fun y244 => (if ([] : List ByteArray).length + y244.length < 8796093022208 then ((some (([] : List ByteArray) ++ y244 : List ByteArray)).bind fun y248 => (if y248.length < 8796093022208 then ((some (y248 ++ [x1] : List ByteArray)).bind fun y251 => ((some (x0.drop (x5 : Int).toNat : List ByteArray)).bind fun y254 => (if y251.length + y254.length < 8796093022208 then (some (y251 ++ y254)) else (none)))) else (none))) else (none))) else (none)) else (none))
def numnahref08_insert.f (k : Nat) (l0 : List ByteArray) (a1 : ByteArray) : Option (List ByteArray) := numnahref08_insert.l0 k l0 a1 0
theorem numnahref08_insert.mono_l : ∀ k, (∀ y0 y1 y2, LeO (numnahref08_insert.l0 k y0 y1 y2) (numnahref08_insert.l0 (k + 1) y0 y1 y2))
 | 0 => fun _ _ _ r h => by simp [numnahref08_insert.l0] at h
 | k + 1 => by
  have ih0 := numnahref08_insert.mono_l k
  ·intro y0 y1 y2
   unfold numnahref08_insert.l0
   repeat' first
   | (with_reducible exact ih0 _ _ _)
   | (with_reducible exact LeO.refl _)
   | (with_reducible exact LeO.none _)
   | (with_reducible refine LeO.ite ?_ ?_)
   | (with_reducible refine LeO.bind ?_ (fun _ => ?_))
   | exact ih0 _ _ _
   | exact LeO.none _
   | refine LeO.ite ?_ ?_
   | refine LeO.bind ?_ (fun _ => ?_)
theorem numnahref08_insert.mono : ∀ a0 a1 k, LeO (numnahref08_insert.f k a0 a1) (numnahref08_insert.f (k + 1) a0 a1) := by
 intro a0 a1 k
 have ih0 := numnahref08_insert.mono_l k
 unfold numnahref08_insert.f
 repeat' first
   | (with_reducible exact ih0 _ _ _)
   | (with_reducible exact LeO.refl _)
   | (with_reducible exact LeO.none _)
   | (with_reducible refine LeO.ite ?_ ?_)
   | (with_reducible refine LeO.bind ?_ (fun _ => ?_))
   | exact ih0 _ _ _
   | exact LeO.none _
   | refine LeO.ite ?_ ?_
   | refine LeO.bind ?_ (fun _ => ?_)
/-! ### numnahref08_has: function 81 -/
def numnahref08_has.l0 : Nat → List ByteArray → ByteArray → Int → Option (Bool)
 | 0, _, _, _ => none
 | k + 1, x0, x1, x5 => if x5 < (x0.length : Int) then (if 0 ≤ x5 then (if (rdOf ByteArray.empty x0 x5).toList = x1.toList then (some true) else (numnahref08_has.l0 k x0 x1 (wrap64 (x5 + 1)))) else (none)) else (some false)
def numnahref08_has.f (k : Nat) (l0 : List ByteArray) (a1 : ByteArray) : Option (Bool) := numnahref08_has.l0 k l0 a1 0
theorem numnahref08_has.mono_l : ∀ k, (∀ y0 y1 y2, LeO (numnahref08_has.l0 k y0 y1 y2) (numnahref08_has.l0 (k + 1) y0 y1 y2))
 | 0 => fun _ _ _ r h => by simp [numnahref08_has.l0] at h
 | k + 1 => by
  have ih0 := numnahref08_has.mono_l k
  ·intro y0 y1 y2
   unfold numnahref08_has.l0
   repeat' first
   | (with_reducible exact ih0 _ _ _)
   | (with_reducible exact LeO.refl _)
   | (with_reducible exact LeO.none _)
   | (with_reducible refine LeO.ite ?_ ?_)
   | (with_reducible refine LeO.bind ?_ (fun _ => ?_))
   | exact ih0 _ _ _
   | exact LeO.none _
   | refine LeO.ite ?_ ?_
   | refine LeO.bind ?_ (fun _ => ?_)
theorem numnahref08_has.mono : ∀ a0 a1 k, LeO (numnahref08_has.f k a0 a1) (numnahref08_has.f (k + 1) a0 a1) := by
 intro a0 a1 k
 have ih0 := numnahref08_has.mono_l k
 unfold numnahref08_has.f
 repeat' first
   | (with_reducible exact ih0 _ _ _)
   | (with_reducible exact LeO.refl _)
   | (with_reducible exact LeO.none _)
   | (with_reducible refine LeO.ite ?_ ?_)
   | (with_reducible refine LeO.bind ?_ (fun _ => ?_))
   | exact ih0 _ _ _
   | exact LeO.none _
   | refine LeO.ite ?_ ?_
   | refine LeO.bind ?_ (fun _ => ?_)
end Go.Proofs.YtaafeallcaiooaaGreat.Pr
-- indented by one
