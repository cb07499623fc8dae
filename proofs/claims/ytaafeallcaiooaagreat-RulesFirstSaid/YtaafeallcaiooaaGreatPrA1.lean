-- Laid by wip/tools/inj.py of this project, which drives the kit's printer. Lean checks it.
import Derived.Test.YtaafeallcaiooaaGreatPr0
namespace Go.Proofs.YtaafeallcaiooaaGreat.Pr
open Go.RowKit Go.Proofs.YtaafeallcaiooaaGreatW.PrintWords Go.Proofs.YtaafeallcaiooaaGreatW.PrintLast Go.Proofs.YtaafeallcaiooaaGreatW.PrintMore
attribute [local go_sem] max2_int min2_int max_two min_two max_three min_three max_four min_four   -- for this text's walks alone
set_option linter.unusedVariables false
set_option linter.unusedSimpArgs false

/-! ### numnahlaw08_numbers: function 20 -/
def numnahlaw08_numbers.l0 : Nat → List (List Int) → List (List Int) → Int → Option ((List (List Int)))
 | 0, _, _, _ => none
 | k + 1, x0, x3, x4 => if x4 < (x0.length : Int) then (if x4 < 7 then (if 0 ≤ x4 then (if 0 ≤ (mn ((rd_L1 x0 x4).length : Int) 4) then (if (mn ((rd_L1 x0 x4).length : Int) 4) ≤ ((rd_L1 x0 x4).length : Int) then (if ([] : List Int).length + ((rd_L1 x0 x4).take ((mn ((rd_L1 x0 x4).length : Int) 4) : Int).toNat).length < 17592186044416 then (if x3.length < 5864062014805 then (numnahlaw08_numbers.l0 k x0 (x3 ++ [(([] : List Int) ++ ((rd_L1 x0 x4).take ((mn ((rd_L1 x0 x4).length : Int) 4) : Int).toNat))]) (wrap64 (x4 + 1))) else (none)) else (none)) else (none)) else (none)) else (none)) else (some x3)) else (some x3)
def numnahlaw08_numbers.f (k : Nat) (l0 : List (List Int)) : Option ((List (List Int))) := numnahlaw08_numbers.l0 k l0 ([] : List (List Int)) 0
theorem numnahlaw08_numbers.mono_l : ∀ k, (∀ y0 y1 y2, LeO (numnahlaw08_numbers.l0 k y0 y1 y2) (numnahlaw08_numbers.l0 (k + 1) y0 y1 y2))
 | 0 => fun _ _ _ r h => by simp [numnahlaw08_numbers.l0] at h
 | k + 1 => by
  have ih0 := numnahlaw08_numbers.mono_l k
  ·intro y0 y1 y2
   unfold numnahlaw08_numbers.l0
   repeat' first
   | (with_reducible exact ih0 _ _ _)
   | (with_reducible exact LeO.refl _)
   | (with_reducible exact LeO.none _)
   | (with_reducible refine LeO.ite ?_ ?_)
   | (with_reducible refine LeO.bind ?_ (fun _ => ?_))
   | exact ih0 _ _ _
   | exact LeO.none _
   | refine LeO.ite ?_ ?_
   | refine LeO.bind ?_ (fun _ => ?_)
theorem numnahlaw08_numbers.mono : ∀ a0 k, LeO (numnahlaw08_numbers.f k a0) (numnahlaw08_numbers.f (k + 1) a0) := by
 intro a0 k
 have ih0 := numnahlaw08_numbers.mono_l k
 unfold numnahlaw08_numbers.f
 repeat' first
   | (with_reducible exact ih0 _ _ _)
   | (with_reducible exact LeO.refl _)
   | (with_reducible exact LeO.none _)
   | (with_reducible refine LeO.ite ?_ ?_)
   | (with_reducible refine LeO.bind ?_ (fun _ => ?_))
   | exact ih0 _ _ _
   | exact LeO.none _
   | refine LeO.ite ?_ ?_
   | refine LeO.bind ?_ (fun _ => ?_)
/-! ### numnahlaw08_short: function 21 -/
def numnahlaw08_short.f (a0 : ByteArray) : Option (ByteArray) := if 0 ≤ (mn (a0.size : Int) 400) then (if (mn (a0.size : Int) 400) ≤ (a0.size : Int) then (some (a0.extract 0 ((mn (a0.size : Int) 400) : Int).toNat)) else (none)) else (none)
/-! ### numnahref08_Variable: function 74 -/
def numnahref08_Variable.f (a0 : Int) : Option (Bool) := if a0 ≥ 120 then (some (decide (a0 ≤ 122))) else (some false)
/-! ### numnahref08_Parts: function 71 -/
mutual
def numnahref08_Parts.j0 : Nat → Int → Bool → Option (Int)
 | 0, _, _ => none
 | k + 1, x0, x3 => if x3 = true then (some 0) else (if x0 = 99 then (numnahref08_Parts.j1 k x0 true) else (numnahref08_Parts.j1 k x0 (x0 == 100)))
def numnahref08_Parts.j1 : Nat → Int → Bool → Option (Int)
 | 0, _, _ => none
 | k + 1, x0, x14 => if x14 = true then (some 1) else (if x0 = 101 then (some 2) else (if x0 = 102 then (some 2) else (some (-1))))
end
def numnahref08_Parts.f (k : Nat) (a0 : Int) : Option (Int) := if a0 = 97 then (numnahref08_Parts.j0 k a0 true) else (if a0 = 98 then (numnahref08_Parts.j0 k a0 true) else ((numnahref08_Variable.f a0).bind fun t110 => (numnahref08_Parts.j0 k a0 t110)))
theorem numnahref08_Parts.mono_l : ∀ k, (∀ y0 y1, LeO (numnahref08_Parts.j0 k y0 y1) (numnahref08_Parts.j0 (k + 1) y0 y1)) ∧ (∀ y0 y1, LeO (numnahref08_Parts.j1 k y0 y1) (numnahref08_Parts.j1 (k + 1) y0 y1))
 | 0 => ⟨fun _ _ r h => by simp [numnahref08_Parts.j0] at h, fun _ _ r h => by simp [numnahref08_Parts.j1] at h⟩
 | k + 1 => by
  obtain ⟨ih0, ih1⟩ := numnahref08_Parts.mono_l k
  refine ⟨?_, ?_⟩
  ·intro y0 y1
   unfold numnahref08_Parts.j0
   repeat' first
   | (with_reducible exact ih0 _ _)
   | (with_reducible exact ih1 _ _)
   | (with_reducible exact LeO.refl _)
   | (with_reducible exact LeO.none _)
   | (with_reducible refine LeO.ite ?_ ?_)
   | (with_reducible refine LeO.bind ?_ (fun _ => ?_))
   | exact ih0 _ _
   | exact ih1 _ _
   | exact LeO.none _
   | refine LeO.ite ?_ ?_
   | refine LeO.bind ?_ (fun _ => ?_)
  ·intro y0 y1
   unfold numnahref08_Parts.j1
   repeat' first
   | (with_reducible exact ih0 _ _)
   | (with_reducible exact ih1 _ _)
   | (with_reducible exact LeO.refl _)
   | (with_reducible exact LeO.none _)
   | (with_reducible refine LeO.ite ?_ ?_)
   | (with_reducible refine LeO.bind ?_ (fun _ => ?_))
   | exact ih0 _ _
   | exact ih1 _ _
   | exact LeO.none _
   | refine LeO.ite ?_ ?_
   | refine LeO.bind ?_ (fun _ => ?_)
theorem numnahref08_Parts.mono : ∀ a0 k, LeO (numnahref08_Parts.f k a0) (numnahref08_Parts.f (k + 1) a0) := by
 intro a0 k
 obtain ⟨ih0, ih1⟩ := numnahref08_Parts.mono_l k
 unfold numnahref08_Parts.f
 repeat' first
   | (with_reducible exact ih0 _ _)
   | (with_reducible exact ih1 _ _)
   | (with_reducible exact LeO.refl _)
   | (with_reducible exact LeO.none _)
   | (with_reducible refine LeO.ite ?_ ?_)
   | (with_reducible refine LeO.bind ?_ (fun _ => ?_))
   | exact ih0 _ _
   | exact ih1 _ _
   | exact LeO.none _
   | refine LeO.ite ?_ ?_
   | refine LeO.bind ?_ (fun _ => ?_)
end Go.Proofs.YtaafeallcaiooaaGreat.Pr
-- indented by one
