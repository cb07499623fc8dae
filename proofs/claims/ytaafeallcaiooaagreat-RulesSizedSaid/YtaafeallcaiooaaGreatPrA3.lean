-- Laid by wip/tools/inj.py of this project, which drives the kit's printer. Lean checks it.
import Derived.Test.YtaafeallcaiooaaGreatPr0
import Derived.Test.YtaafeallcaiooaaGreatPrA2
namespace Go.Proofs.YtaafeallcaiooaaGreat.Pr
open Go.RowKit Go.Proofs.YtaafeallcaiooaaGreatW.PrintWords Go.Proofs.YtaafeallcaiooaaGreatW.PrintLast Go.Proofs.YtaafeallcaiooaaGreatW.PrintMore
attribute [local go_sem] max2_int min2_int max_two min_two max_three min_three max_four min_four   -- for this text's walks alone
set_option linter.unusedVariables false
set_option linter.unusedSimpArgs false

/-! ### numnahref08_Size: function 26 -/
def numnahref08_Size.l0 : Nat → ByteArray → Int → Int → Option (Int)
 | 0, _, _, _ => none
 | k + 1, x0, x3, x4 => if x4 < (x0.size : Int) then (if 0 ≤ x4 then ((numnahref08_letter.f k (bt x0 x4)).bind fun t172 => (if t172 = true then (numnahref08_Size.l0 k x0 (wrap64 (x3 + 1)) (wrap64 (x4 + 1))) else (numnahref08_Size.l0 k x0 x3 (wrap64 (x4 + 1))))) else (none)) else (some x3)
def numnahref08_Size.f (k : Nat) (a0 : ByteArray) : Option (Int) := numnahref08_Size.l0 k a0 0 0
theorem numnahref08_Size.mono_l : ∀ k, (∀ y0 y1 y2, LeO (numnahref08_Size.l0 k y0 y1 y2) (numnahref08_Size.l0 (k + 1) y0 y1 y2))
 | 0 => fun _ _ _ r h => by simp [numnahref08_Size.l0] at h
 | k + 1 => by
  have ih0 := numnahref08_Size.mono_l k
  ·intro y0 y1 y2
   unfold numnahref08_Size.l0
   repeat' first
   | (with_reducible exact ih0 _ _ _)
   | (with_reducible exact numnahref08_letter.mono _ _)
   | (with_reducible exact LeO.refl _)
   | (with_reducible exact LeO.none _)
   | (with_reducible refine LeO.ite ?_ ?_)
   | (with_reducible refine LeO.bind ?_ (fun _ => ?_))
   | exact ih0 _ _ _
   | exact numnahref08_letter.mono _ _
   | exact LeO.none _
   | refine LeO.ite ?_ ?_
   | refine LeO.bind ?_ (fun _ => ?_)
theorem numnahref08_Size.mono : ∀ a0 k, LeO (numnahref08_Size.f k a0) (numnahref08_Size.f (k + 1) a0) := by
 intro a0 k
 have ih0 := numnahref08_Size.mono_l k
 unfold numnahref08_Size.f
 repeat' first
   | (with_reducible exact ih0 _ _ _)
   | (with_reducible exact numnahref08_letter.mono _ _)
   | (with_reducible exact LeO.refl _)
   | (with_reducible exact LeO.none _)
   | (with_reducible refine LeO.ite ?_ ?_)
   | (with_reducible refine LeO.bind ?_ (fun _ => ?_))
   | exact ih0 _ _ _
   | exact numnahref08_letter.mono _ _
   | exact LeO.none _
   | refine LeO.ite ?_ ?_
   | refine LeO.bind ?_ (fun _ => ?_)
/-! ### numnahref08_End: function 72 -/
mutual
def numnahref08_End.j0 : Nat → ByteArray → Int → Bool → Option (Int)
 | 0, _, _, _ => none
 | k + 1, x0, x1, x17 => if x17 = true then (some (-1)) else (if 0 ≤ x1 then (if x1 < (x0.size : Int) then ((numnahref08_Parts.f k (bt x0 x1)).bind fun t174 => (numnahref08_End.l0 k x0 (wrap64 (x1 + 1)) t174 0)) else (none)) else (none))
def numnahref08_End.l0 : Nat → ByteArray → Int → Int → Int → Option (Int)
 | 0, _, _, _, _ => none
 | k + 1, x0, x1, x5, x6 => if x6 < x5 then (if x1 ≥ (x0.size : Int) then (numnahref08_End.j2 k x0 x1 x5 x6 true) else (if x6 = 0 then (if 0 ≤ x1 then (if x1 < (x0.size : Int) then (if (bt x0 x1) = 40 then (if x6 > 0 then (numnahref08_End.j2 k x0 x1 x5 x6 ((bt x0 x1) != 44)) else (numnahref08_End.j2 k x0 x1 x5 x6 false)) else (numnahref08_End.j2 k x0 x1 x5 x6 true)) else (none)) else (none)) else (if x6 > 0 then (if 0 ≤ x1 then (if x1 < (x0.size : Int) then (numnahref08_End.j2 k x0 x1 x5 x6 ((bt x0 x1) != 44)) else (none)) else (none)) else (numnahref08_End.j2 k x0 x1 x5 x6 false)))) else (if x5 > 0 then (if x1 ≥ (x0.size : Int) then (some (-1)) else (if 0 ≤ x1 then (if x1 < (x0.size : Int) then (if (bt x0 x1) = 41 then (some (wrap64 (x1 + 1))) else (some (-1))) else (none)) else (none))) else (some x1))
def numnahref08_End.j2 : Nat → ByteArray → Int → Int → Int → Bool → Option (Int)
 | 0, _, _, _, _, _ => none
 | k + 1, x0, x1, x5, x6, x52 => if x52 = true then (some (-1)) else ((numnahref08_End.f k x0 (wrap64 (x1 + 1))).bind fun t175 => (if t175 < 0 then (some (-1)) else (numnahref08_End.l0 k x0 t175 x5 (wrap64 (x6 + 1)))))
def numnahref08_End.f : Nat → ByteArray → Int → Option (Int)
 | 0, _, _ => none
 | k + 1, a0, a1 => if a1 ≥ (a0.size : Int) then (numnahref08_End.j0 k a0 a1 true) else (if 0 ≤ a1 then (if a1 < (a0.size : Int) then ((numnahref08_letter.f k (bt a0 a1)).bind fun t173 => (numnahref08_End.j0 k a0 a1 (!t173))) else (none)) else (none))
end
theorem numnahref08_End.mono_l : ∀ k, (∀ y0 y1, LeO (numnahref08_End.f k y0 y1) (numnahref08_End.f (k + 1) y0 y1)) ∧ (∀ y0 y1 y2, LeO (numnahref08_End.j0 k y0 y1 y2) (numnahref08_End.j0 (k + 1) y0 y1 y2)) ∧ (∀ y0 y1 y2 y3, LeO (numnahref08_End.l0 k y0 y1 y2 y3) (numnahref08_End.l0 (k + 1) y0 y1 y2 y3)) ∧ (∀ y0 y1 y2 y3 y4, LeO (numnahref08_End.j2 k y0 y1 y2 y3 y4) (numnahref08_End.j2 (k + 1) y0 y1 y2 y3 y4))
 | 0 => ⟨fun _ _ r h => by simp [numnahref08_End.f] at h, fun _ _ _ r h => by simp [numnahref08_End.j0] at h, fun _ _ _ _ r h => by simp [numnahref08_End.l0] at h, fun _ _ _ _ _ r h => by simp [numnahref08_End.j2] at h⟩
 | k + 1 => by
  obtain ⟨ih0, ih1, ih2, ih3⟩ := numnahref08_End.mono_l k
  refine ⟨?_, ?_, ?_, ?_⟩
  ·intro y0 y1
   unfold numnahref08_End.f
   repeat' first
   | (with_reducible exact ih0 _ _)
   | (with_reducible exact ih1 _ _ _)
   | (with_reducible exact ih2 _ _ _ _)
   | (with_reducible exact ih3 _ _ _ _ _)
   | (with_reducible exact numnahref08_Parts.mono _ _)
   | (with_reducible exact numnahref08_letter.mono _ _)
   | (with_reducible exact LeO.refl _)
   | (with_reducible exact LeO.none _)
   | (with_reducible refine LeO.ite ?_ ?_)
   | (with_reducible refine LeO.bind ?_ (fun _ => ?_))
   | exact ih0 _ _
   | exact ih1 _ _ _
   | exact ih2 _ _ _ _
   | exact ih3 _ _ _ _ _
   | exact numnahref08_Parts.mono _ _
   | exact numnahref08_letter.mono _ _
   | exact LeO.none _
   | refine LeO.ite ?_ ?_
   | refine LeO.bind ?_ (fun _ => ?_)
  ·intro y0 y1 y2
   unfold numnahref08_End.j0
   repeat' first
   | (with_reducible exact ih0 _ _)
   | (with_reducible exact ih1 _ _ _)
   | (with_reducible exact ih2 _ _ _ _)
   | (with_reducible exact ih3 _ _ _ _ _)
   | (with_reducible exact numnahref08_Parts.mono _ _)
   | (with_reducible exact numnahref08_letter.mono _ _)
   | (with_reducible exact LeO.refl _)
   | (with_reducible exact LeO.none _)
   | (with_reducible refine LeO.ite ?_ ?_)
   | (with_reducible refine LeO.bind ?_ (fun _ => ?_))
   | exact ih0 _ _
   | exact ih1 _ _ _
   | exact ih2 _ _ _ _
   | exact ih3 _ _ _ _ _
   | exact numnahref08_Parts.mono _ _
   | exact numnahref08_letter.mono _ _
   | exact LeO.none _
   | refine LeO.ite ?_ ?_
   | refine LeO.bind ?_ (fun _ => ?_)
  ·intro y0 y1 y2 y3
   unfold numnahref08_End.l0
   repeat' first
   | (with_reducible exact ih0 _ _)
   | (with_reducible exact ih1 _ _ _)
   | (with_reducible exact ih2 _ _ _ _)
   | (with_reducible exact ih3 _ _ _ _ _)
   | (with_reducible exact numnahref08_Parts.mono _ _)
   | (with_reducible exact numnahref08_letter.mono _ _)
   | (with_reducible exact LeO.refl _)
   | (with_reducible exact LeO.none _)
   | (with_reducible refine LeO.ite ?_ ?_)
   | (with_reducible refine LeO.bind ?_ (fun _ => ?_))
   | exact ih0 _ _
   | exact ih1 _ _ _
   | exact ih2 _ _ _ _
   | exact ih3 _ _ _ _ _
   | exact numnahref08_Parts.mono _ _
   | exact numnahref08_letter.mono _ _
   | exact LeO.none _
   | refine LeO.ite ?_ ?_
   | refine LeO.bind ?_ (fun _ => ?_)
  ·intro y0 y1 y2 y3 y4
   unfold numnahref08_End.j2
   repeat' first
   | (with_reducible exact ih0 _ _)
   | (with_reducible exact ih1 _ _ _)
   | (with_reducible exact ih2 _ _ _ _)
   | (with_reducible exact ih3 _ _ _ _ _)
   | (with_reducible exact numnahref08_Parts.mono _ _)
   | (with_reducible exact numnahref08_letter.mono _ _)
   | (with_reducible exact LeO.refl _)
   | (with_reducible exact LeO.none _)
   | (with_reducible refine LeO.ite ?_ ?_)
   | (with_reducible refine LeO.bind ?_ (fun _ => ?_))
   | exact ih0 _ _
   | exact ih1 _ _ _
   | exact ih2 _ _ _ _
   | exact ih3 _ _ _ _ _
   | exact numnahref08_Parts.mono _ _
   | exact numnahref08_letter.mono _ _
   | exact LeO.none _
   | refine LeO.ite ?_ ?_
   | refine LeO.bind ?_ (fun _ => ?_)
theorem numnahref08_End.mono : ∀ a0 a1 k, LeO (numnahref08_End.f k a0 a1) (numnahref08_End.f (k + 1) a0 a1) := by
 intro a0 a1 k
 obtain ⟨ih0, ih1, ih2, ih3⟩ := numnahref08_End.mono_l k
 exact ih0 a0 a1
/-! ### numnahref08_Term: function 25 -/
def numnahref08_Term.f (k : Nat) (a0 : ByteArray) : Option (Bool) := (numnahref08_End.f k a0 0).bind fun t176 => (if t176 = (a0.size : Int) then ((numnahref08_Size.f k a0).bind fun t177 => (some (decide (t177 ≤ 60)))) else (some false))
theorem numnahref08_Term.mono : ∀ a0 k, LeO (numnahref08_Term.f k a0) (numnahref08_Term.f (k + 1) a0) := by
 intro a0 k
 unfold numnahref08_Term.f
 repeat' first
   | (with_reducible exact numnahref08_End.mono _ _ _)
   | (with_reducible exact numnahref08_Size.mono _ _)
   | (with_reducible exact LeO.refl _)
   | (with_reducible exact LeO.none _)
   | (with_reducible refine LeO.ite ?_ ?_)
   | (with_reducible refine LeO.bind ?_ (fun _ => ?_))
   | exact numnahref08_End.mono _ _ _
   | exact numnahref08_Size.mono _ _
   | exact LeO.none _
   | refine LeO.ite ?_ ?_
   | refine LeO.bind ?_ (fun _ => ?_)
/-! ### numnahref08_starts: function 75 -/
def numnahref08_starts.l0 : Nat → ByteArray → Int → List Int → Int → Int → Option (List Int)
 | 0, _, _, _, _, _ => none
 | k + 1, x0, x1, x5, x6, x7 => if 0 ≤ x1 then (if x1 < (x0.size : Int) then ((numnahref08_Parts.f k (bt x0 x1)).bind fun t178 => (if x7 < t178 then (if x5.length < 17592186044416 then ((numnahref08_End.f k x0 x6).bind fun t182 => (numnahref08_starts.l0 k x0 x1 (x5 ++ [x6]) (wrap64 (t182 + 1)) (wrap64 (x7 + 1)))) else (none)) else (some x5))) else (none)) else (none)
def numnahref08_starts.f (k : Nat) (a0 : ByteArray) (a1 : Int) : Option (List Int) := numnahref08_starts.l0 k a0 a1 ([] : List Int) (wrap64 (a1 + 2)) 0
theorem numnahref08_starts.mono_l : ∀ k, (∀ y0 y1 y2 y3 y4, LeO (numnahref08_starts.l0 k y0 y1 y2 y3 y4) (numnahref08_starts.l0 (k + 1) y0 y1 y2 y3 y4))
 | 0 => fun _ _ _ _ _ r h => by simp [numnahref08_starts.l0] at h
 | k + 1 => by
  have ih0 := numnahref08_starts.mono_l k
  ·intro y0 y1 y2 y3 y4
   unfold numnahref08_starts.l0
   repeat' first
   | (with_reducible exact ih0 _ _ _ _ _)
   | (with_reducible exact numnahref08_End.mono _ _ _)
   | (with_reducible exact numnahref08_Parts.mono _ _)
   | (with_reducible exact LeO.refl _)
   | (with_reducible exact LeO.none _)
   | (with_reducible refine LeO.ite ?_ ?_)
   | (with_reducible refine LeO.bind ?_ (fun _ => ?_))
   | exact ih0 _ _ _ _ _
   | exact numnahref08_End.mono _ _ _
   | exact numnahref08_Parts.mono _ _
   | exact LeO.none _
   | refine LeO.ite ?_ ?_
   | refine LeO.bind ?_ (fun _ => ?_)
theorem numnahref08_starts.mono : ∀ a0 a1 k, LeO (numnahref08_starts.f k a0 a1) (numnahref08_starts.f (k + 1) a0 a1) := by
 intro a0 a1 k
 have ih0 := numnahref08_starts.mono_l k
 unfold numnahref08_starts.f
 repeat' first
   | (with_reducible exact ih0 _ _ _ _ _)
   | (with_reducible exact numnahref08_End.mono _ _ _)
   | (with_reducible exact numnahref08_Parts.mono _ _)
   | (with_reducible exact LeO.refl _)
   | (with_reducible exact LeO.none _)
   | (with_reducible refine LeO.ite ?_ ?_)
   | (with_reducible refine LeO.bind ?_ (fun _ => ?_))
   | exact ih0 _ _ _ _ _
   | exact numnahref08_End.mono _ _ _
   | exact numnahref08_Parts.mono _ _
   | exact LeO.none _
   | refine LeO.ite ?_ ?_
   | refine LeO.bind ?_ (fun _ => ?_)
end Go.Proofs.YtaafeallcaiooaaGreat.Pr
-- indented by one
