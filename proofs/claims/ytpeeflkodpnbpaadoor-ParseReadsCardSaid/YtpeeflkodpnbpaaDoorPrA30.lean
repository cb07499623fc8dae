-- Laid by wip/tools/inj.py of this project, which drives the kit's printer. Lean checks it.
import Derived.Test.YtpeeflkodpnbpaaDoorPr0
namespace Go.Proofs.YtpeeflkodpnbpaaDoor.Pr
open Go.RowKit Go.Proofs.YtpeeflkodpnbpaaDoorW.PrintWords Go.Proofs.YtpeeflkodpnbpaaDoorW.PrintLast Go.Proofs.YtpeeflkodpnbpaaDoorW.PrintMore
attribute [local go_sem] max2_int min2_int max_two min_two max_three min_three max_four min_four   -- for this text's walks alone
set_option linter.unusedVariables false
set_option linter.unusedSimpArgs false

/-! ### numnahref09_Copying: function 27 -/
mutual
def numnahref09_Copying.l0 : Nat → ByteArray → List (S63) → Int → Option ((List (S63)))
 | 0, _, _, _ => none
 | k + 1, x0, x3, x4 => if x4 < (x0.size : Int) then (numnahref09_Copying.l1 k x0 x3 x4 0 0 (-1) 1) else (some x3)
def numnahref09_Copying.l1 : Nat → ByteArray → List (S63) → Int → Int → Int → Int → Int → Option ((List (S63)))
 | 0, _, _, _, _, _, _, _ => none
 | k + 1, x0, x3, x4, x6, x7, x276000, x276001 => if x7 < x4 then (numnahref09_Copying.l2 k x0 x3 x4 x6 x7 0 x276000 x276001) else (if x3.length < 8796093022208 then (numnahref09_Copying.l0 k x0 (x3 ++ [(⟨x276000, x276001⟩ : S63)]) (wrap64 (x4 + x276001))) else (none))
def numnahref09_Copying.l2 : Nat → ByteArray → List (S63) → Int → Int → Int → Int → Int → Int → Option ((List (S63)))
 | 0, _, _, _, _, _, _, _, _ => none
 | k + 1, x0, x3, x4, x6, x7, x8, x276000, x276001 => if (wrap64 (x4 + x8)) < (x0.size : Int) then (if 0 ≤ (wrap64 (x7 + x8)) then (if (wrap64 (x7 + x8)) < (x0.size : Int) then (if 0 ≤ (wrap64 (x4 + x8)) then (if (bt x0 (wrap64 (x7 + x8))) = (bt x0 (wrap64 (x4 + x8))) then (numnahref09_Copying.l2 k x0 x3 x4 x6 x7 (wrap64 (x8 + 1)) x276000 x276001) else (if x8 > x6 then (numnahref09_Copying.l1 k x0 x3 x4 x8 (wrap64 (x7 + 1)) x7 x8) else (numnahref09_Copying.l1 k x0 x3 x4 x6 (wrap64 (x7 + 1)) x276000 x276001))) else (none)) else (none)) else (none)) else (if x8 > x6 then (numnahref09_Copying.l1 k x0 x3 x4 x8 (wrap64 (x7 + 1)) x7 x8) else (numnahref09_Copying.l1 k x0 x3 x4 x6 (wrap64 (x7 + 1)) x276000 x276001))
end
def numnahref09_Copying.f (k : Nat) (a0 : ByteArray) : Option ((List (S63))) := numnahref09_Copying.l0 k a0 ([] : List (S63)) 0
theorem numnahref09_Copying.mono_l : ∀ k, (∀ y0 y1 y2, LeO (numnahref09_Copying.l0 k y0 y1 y2) (numnahref09_Copying.l0 (k + 1) y0 y1 y2)) ∧ (∀ y0 y1 y2 y3 y4 y5 y6, LeO (numnahref09_Copying.l1 k y0 y1 y2 y3 y4 y5 y6) (numnahref09_Copying.l1 (k + 1) y0 y1 y2 y3 y4 y5 y6)) ∧ (∀ y0 y1 y2 y3 y4 y5 y6 y7, LeO (numnahref09_Copying.l2 k y0 y1 y2 y3 y4 y5 y6 y7) (numnahref09_Copying.l2 (k + 1) y0 y1 y2 y3 y4 y5 y6 y7))
 | 0 => ⟨fun _ _ _ r h => by simp [numnahref09_Copying.l0] at h, fun _ _ _ _ _ _ _ r h => by simp [numnahref09_Copying.l1] at h, fun _ _ _ _ _ _ _ _ r h => by simp [numnahref09_Copying.l2] at h⟩
 | k + 1 => by
  obtain ⟨ih0, ih1, ih2⟩ := numnahref09_Copying.mono_l k
  refine ⟨?_, ?_, ?_⟩
  ·intro y0 y1 y2
   unfold numnahref09_Copying.l0
   repeat' first
   | (with_reducible exact ih0 _ _ _)
   | (with_reducible exact ih1 _ _ _ _ _ _ _)
   | (with_reducible exact ih2 _ _ _ _ _ _ _ _)
   | (with_reducible exact LeO.refl _)
   | (with_reducible exact LeO.none _)
   | (with_reducible refine LeO.ite ?_ ?_)
   | (with_reducible refine LeO.bind ?_ (fun _ => ?_))
   | exact ih0 _ _ _
   | exact ih1 _ _ _ _ _ _ _
   | exact ih2 _ _ _ _ _ _ _ _
   | exact LeO.none _
   | refine LeO.ite ?_ ?_
   | refine LeO.bind ?_ (fun _ => ?_)
  ·intro y0 y1 y2 y3 y4 y5 y6
   unfold numnahref09_Copying.l1
   repeat' first
   | (with_reducible exact ih0 _ _ _)
   | (with_reducible exact ih1 _ _ _ _ _ _ _)
   | (with_reducible exact ih2 _ _ _ _ _ _ _ _)
   | (with_reducible exact LeO.refl _)
   | (with_reducible exact LeO.none _)
   | (with_reducible refine LeO.ite ?_ ?_)
   | (with_reducible refine LeO.bind ?_ (fun _ => ?_))
   | exact ih0 _ _ _
   | exact ih1 _ _ _ _ _ _ _
   | exact ih2 _ _ _ _ _ _ _ _
   | exact LeO.none _
   | refine LeO.ite ?_ ?_
   | refine LeO.bind ?_ (fun _ => ?_)
  ·intro y0 y1 y2 y3 y4 y5 y6 y7
   unfold numnahref09_Copying.l2
   repeat' first
   | (with_reducible exact ih0 _ _ _)
   | (with_reducible exact ih1 _ _ _ _ _ _ _)
   | (with_reducible exact ih2 _ _ _ _ _ _ _ _)
   | (with_reducible exact LeO.refl _)
   | (with_reducible exact LeO.none _)
   | (with_reducible refine LeO.ite ?_ ?_)
   | (with_reducible refine LeO.bind ?_ (fun _ => ?_))
   | exact ih0 _ _ _
   | exact ih1 _ _ _ _ _ _ _
   | exact ih2 _ _ _ _ _ _ _ _
   | exact LeO.none _
   | refine LeO.ite ?_ ?_
   | refine LeO.bind ?_ (fun _ => ?_)
theorem numnahref09_Copying.mono : ∀ a0 k, LeO (numnahref09_Copying.f k a0) (numnahref09_Copying.f (k + 1) a0) := by
 intro a0 k
 obtain ⟨ih0, ih1, ih2⟩ := numnahref09_Copying.mono_l k
 unfold numnahref09_Copying.f
 repeat' first
   | (with_reducible exact ih0 _ _ _)
   | (with_reducible exact ih1 _ _ _ _ _ _ _)
   | (with_reducible exact ih2 _ _ _ _ _ _ _ _)
   | (with_reducible exact LeO.refl _)
   | (with_reducible exact LeO.none _)
   | (with_reducible refine LeO.ite ?_ ?_)
   | (with_reducible refine LeO.bind ?_ (fun _ => ?_))
   | exact ih0 _ _ _
   | exact ih1 _ _ _ _ _ _ _
   | exact ih2 _ _ _ _ _ _ _ _
   | exact LeO.none _
   | refine LeO.ite ?_ ?_
   | refine LeO.bind ?_ (fun _ => ?_)
end Go.Proofs.YtpeeflkodpnbpaaDoor.Pr
-- indented by one
