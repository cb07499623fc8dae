-- Laid by wip/tools/inj.py of this project, which drives the kit's printer. Lean checks it.
import Derived.Test.YtpeeflkodpnbpaaDoorPr0
import Derived.Test.YtpeeflkodpnbpaaDoorHEarl
import Derived.Test.YtpeeflkodpnbpaaDoorHCopy
import Derived.Test.YtpeeflkodpnbpaaDoorHFew
import Derived.Test.YtpeeflkodpnbpaaDoorHRead
import Derived.Test.YtpeeflkodpnbpaaDoorHSubs
import Derived.Test.YtpeeflkodpnbpaaDoorPrA1
import Derived.Test.YtpeeflkodpnbpaaDoorPrA10
import Derived.Test.YtpeeflkodpnbpaaDoorPrA14
import Derived.Test.YtpeeflkodpnbpaaDoorPrA16
import Derived.Test.YtpeeflkodpnbpaaDoorPrA23
import Derived.Test.YtpeeflkodpnbpaaDoorPrA27
import Derived.Test.YtpeeflkodpnbpaaDoorPrA8
import Derived.Test.YtpeeflkodpnbpaaDoorPrB16
import Derived.Test.YtpeeflkodpnbpaaDoorPrB19
import Derived.Test.YtpeeflkodpnbpaaDoorPrB23
namespace Go.Proofs.YtpeeflkodpnbpaaDoor.Pr
open Go.RowKit Go.Proofs.YtpeeflkodpnbpaaDoorW.PrintWords Go.Proofs.YtpeeflkodpnbpaaDoorW.PrintLast Go.Proofs.YtpeeflkodpnbpaaDoorW.PrintMore
attribute [local go_sem] max2_int min2_int max_two min_two max_three min_three max_four min_four   -- for this text's walks alone
set_option linter.unusedVariables false
set_option linter.unusedSimpArgs false

/-! ### numnahlaw09_ParseOwn: function 20 -/
mutual
def numnahlaw09_ParseOwn.j0 : Nat → ByteArray → List (S63) → List (S63) → List Int → List Int → List Int → Bool → Option (Bool)
 | 0, _, _, _, _, _, _, _ => none
 | k + 1, x3, x4, x6, x8, x10, x11, x76 => if x76 = true then (some false) else (numnahlaw09_ParseOwn.l0 k x3 x4 x6 x8 x10 x11 0)
def numnahlaw09_ParseOwn.l0 : Nat → ByteArray → List (S63) → List (S63) → List Int → List Int → List Int → Int → Option (Bool)
 | 0, _, _, _, _, _, _, _ => none
 | k + 1, x3, x4, x6, x8, x10, x11, x13 => if x13 < (x4.length : Int) then (if 0 ≤ x13 then (numnahlaw09_ParseOwn.l0 k x3 (x4.set (x13 : Int).toNat (⟨(-7), (-7)⟩ : S63)) x6 x8 x10 x11 (wrap64 (x13 + 1))) else (none)) else (numnahlaw09_ParseOwn.l1 k x3 x6 x8 x10 x11 0)
def numnahlaw09_ParseOwn.l1 : Nat → ByteArray → List (S63) → List Int → List Int → List Int → Int → Option (Bool)
 | 0, _, _, _, _, _, _ => none
 | k + 1, x3, x6, x8, x10, x11, x14 => if x14 < (x8.length : Int) then (if 0 ≤ x14 then (numnahlaw09_ParseOwn.l1 k x3 x6 (x8.set (x14 : Int).toNat (-7)) x10 x11 (wrap64 (x14 + 1))) else (none)) else (numnahlaw09_ParseOwn.l2 k x3 x6 x10 x11 0)
def numnahlaw09_ParseOwn.l2 : Nat → ByteArray → List (S63) → List Int → List Int → Int → Option (Bool)
 | 0, _, _, _, _, _ => none
 | k + 1, x3, x6, x10, x11, x15 => if x15 < (x11.length : Int) then (if 0 ≤ x15 then (numnahlaw09_ParseOwn.l2 k x3 x6 x10 (x11.set (x15 : Int).toNat (-7)) (wrap64 (x15 + 1))) else (none)) else ((parse_Copying.f x3).bind fun bt925 => ((parse_Fewest.f x3).bind fun bt929 => ((parse_Substrings.f x3).bind fun bt933 => (if bt925.2 = 0 then (if bt929.2 = 0 then (if bt933.2 = 0 then ((numnahref09_Same.f k bt925.1 x6).bind fun t937 => (if t937 = true then ((numnahlaw09_ints.f k bt929.1 x10).bind fun t938 => (if t938 = true then ((numnahref09_Substrings.f k x3).bind fun t939 => ((numnahlaw09_ints.f k bt933.1 t939).bind fun t942 => (if t942 = true then ((numnahlaw09_awake.f k).bind fun t943 => (some t943)) else (some false)))) else (some false))) else (some false))) else (some false)) else (some false)) else (some false)))))
end
def numnahlaw09_ParseOwn.f (k : Nat) (a0 : ByteArray) : Option (Bool) := (numnahlaw09_tame.f k a0 14).bind fun t893 => ((parse_Copying.f t893).bind fun bt894 => ((numnahlaw09_plan.f bt894.1).bind fun t898 => ((numnahlaw09_letters.f k t893 bt894.1).bind fun t901 => ((parse_Read.f bt894.1 t901).bind fun bt902 => ((parse_Cost.f k t893 bt894.1 1 1).bind fun bt904 => ((parse_Fewest.f t893).bind fun bt906 => ((numnahlaw09_list.f bt906.1).bind fun t910 => ((parse_Touches.f k t893 bt906.1).bind fun bt913 => ((parse_Substrings.f t893).bind fun bt916 => (if bt894.2 = 0 then (if bt906.2 = 0 then (if bt916.2 = 0 then ((numnahref09_Same.f k bt894.1 t898).bind fun t920 => (if t920 = true then ((numnahlaw09_ints.f k bt906.1 t910).bind fun t921 => (numnahlaw09_ParseOwn.j0 k t893 bt894.1 t898 bt906.1 t910 bt916.1 (!t921))) else (numnahlaw09_ParseOwn.j0 k t893 bt894.1 t898 bt906.1 t910 bt916.1 true))) else (numnahlaw09_ParseOwn.j0 k t893 bt894.1 t898 bt906.1 t910 bt916.1 true)) else (numnahlaw09_ParseOwn.j0 k t893 bt894.1 t898 bt906.1 t910 bt916.1 true)) else (numnahlaw09_ParseOwn.j0 k t893 bt894.1 t898 bt906.1 t910 bt916.1 true)))))))))))
theorem numnahlaw09_ParseOwn.mono_l : ∀ k, (∀ y0 y1 y2 y3 y4 y5 y6, LeO (numnahlaw09_ParseOwn.j0 k y0 y1 y2 y3 y4 y5 y6) (numnahlaw09_ParseOwn.j0 (k + 1) y0 y1 y2 y3 y4 y5 y6)) ∧ (∀ y0 y1 y2 y3 y4 y5 y6, LeO (numnahlaw09_ParseOwn.l0 k y0 y1 y2 y3 y4 y5 y6) (numnahlaw09_ParseOwn.l0 (k + 1) y0 y1 y2 y3 y4 y5 y6)) ∧ (∀ y0 y1 y2 y3 y4 y5, LeO (numnahlaw09_ParseOwn.l1 k y0 y1 y2 y3 y4 y5) (numnahlaw09_ParseOwn.l1 (k + 1) y0 y1 y2 y3 y4 y5)) ∧ (∀ y0 y1 y2 y3 y4, LeO (numnahlaw09_ParseOwn.l2 k y0 y1 y2 y3 y4) (numnahlaw09_ParseOwn.l2 (k + 1) y0 y1 y2 y3 y4))
 | 0 => ⟨fun _ _ _ _ _ _ _ r h => by simp [numnahlaw09_ParseOwn.j0] at h, fun _ _ _ _ _ _ _ r h => by simp [numnahlaw09_ParseOwn.l0] at h, fun _ _ _ _ _ _ r h => by simp [numnahlaw09_ParseOwn.l1] at h, fun _ _ _ _ _ r h => by simp [numnahlaw09_ParseOwn.l2] at h⟩
 | k + 1 => by
  obtain ⟨ih0, ih1, ih2, ih3⟩ := numnahlaw09_ParseOwn.mono_l k
  refine ⟨?_, ?_, ?_, ?_⟩
  ·intro y0 y1 y2 y3 y4 y5 y6
   unfold numnahlaw09_ParseOwn.j0
   repeat' first
   | (with_reducible exact ih0 _ _ _ _ _ _ _)
   | (with_reducible exact ih1 _ _ _ _ _ _ _)
   | (with_reducible exact ih2 _ _ _ _ _ _)
   | (with_reducible exact ih3 _ _ _ _ _)
   | (with_reducible exact numnahlaw09_awake.mono _)
   | (with_reducible exact numnahlaw09_ints.mono _ _ _)
   | (with_reducible exact numnahlaw09_letters.mono _ _ _)
   | (with_reducible exact numnahlaw09_tame.mono _ _ _)
   | (with_reducible exact numnahref09_Same.mono _ _ _)
   | (with_reducible exact numnahref09_Substrings.mono _ _)
   | (with_reducible exact parse_Cost.mono _ _ _ _ _)
   | (with_reducible exact parse_Touches.mono _ _ _)
   | (with_reducible exact LeO.refl _)
   | (with_reducible exact LeO.none _)
   | (with_reducible refine LeO.ite ?_ ?_)
   | (with_reducible refine LeO.bind ?_ (fun _ => ?_))
   | exact ih0 _ _ _ _ _ _ _
   | exact ih1 _ _ _ _ _ _ _
   | exact ih2 _ _ _ _ _ _
   | exact ih3 _ _ _ _ _
   | exact numnahlaw09_awake.mono _
   | exact numnahlaw09_ints.mono _ _ _
   | exact numnahlaw09_letters.mono _ _ _
   | exact numnahlaw09_tame.mono _ _ _
   | exact numnahref09_Same.mono _ _ _
   | exact numnahref09_Substrings.mono _ _
   | exact parse_Cost.mono _ _ _ _ _
   | exact parse_Touches.mono _ _ _
   | exact LeO.none _
   | refine LeO.ite ?_ ?_
   | refine LeO.bind ?_ (fun _ => ?_)
  ·intro y0 y1 y2 y3 y4 y5 y6
   unfold numnahlaw09_ParseOwn.l0
   repeat' first
   | (with_reducible exact ih0 _ _ _ _ _ _ _)
   | (with_reducible exact ih1 _ _ _ _ _ _ _)
   | (with_reducible exact ih2 _ _ _ _ _ _)
   | (with_reducible exact ih3 _ _ _ _ _)
   | (with_reducible exact numnahlaw09_awake.mono _)
   | (with_reducible exact numnahlaw09_ints.mono _ _ _)
   | (with_reducible exact numnahlaw09_letters.mono _ _ _)
   | (with_reducible exact numnahlaw09_tame.mono _ _ _)
   | (with_reducible exact numnahref09_Same.mono _ _ _)
   | (with_reducible exact numnahref09_Substrings.mono _ _)
   | (with_reducible exact parse_Cost.mono _ _ _ _ _)
   | (with_reducible exact parse_Touches.mono _ _ _)
   | (with_reducible exact LeO.refl _)
   | (with_reducible exact LeO.none _)
   | (with_reducible refine LeO.ite ?_ ?_)
   | (with_reducible refine LeO.bind ?_ (fun _ => ?_))
   | exact ih0 _ _ _ _ _ _ _
   | exact ih1 _ _ _ _ _ _ _
   | exact ih2 _ _ _ _ _ _
   | exact ih3 _ _ _ _ _
   | exact numnahlaw09_awake.mono _
   | exact numnahlaw09_ints.mono _ _ _
   | exact numnahlaw09_letters.mono _ _ _
   | exact numnahlaw09_tame.mono _ _ _
   | exact numnahref09_Same.mono _ _ _
   | exact numnahref09_Substrings.mono _ _
   | exact parse_Cost.mono _ _ _ _ _
   | exact parse_Touches.mono _ _ _
   | exact LeO.none _
   | refine LeO.ite ?_ ?_
   | refine LeO.bind ?_ (fun _ => ?_)
  ·intro y0 y1 y2 y3 y4 y5
   unfold numnahlaw09_ParseOwn.l1
   repeat' first
   | (with_reducible exact ih0 _ _ _ _ _ _ _)
   | (with_reducible exact ih1 _ _ _ _ _ _ _)
   | (with_reducible exact ih2 _ _ _ _ _ _)
   | (with_reducible exact ih3 _ _ _ _ _)
   | (with_reducible exact numnahlaw09_awake.mono _)
   | (with_reducible exact numnahlaw09_ints.mono _ _ _)
   | (with_reducible exact numnahlaw09_letters.mono _ _ _)
   | (with_reducible exact numnahlaw09_tame.mono _ _ _)
   | (with_reducible exact numnahref09_Same.mono _ _ _)
   | (with_reducible exact numnahref09_Substrings.mono _ _)
   | (with_reducible exact parse_Cost.mono _ _ _ _ _)
   | (with_reducible exact parse_Touches.mono _ _ _)
   | (with_reducible exact LeO.refl _)
   | (with_reducible exact LeO.none _)
   | (with_reducible refine LeO.ite ?_ ?_)
   | (with_reducible refine LeO.bind ?_ (fun _ => ?_))
   | exact ih0 _ _ _ _ _ _ _
   | exact ih1 _ _ _ _ _ _ _
   | exact ih2 _ _ _ _ _ _
   | exact ih3 _ _ _ _ _
   | exact numnahlaw09_awake.mono _
   | exact numnahlaw09_ints.mono _ _ _
   | exact numnahlaw09_letters.mono _ _ _
   | exact numnahlaw09_tame.mono _ _ _
   | exact numnahref09_Same.mono _ _ _
   | exact numnahref09_Substrings.mono _ _
   | exact parse_Cost.mono _ _ _ _ _
   | exact parse_Touches.mono _ _ _
   | exact LeO.none _
   | refine LeO.ite ?_ ?_
   | refine LeO.bind ?_ (fun _ => ?_)
  ·intro y0 y1 y2 y3 y4
   unfold numnahlaw09_ParseOwn.l2
   repeat' first
   | (with_reducible exact ih0 _ _ _ _ _ _ _)
   | (with_reducible exact ih1 _ _ _ _ _ _ _)
   | (with_reducible exact ih2 _ _ _ _ _ _)
   | (with_reducible exact ih3 _ _ _ _ _)
   | (with_reducible exact numnahlaw09_awake.mono _)
   | (with_reducible exact numnahlaw09_ints.mono _ _ _)
   | (with_reducible exact numnahlaw09_letters.mono _ _ _)
   | (with_reducible exact numnahlaw09_tame.mono _ _ _)
   | (with_reducible exact numnahref09_Same.mono _ _ _)
   | (with_reducible exact numnahref09_Substrings.mono _ _)
   | (with_reducible exact parse_Cost.mono _ _ _ _ _)
   | (with_reducible exact parse_Touches.mono _ _ _)
   | (with_reducible exact LeO.refl _)
   | (with_reducible exact LeO.none _)
   | (with_reducible refine LeO.ite ?_ ?_)
   | (with_reducible refine LeO.bind ?_ (fun _ => ?_))
   | exact ih0 _ _ _ _ _ _ _
   | exact ih1 _ _ _ _ _ _ _
   | exact ih2 _ _ _ _ _ _
   | exact ih3 _ _ _ _ _
   | exact numnahlaw09_awake.mono _
   | exact numnahlaw09_ints.mono _ _ _
   | exact numnahlaw09_letters.mono _ _ _
   | exact numnahlaw09_tame.mono _ _ _
   | exact numnahref09_Same.mono _ _ _
   | exact numnahref09_Substrings.mono _ _
   | exact parse_Cost.mono _ _ _ _ _
   | exact parse_Touches.mono _ _ _
   | exact LeO.none _
   | refine LeO.ite ?_ ?_
   | refine LeO.bind ?_ (fun _ => ?_)
theorem numnahlaw09_ParseOwn.mono : ∀ a0 k, LeO (numnahlaw09_ParseOwn.f k a0) (numnahlaw09_ParseOwn.f (k + 1) a0) := by
 intro a0 k
 obtain ⟨ih0, ih1, ih2, ih3⟩ := numnahlaw09_ParseOwn.mono_l k
 unfold numnahlaw09_ParseOwn.f
 repeat' first
   | (with_reducible exact ih0 _ _ _ _ _ _ _)
   | (with_reducible exact ih1 _ _ _ _ _ _ _)
   | (with_reducible exact ih2 _ _ _ _ _ _)
   | (with_reducible exact ih3 _ _ _ _ _)
   | (with_reducible exact numnahlaw09_awake.mono _)
   | (with_reducible exact numnahlaw09_ints.mono _ _ _)
   | (with_reducible exact numnahlaw09_letters.mono _ _ _)
   | (with_reducible exact numnahlaw09_tame.mono _ _ _)
   | (with_reducible exact numnahref09_Same.mono _ _ _)
   | (with_reducible exact numnahref09_Substrings.mono _ _)
   | (with_reducible exact parse_Cost.mono _ _ _ _ _)
   | (with_reducible exact parse_Touches.mono _ _ _)
   | (with_reducible exact LeO.refl _)
   | (with_reducible exact LeO.none _)
   | (with_reducible refine LeO.ite ?_ ?_)
   | (with_reducible refine LeO.bind ?_ (fun _ => ?_))
   | exact ih0 _ _ _ _ _ _ _
   | exact ih1 _ _ _ _ _ _ _
   | exact ih2 _ _ _ _ _ _
   | exact ih3 _ _ _ _ _
   | exact numnahlaw09_awake.mono _
   | exact numnahlaw09_ints.mono _ _ _
   | exact numnahlaw09_letters.mono _ _ _
   | exact numnahlaw09_tame.mono _ _ _
   | exact numnahref09_Same.mono _ _ _
   | exact numnahref09_Substrings.mono _ _
   | exact parse_Cost.mono _ _ _ _ _
   | exact parse_Touches.mono _ _ _
   | exact LeO.none _
   | refine LeO.ite ?_ ?_
   | refine LeO.bind ?_ (fun _ => ?_)
set_option maxHeartbeats 8000000 in
set_option maxRecDepth 100000 in
theorem numnahlaw09_ParseOwn.calls (k : Nat) (a0 : ByteArray) (r : Bool) (w : World) (hG : GW w) (h : numnahlaw09_ParseOwn.f k a0 = some r) :
  Calls Tryd.prog 20 #[.string a0] w fun e w' => e = .returned (.bool r) ∧ Below w.heap.size w w' := by
 have hu63 := Tryd.underlying63
 have HB := Aside0.mk (Below.refl w.heap.size w)
 have H : ((numnahlaw09_tame.f k a0 14).bind fun t893 => ((parse_Copying.f t893).bind fun bt894 => ((numnahlaw09_plan.f bt894.1).bind fun t898 => ((numnahlaw09_letters.f k t893 bt894.1).bind fun t901 => ((parse_Read.f bt894.1 t901).bind fun bt902 => ((parse_Cost.f k t893 bt894.1 1 1).bind fun bt904 => ((parse_Fewest.f t893).bind fun bt906 => ((numnahlaw09_list.f bt906.1).bind fun t910 => ((parse_Touches.f k t893 bt906.1).bind fun bt913 => ((parse_Substrings.f t893).bind fun bt916 => (if bt894.2 = 0 then (if bt906.2 = 0 then (if bt916.2 = 0 then ((numnahref09_Same.f k bt894.1 t898).bind fun t920 => (if t920 = true then ((numnahlaw09_ints.f k bt906.1 t910).bind fun t921 => (numnahlaw09_ParseOwn.j0 k t893 bt894.1 t898 bt906.1 t910 bt916.1 (!t921))) else (numnahlaw09_ParseOwn.j0 k t893 bt894.1 t898 bt906.1 t910 bt916.1 true))) else (numnahlaw09_ParseOwn.j0 k t893 bt894.1 t898 bt906.1 t910 bt916.1 true)) else (numnahlaw09_ParseOwn.j0 k t893 bt894.1 t898 bt906.1 t910 bt916.1 true)) else (numnahlaw09_ParseOwn.j0 k t893 bt894.1 t898 bt906.1 t910 bt916.1 true)))))))))))) = some r := h
 clear h
 replace H := Option.bind_eq_some_iff.mp H
 obtain ⟨t893, A20, H⟩ := H
 replace H : ((parse_Copying.f t893).bind fun bt894 => ((numnahlaw09_plan.f bt894.1).bind fun t898 => ((numnahlaw09_letters.f k t893 bt894.1).bind fun t901 => ((parse_Read.f bt894.1 t901).bind fun bt902 => ((parse_Cost.f k t893 bt894.1 1 1).bind fun bt904 => ((parse_Fewest.f t893).bind fun bt906 => ((numnahlaw09_list.f bt906.1).bind fun t910 => ((parse_Touches.f k t893 bt906.1).bind fun bt913 => ((parse_Substrings.f t893).bind fun bt916 => (if bt894.2 = 0 then (if bt906.2 = 0 then (if bt916.2 = 0 then ((numnahref09_Same.f k bt894.1 t898).bind fun t920 => (if t920 = true then ((numnahlaw09_ints.f k bt906.1 t910).bind fun t921 => (numnahlaw09_ParseOwn.j0 k t893 bt894.1 t898 bt906.1 t910 bt916.1 (!t921))) else (numnahlaw09_ParseOwn.j0 k t893 bt894.1 t898 bt906.1 t910 bt916.1 true))) else (numnahlaw09_ParseOwn.j0 k t893 bt894.1 t898 bt906.1 t910 bt916.1 true)) else (numnahlaw09_ParseOwn.j0 k t893 bt894.1 t898 bt906.1 t910 bt916.1 true)) else (numnahlaw09_ParseOwn.j0 k t893 bt894.1 t898 bt906.1 t910 bt916.1 true))))))))))) = some r := H
 have A2 := Aside0.mk A20
 clear A20
 replace H := Option.bind_eq_some_iff.mp H
 obtain ⟨⟨t894, t895⟩, A30, H⟩ := H
 replace H : ((numnahlaw09_plan.f t894).bind fun t898 => ((numnahlaw09_letters.f k t893 t894).bind fun t901 => ((parse_Read.f t894 t901).bind fun bt902 => ((parse_Cost.f k t893 t894 1 1).bind fun bt904 => ((parse_Fewest.f t893).bind fun bt906 => ((numnahlaw09_list.f bt906.1).bind fun t910 => ((parse_Touches.f k t893 bt906.1).bind fun bt913 => ((parse_Substrings.f t893).bind fun bt916 => (if t895 = 0 then (if bt906.2 = 0 then (if bt916.2 = 0 then ((numnahref09_Same.f k t894 t898).bind fun t920 => (if t920 = true then ((numnahlaw09_ints.f k bt906.1 t910).bind fun t921 => (numnahlaw09_ParseOwn.j0 k t893 t894 t898 bt906.1 t910 bt916.1 (!t921))) else (numnahlaw09_ParseOwn.j0 k t893 t894 t898 bt906.1 t910 bt916.1 true))) else (numnahlaw09_ParseOwn.j0 k t893 t894 t898 bt906.1 t910 bt916.1 true)) else (numnahlaw09_ParseOwn.j0 k t893 t894 t898 bt906.1 t910 bt916.1 true)) else (numnahlaw09_ParseOwn.j0 k t893 t894 t898 bt906.1 t910 bt916.1 true)))))))))) = some r := H
 have A3 := Aside0.mk A30
 clear A30
 replace H := Option.bind_eq_some_iff.mp H
 obtain ⟨t898, A40, H⟩ := H
 replace H : ((numnahlaw09_letters.f k t893 t894).bind fun t901 => ((parse_Read.f t894 t901).bind fun bt902 => ((parse_Cost.f k t893 t894 1 1).bind fun bt904 => ((parse_Fewest.f t893).bind fun bt906 => ((numnahlaw09_list.f bt906.1).bind fun t910 => ((parse_Touches.f k t893 bt906.1).bind fun bt913 => ((parse_Substrings.f t893).bind fun bt916 => (if t895 = 0 then (if bt906.2 = 0 then (if bt916.2 = 0 then ((numnahref09_Same.f k t894 t898).bind fun t920 => (if t920 = true then ((numnahlaw09_ints.f k bt906.1 t910).bind fun t921 => (numnahlaw09_ParseOwn.j0 k t893 t894 t898 bt906.1 t910 bt916.1 (!t921))) else (numnahlaw09_ParseOwn.j0 k t893 t894 t898 bt906.1 t910 bt916.1 true))) else (numnahlaw09_ParseOwn.j0 k t893 t894 t898 bt906.1 t910 bt916.1 true)) else (numnahlaw09_ParseOwn.j0 k t893 t894 t898 bt906.1 t910 bt916.1 true)) else (numnahlaw09_ParseOwn.j0 k t893 t894 t898 bt906.1 t910 bt916.1 true))))))))) = some r := H
 have A4 := Aside0.mk A40
 clear A40
 replace H := Option.bind_eq_some_iff.mp H
 obtain ⟨t901, A50, H⟩ := H
 replace H : ((parse_Read.f t894 t901).bind fun bt902 => ((parse_Cost.f k t893 t894 1 1).bind fun bt904 => ((parse_Fewest.f t893).bind fun bt906 => ((numnahlaw09_list.f bt906.1).bind fun t910 => ((parse_Touches.f k t893 bt906.1).bind fun bt913 => ((parse_Substrings.f t893).bind fun bt916 => (if t895 = 0 then (if bt906.2 = 0 then (if bt916.2 = 0 then ((numnahref09_Same.f k t894 t898).bind fun t920 => (if t920 = true then ((numnahlaw09_ints.f k bt906.1 t910).bind fun t921 => (numnahlaw09_ParseOwn.j0 k t893 t894 t898 bt906.1 t910 bt916.1 (!t921))) else (numnahlaw09_ParseOwn.j0 k t893 t894 t898 bt906.1 t910 bt916.1 true))) else (numnahlaw09_ParseOwn.j0 k t893 t894 t898 bt906.1 t910 bt916.1 true)) else (numnahlaw09_ParseOwn.j0 k t893 t894 t898 bt906.1 t910 bt916.1 true)) else (numnahlaw09_ParseOwn.j0 k t893 t894 t898 bt906.1 t910 bt916.1 true)))))))) = some r := H
 have A5 := Aside0.mk A50
 clear A50
 replace H := Option.bind_eq_some_iff.mp H
 obtain ⟨⟨t902, t903⟩, A60, H⟩ := H
 replace H : ((parse_Cost.f k t893 t894 1 1).bind fun bt904 => ((parse_Fewest.f t893).bind fun bt906 => ((numnahlaw09_list.f bt906.1).bind fun t910 => ((parse_Touches.f k t893 bt906.1).bind fun bt913 => ((parse_Substrings.f t893).bind fun bt916 => (if t895 = 0 then (if bt906.2 = 0 then (if bt916.2 = 0 then ((numnahref09_Same.f k t894 t898).bind fun t920 => (if t920 = true then ((numnahlaw09_ints.f k bt906.1 t910).bind fun t921 => (numnahlaw09_ParseOwn.j0 k t893 t894 t898 bt906.1 t910 bt916.1 (!t921))) else (numnahlaw09_ParseOwn.j0 k t893 t894 t898 bt906.1 t910 bt916.1 true))) else (numnahlaw09_ParseOwn.j0 k t893 t894 t898 bt906.1 t910 bt916.1 true)) else (numnahlaw09_ParseOwn.j0 k t893 t894 t898 bt906.1 t910 bt916.1 true)) else (numnahlaw09_ParseOwn.j0 k t893 t894 t898 bt906.1 t910 bt916.1 true))))))) = some r := H
 have A6 := Aside0.mk A60
 clear A60
 replace H := Option.bind_eq_some_iff.mp H
 obtain ⟨⟨t904, t905⟩, A70, H⟩ := H
 replace H : ((parse_Fewest.f t893).bind fun bt906 => ((numnahlaw09_list.f bt906.1).bind fun t910 => ((parse_Touches.f k t893 bt906.1).bind fun bt913 => ((parse_Substrings.f t893).bind fun bt916 => (if t895 = 0 then (if bt906.2 = 0 then (if bt916.2 = 0 then ((numnahref09_Same.f k t894 t898).bind fun t920 => (if t920 = true then ((numnahlaw09_ints.f k bt906.1 t910).bind fun t921 => (numnahlaw09_ParseOwn.j0 k t893 t894 t898 bt906.1 t910 bt916.1 (!t921))) else (numnahlaw09_ParseOwn.j0 k t893 t894 t898 bt906.1 t910 bt916.1 true))) else (numnahlaw09_ParseOwn.j0 k t893 t894 t898 bt906.1 t910 bt916.1 true)) else (numnahlaw09_ParseOwn.j0 k t893 t894 t898 bt906.1 t910 bt916.1 true)) else (numnahlaw09_ParseOwn.j0 k t893 t894 t898 bt906.1 t910 bt916.1 true)))))) = some r := H
 have A7 := Aside0.mk A70
 clear A70
 replace H := Option.bind_eq_some_iff.mp H
 obtain ⟨⟨t906, t907⟩, A80, H⟩ := H
 replace H : ((numnahlaw09_list.f t906).bind fun t910 => ((parse_Touches.f k t893 t906).bind fun bt913 => ((parse_Substrings.f t893).bind fun bt916 => (if t895 = 0 then (if t907 = 0 then (if bt916.2 = 0 then ((numnahref09_Same.f k t894 t898).bind fun t920 => (if t920 = true then ((numnahlaw09_ints.f k t906 t910).bind fun t921 => (numnahlaw09_ParseOwn.j0 k t893 t894 t898 t906 t910 bt916.1 (!t921))) else (numnahlaw09_ParseOwn.j0 k t893 t894 t898 t906 t910 bt916.1 true))) else (numnahlaw09_ParseOwn.j0 k t893 t894 t898 t906 t910 bt916.1 true)) else (numnahlaw09_ParseOwn.j0 k t893 t894 t898 t906 t910 bt916.1 true)) else (numnahlaw09_ParseOwn.j0 k t893 t894 t898 t906 t910 bt916.1 true))))) = some r := H
 have A8 := Aside0.mk A80
 clear A80
 replace H := Option.bind_eq_some_iff.mp H
 obtain ⟨t910, A90, H⟩ := H
 replace H : ((parse_Touches.f k t893 t906).bind fun bt913 => ((parse_Substrings.f t893).bind fun bt916 => (if t895 = 0 then (if t907 = 0 then (if bt916.2 = 0 then ((numnahref09_Same.f k t894 t898).bind fun t920 => (if t920 = true then ((numnahlaw09_ints.f k t906 t910).bind fun t921 => (numnahlaw09_ParseOwn.j0 k t893 t894 t898 t906 t910 bt916.1 (!t921))) else (numnahlaw09_ParseOwn.j0 k t893 t894 t898 t906 t910 bt916.1 true))) else (numnahlaw09_ParseOwn.j0 k t893 t894 t898 t906 t910 bt916.1 true)) else (numnahlaw09_ParseOwn.j0 k t893 t894 t898 t906 t910 bt916.1 true)) else (numnahlaw09_ParseOwn.j0 k t893 t894 t898 t906 t910 bt916.1 true)))) = some r := H
 have A9 := Aside0.mk A90
 clear A90
 replace H := Option.bind_eq_some_iff.mp H
 obtain ⟨⟨t913, t914, t915⟩, A100, H⟩ := H
 replace H : ((parse_Substrings.f t893).bind fun bt916 => (if t895 = 0 then (if t907 = 0 then (if bt916.2 = 0 then ((numnahref09_Same.f k t894 t898).bind fun t920 => (if t920 = true then ((numnahlaw09_ints.f k t906 t910).bind fun t921 => (numnahlaw09_ParseOwn.j0 k t893 t894 t898 t906 t910 bt916.1 (!t921))) else (numnahlaw09_ParseOwn.j0 k t893 t894 t898 t906 t910 bt916.1 true))) else (numnahlaw09_ParseOwn.j0 k t893 t894 t898 t906 t910 bt916.1 true)) else (numnahlaw09_ParseOwn.j0 k t893 t894 t898 t906 t910 bt916.1 true)) else (numnahlaw09_ParseOwn.j0 k t893 t894 t898 t906 t910 bt916.1 true))) = some r := H
 have A10 := Aside0.mk A100
 clear A100
 replace H := Option.bind_eq_some_iff.mp H
 obtain ⟨⟨t916, t917⟩, A110, H⟩ := H
 replace H : (if t895 = 0 then (if t907 = 0 then (if t917 = 0 then ((numnahref09_Same.f k t894 t898).bind fun t920 => (if t920 = true then ((numnahlaw09_ints.f k t906 t910).bind fun t921 => (numnahlaw09_ParseOwn.j0 k t893 t894 t898 t906 t910 t916 (!t921))) else (numnahlaw09_ParseOwn.j0 k t893 t894 t898 t906 t910 t916 true))) else (numnahlaw09_ParseOwn.j0 k t893 t894 t898 t906 t910 t916 true)) else (numnahlaw09_ParseOwn.j0 k t893 t894 t898 t906 t910 t916 true)) else (numnahlaw09_ParseOwn.j0 k t893 t894 t898 t906 t910 t916 true)) = some r := H
 have A11 := Aside0.mk A110
 clear A110
 have HC12 := Aside0.mk H
 clear H
 go_enter Tryd.func20, Tryd.ntmps20
 go_upto_region 11 with (first | ((with_reducible refine gate_callee (f := 29) rfl ?_); refine goesL_ (some 23) rfl rfl Tryd.func29 (by kernel_rfl) rfl #[.string a0, .int .i64 14] rfl (by (try simp only [List.map_toArray, List.map_cons, List.map_nil]); first | done | rfl | (simp only [List.length_drop, List.length_take]; rfl)) ?_; (with_reducible refine (numnahlaw09_tame.calls k a0 14 t893 _ A2.out).mono ?_); rintro e w13 ⟨rfl, hb⟩; refine ⟨_, rfl, ?_⟩; have n0_ := Aside0.mk (below_step (by repeat (first | (with_reducible first | exact HB.out | apply below_alloc | apply pw_below_drewN | apply below_drew1) | exact HB.out)) hb); clear HB; have HB := n0_; clear n0_; (try clear hb); (try clear hb2); (try clear hk); (try clear hi)) | ((with_reducible refine gate_callee (f := 22) rfl ?_); refine goesL_ (some 26) rfl rfl Tryd.func22 (by kernel_rfl) rfl #[.string t893] rfl (by (try simp only [List.map_toArray, List.map_cons, List.map_nil]); first | done | rfl | (simp only [List.length_drop, List.length_take]; rfl)) ?_; (with_reducible refine (parse_Copying.calls (hG := ?hg) t893 t894 t895 _ A3.out).mono ?_); (case hg => exact gw_now hG (by repeat (first | (with_reducible first | exact HB.out | apply below_alloc | apply pw_below_drewN | apply below_drew1) | exact HB.out))); rintro e w14 ⟨v896, rfl, ho0, hb⟩; refine ⟨_, rfl, ?_⟩; have n0_ := Aside0.mk (Kd.R_lower ho0 (below_size (by repeat (first | (with_reducible first | exact HB.out | apply below_alloc | apply pw_below_drewN | apply below_drew1) | exact HB.out)))); have n1_ := Aside0.mk (below_step (by repeat (first | (with_reducible first | exact HB.out | apply below_alloc | apply pw_below_drewN | apply below_drew1) | exact HB.out)) hb); clear HB; have HO897 := n0_; have HB := n1_; clear n0_ n1_; (try clear hb); (try clear hb2); (try clear hk); (try clear hi); (try clear ho0); obtain ⟨Ao15, co15, eo15⟩ := Kd.R_slice HO897.out; subst eo15) | ((with_reducible refine gate_callee (f := 55) rfl ?_); refine goesL_ (some 30) rfl rfl Tryd.func55 (by kernel_rfl) rfl #[.slice Ao15 t894.length co15] rfl (by (try simp only [List.map_toArray, List.map_cons, List.map_nil]); first | done | rfl | (simp only [List.length_drop, List.length_take]; rfl)) ?_; (with_reducible refine (numnahlaw09_plan.calls _ _ t894 t898 _ ?side1 ?side2 A4.out).mono ?_); (case side1 => repeat (first | exact (Kd.R_reads' HO897.out).2.2 | (with_reducible refine Kd.C_alloc ?_ _) | (with_reducible refine Kd.C_drewN ?_ _) | (with_reducible refine Kd.C_drew ?_))); (case side2 => exact (Kd.R_reads' HO897.out).2.1); rintro e w16 ⟨v899, rfl, ho0, hb⟩; refine ⟨_, rfl, ?_⟩; have n0_ := Aside0.mk (Kd.R_elder' (by (with_reducible repeat (first | apply Kd.R_alloc | apply Kd.R_drewN | apply Kd.R_drew)); exact HO897.out) (Kd.R_base ho0) hb); have n1_ := Aside0.mk (Kd.R_lower (Kd.R_new' ho0 (Kd.R_lt (by (with_reducible repeat (first | apply Kd.R_alloc | apply Kd.R_drewN | apply Kd.R_drew)); exact HO897.out))) (below_size (by repeat (first | (with_reducible first | exact HB.out | apply below_alloc | apply pw_below_drewN | apply below_drew1) | exact HB.out)))); have n2_ := Aside0.mk (below_step (by repeat (first | (with_reducible first | exact HB.out | apply below_alloc | apply pw_below_drewN | apply below_drew1) | exact HB.out)) hb); clear HO897; clear HB; have HO897 := n0_; have HO900 := n1_; have HB := n2_; clear n0_ n1_ n2_; (try clear hb); (try clear hb2); (try clear hk); (try clear hi); (try clear ho0)) | ((with_reducible refine gate_callee (f := 54) rfl ?_); refine goesL_ (some 33) rfl rfl Tryd.func54 (by kernel_rfl) rfl #[.string t893, .slice Ao15 t894.length co15] rfl (by (try simp only [List.map_toArray, List.map_cons, List.map_nil]); first | done | rfl | (simp only [List.length_drop, List.length_take]; rfl)) ?_; (with_reducible refine (numnahlaw09_letters.calls k t893 _ _ t894 t901 _ ?side1 ?side2 A5.out).mono ?_); (case side1 => repeat (first | exact (Kd.R_reads' HO897.out).2.2 | (with_reducible refine Kd.C_alloc ?_ _) | (with_reducible refine Kd.C_drewN ?_ _) | (with_reducible refine Kd.C_drew ?_))); (case side2 => exact (Kd.R_reads' HO897.out).2.1); rintro e w17 ⟨rfl, hb⟩; refine ⟨_, rfl, ?_⟩; have n0_ := Aside0.mk (Kd.R_below (by (with_reducible repeat (first | apply Kd.R_alloc | apply Kd.R_drewN | apply Kd.R_drew)); exact HO897.out) hb); have n1_ := Aside0.mk (Kd.R_below (by (with_reducible repeat (first | apply Kd.R_alloc | apply Kd.R_drewN | apply Kd.R_drew)); exact HO900.out) hb); have n2_ := Aside0.mk (below_step (by repeat (first | (with_reducible first | exact HB.out | apply below_alloc | apply pw_below_drewN | apply below_drew1) | exact HB.out)) hb); clear HO897; clear HO900; clear HB; have HO897 := n0_; have HO900 := n1_; have HB := n2_; clear n0_ n1_ n2_; (try clear hb); (try clear hb2); (try clear hk); (try clear hi)) | ((with_reducible refine gate_callee (f := 53) rfl ?_); refine goesL_ (some 36) rfl rfl Tryd.func53 (by kernel_rfl) rfl #[.slice Ao15 t894.length co15, .string t901] rfl (by (try simp only [List.map_toArray, List.map_cons, List.map_nil]); first | done | rfl | (simp only [List.length_drop, List.length_take]; rfl)) ?_; (with_reducible refine (parse_Read.calls (hG := ?hg) _ _ t894 t901 t902 t903 _ ?side1 ?side2 A6.out).mono ?_); (case hg => exact gw_now hG (by repeat (first | (with_reducible first | exact HB.out | apply below_alloc | apply pw_below_drewN | apply below_drew1) | exact HB.out))); (case side1 => repeat (first | exact (Kd.R_reads' HO897.out).2.2 | (with_reducible refine Kd.C_alloc ?_ _) | (with_reducible refine Kd.C_drewN ?_ _) | (with_reducible refine Kd.C_drew ?_))); (case side2 => exact (Kd.R_reads' HO897.out).2.1); rintro e w18 ⟨rfl, hb⟩; refine ⟨_, rfl, ?_⟩; have n0_ := Aside0.mk (Kd.R_below (by (with_reducible repeat (first | apply Kd.R_alloc | apply Kd.R_drewN | apply Kd.R_drew)); exact HO897.out) hb); have n1_ := Aside0.mk (Kd.R_below (by (with_reducible repeat (first | apply Kd.R_alloc | apply Kd.R_drewN | apply Kd.R_drew)); exact HO900.out) hb); have n2_ := Aside0.mk (below_step (by repeat (first | (with_reducible first | exact HB.out | apply below_alloc | apply pw_below_drewN | apply below_drew1) | exact HB.out)) hb); clear HO897; clear HO900; clear HB; have HO897 := n0_; have HO900 := n1_; have HB := n2_; clear n0_ n1_ n2_; (try clear hb); (try clear hb2); (try clear hk); (try clear hi)) | ((with_reducible refine gate_callee (f := 56) rfl ?_); refine goesL_ (some 39) rfl rfl Tryd.func56 (by kernel_rfl) rfl #[.string t893, .slice Ao15 t894.length co15, .int .i64 1, .int .i64 1] rfl (by (try simp only [List.map_toArray, List.map_cons, List.map_nil]); first | done | rfl | (simp only [List.length_drop, List.length_take]; rfl)) ?_; (with_reducible refine (parse_Cost.calls (hG := ?hg) k t893 _ _ t894 1 1 t904 t905 _ ?side1 ?side2 A7.out).mono ?_); (case hg => exact gw_now hG (by repeat (first | (with_reducible first | exact HB.out | apply below_alloc | apply pw_below_drewN | apply below_drew1) | exact HB.out))); (case side1 => repeat (first | exact (Kd.R_reads' HO897.out).2.2 | (with_reducible refine Kd.C_alloc ?_ _) | (with_reducible refine Kd.C_drewN ?_ _) | (with_reducible refine Kd.C_drew ?_))); (case side2 => exact (Kd.R_reads' HO897.out).2.1); rintro e w19 ⟨rfl, hb⟩; refine ⟨_, rfl, ?_⟩; have n0_ := Aside0.mk (Kd.R_below (by (with_reducible repeat (first | apply Kd.R_alloc | apply Kd.R_drewN | apply Kd.R_drew)); exact HO897.out) hb); have n1_ := Aside0.mk (Kd.R_below (by (with_reducible repeat (first | apply Kd.R_alloc | apply Kd.R_drewN | apply Kd.R_drew)); exact HO900.out) hb); have n2_ := Aside0.mk (below_step (by repeat (first | (with_reducible first | exact HB.out | apply below_alloc | apply pw_below_drewN | apply below_drew1) | exact HB.out)) hb); clear HO897; clear HO900; clear HB; have HO897 := n0_; have HO900 := n1_; have HB := n2_; clear n0_ n1_ n2_; (try clear hb); (try clear hb2); (try clear hk); (try clear hi)) | ((with_reducible refine gate_callee (f := 40) rfl ?_); refine goesL_ (some 42) rfl rfl Tryd.func40 (by kernel_rfl) rfl #[.string t893] rfl (by (try simp only [List.map_toArray, List.map_cons, List.map_nil]); first | done | rfl | (simp only [List.length_drop, List.length_take]; rfl)) ?_; (with_reducible refine (parse_Fewest.calls t893 t906 t907 _ A8.out).mono ?_); rintro e w20 ⟨v908, rfl, ho0, hb⟩; refine ⟨_, rfl, ?_⟩; have n0_ := Aside0.mk (Kd.R_below (by (with_reducible repeat (first | apply Kd.R_alloc | apply Kd.R_drewN | apply Kd.R_drew)); exact HO897.out) hb); have n1_ := Aside0.mk (Kd.R_below (by (with_reducible repeat (first | apply Kd.R_alloc | apply Kd.R_drewN | apply Kd.R_drew)); exact HO900.out) hb); have n2_ := Aside0.mk (Kd.R_lower ho0 (below_size (by repeat (first | (with_reducible first | exact HB.out | apply below_alloc | apply pw_below_drewN | apply below_drew1) | exact HB.out)))); have n3_ := Aside0.mk (below_step (by repeat (first | (with_reducible first | exact HB.out | apply below_alloc | apply pw_below_drewN | apply below_drew1) | exact HB.out)) hb); clear HO897; clear HO900; clear HB; have HO897 := n0_; have HO900 := n1_; have HO909 := n2_; have HB := n3_; clear n0_ n1_ n2_ n3_; (try clear hb); (try clear hb2); (try clear hk); (try clear hi); (try clear ho0); obtain ⟨Ao21, co21, eo21⟩ := Kd.R_slice HO909.out; subst eo21) | ((with_reducible refine gate_callee (f := 36) rfl ?_); refine goesL_ (some 46) rfl rfl Tryd.func36 (by kernel_rfl) rfl #[.slice Ao21 t906.length co21] rfl (by (try simp only [List.map_toArray, List.map_cons, List.map_nil]); first | done | rfl | (simp only [List.length_drop, List.length_take]; rfl)) ?_; (with_reducible refine (numnahlaw09_list.calls _ _ t906 t910 _ ?side1 ?side2 A9.out).mono ?_); (case side1 => repeat (first | exact (Kd.R_reads' HO909.out).2.2 | (with_reducible refine Kd.C_alloc ?_ _) | (with_reducible refine Kd.C_drewN ?_ _) | (with_reducible refine Kd.C_drew ?_))); (case side2 => exact (Kd.R_reads' HO909.out).2.1); rintro e w22 ⟨v911, rfl, ho0, hb⟩; refine ⟨_, rfl, ?_⟩; have n0_ := Aside0.mk (Kd.R_below (by (with_reducible repeat (first | apply Kd.R_alloc | apply Kd.R_drewN | apply Kd.R_drew)); exact HO897.out) hb); have n1_ := Aside0.mk (Kd.R_below (by (with_reducible repeat (first | apply Kd.R_alloc | apply Kd.R_drewN | apply Kd.R_drew)); exact HO900.out) hb); have n2_ := Aside0.mk (Kd.R_elder' (by (with_reducible repeat (first | apply Kd.R_alloc | apply Kd.R_drewN | apply Kd.R_drew)); exact HO909.out) (Kd.R_base ho0) hb); have n3_ := Aside0.mk (Kd.R_lower (Kd.R_new' ho0 (Kd.R_lt (by (with_reducible repeat (first | apply Kd.R_alloc | apply Kd.R_drewN | apply Kd.R_drew)); exact HO909.out))) (below_size (by repeat (first | (with_reducible first | exact HB.out | apply below_alloc | apply pw_below_drewN | apply below_drew1) | exact HB.out)))); have n4_ := Aside0.mk (below_step (by repeat (first | (with_reducible first | exact HB.out | apply below_alloc | apply pw_below_drewN | apply below_drew1) | exact HB.out)) hb); clear HO897; clear HO900; clear HO909; clear HB; have HO897 := n0_; have HO900 := n1_; have HO909 := n2_; have HO912 := n3_; have HB := n4_; clear n0_ n1_ n2_ n3_ n4_; (try clear hb); (try clear hb2); (try clear hk); (try clear hi); (try clear ho0)) | ((with_reducible refine gate_callee (f := 37) rfl ?_); refine goesL_ (some 49) rfl rfl Tryd.func37 (by kernel_rfl) rfl #[.string t893, .slice Ao21 t906.length co21] rfl (by (try simp only [List.map_toArray, List.map_cons, List.map_nil]); first | done | rfl | (simp only [List.length_drop, List.length_take]; rfl)) ?_; (with_reducible refine (parse_Touches.calls k t893 _ _ t906 t913 t914 t915 _ ?side1 ?side2 A10.out).mono ?_); (case side1 => repeat (first | exact (Kd.R_reads' HO909.out).2.2 | (with_reducible refine Kd.C_alloc ?_ _) | (with_reducible refine Kd.C_drewN ?_ _) | (with_reducible refine Kd.C_drew ?_))); (case side2 => exact (Kd.R_reads' HO909.out).2.1); rintro e w23 ⟨rfl, hb⟩; refine ⟨_, rfl, ?_⟩; have n0_ := Aside0.mk (Kd.R_below (by (with_reducible repeat (first | apply Kd.R_alloc | apply Kd.R_drewN | apply Kd.R_drew)); exact HO897.out) hb); have n1_ := Aside0.mk (Kd.R_below (by (with_reducible repeat (first | apply Kd.R_alloc | apply Kd.R_drewN | apply Kd.R_drew)); exact HO900.out) hb); have n2_ := Aside0.mk (Kd.R_below (by (with_reducible repeat (first | apply Kd.R_alloc | apply Kd.R_drewN | apply Kd.R_drew)); exact HO909.out) hb); have n3_ := Aside0.mk (Kd.R_below (by (with_reducible repeat (first | apply Kd.R_alloc | apply Kd.R_drewN | apply Kd.R_drew)); exact HO912.out) hb); have n4_ := Aside0.mk (below_step (by repeat (first | (with_reducible first | exact HB.out | apply below_alloc | apply pw_below_drewN | apply below_drew1) | exact HB.out)) hb); clear HO897; clear HO900; clear HO909; clear HO912; clear HB; have HO897 := n0_; have HO900 := n1_; have HO909 := n2_; have HO912 := n3_; have HB := n4_; clear n0_ n1_ n2_ n3_ n4_; (try clear hb); (try clear hb2); (try clear hk); (try clear hi)) | ((with_reducible refine gate_callee (f := 32) rfl ?_); refine goesL_ (some 52) rfl rfl Tryd.func32 (by kernel_rfl) rfl #[.string t893] rfl (by (try simp only [List.map_toArray, List.map_cons, List.map_nil]); first | done | rfl | (simp only [List.length_drop, List.length_take]; rfl)) ?_; (with_reducible refine (parse_Substrings.calls t893 t916 t917 _ A11.out).mono ?_); rintro e w24 ⟨v918, rfl, ho0, hb⟩; refine ⟨_, rfl, ?_⟩; have n0_ := Aside0.mk (Kd.R_below (by (with_reducible repeat (first | apply Kd.R_alloc | apply Kd.R_drewN | apply Kd.R_drew)); exact HO897.out) hb); have n1_ := Aside0.mk (Kd.R_below (by (with_reducible repeat (first | apply Kd.R_alloc | apply Kd.R_drewN | apply Kd.R_drew)); exact HO900.out) hb); have n2_ := Aside0.mk (Kd.R_elder' (by (with_reducible repeat (first | apply Kd.R_alloc | apply Kd.R_drewN | apply Kd.R_drew)); exact HO909.out) (Kd.R_base ho0) hb); have n3_ := Aside0.mk (Kd.R_elder' (by (with_reducible repeat (first | apply Kd.R_alloc | apply Kd.R_drewN | apply Kd.R_drew)); exact HO912.out) (Kd.R_base ho0) hb); have n4_ := Aside0.mk (Kd.R_lower (Kd.R_new' (Kd.R_new' ho0 (Kd.R_lt (by (with_reducible repeat (first | apply Kd.R_alloc | apply Kd.R_drewN | apply Kd.R_drew)); exact HO909.out))) (Kd.R_lt (by (with_reducible repeat (first | apply Kd.R_alloc | apply Kd.R_drewN | apply Kd.R_drew)); exact HO912.out))) (below_size (by repeat (first | (with_reducible first | exact HB.out | apply below_alloc | apply pw_below_drewN | apply below_drew1) | exact HB.out)))); have n5_ := Aside0.mk (below_step (by repeat (first | (with_reducible first | exact HB.out | apply below_alloc | apply pw_below_drewN | apply below_drew1) | exact HB.out)) hb); clear HO897; clear HO900; clear HO909; clear HO912; clear HB; have HO897 := n0_; have HO900 := n1_; have HO909 := n2_; have HO912 := n3_; have HO919 := n4_; have HB := n5_; clear n0_ n1_ n2_ n3_ n4_ n5_; (try clear hb); (try clear hb2); (try clear hk); (try clear hi); (try clear ho0)))
 (try simp only [Act.put, List.setIfInBounds_toArray, List.set_cons_zero, List.set_cons_succ])
 go_cut [76] (fun v76 wc => ∃ (kq : Nat) (x76_11 : Bool), v76 = .bool x76_11 ∧ Aside0 (numnahlaw09_ParseOwn.j0 kq t893 t894 t898 t906 t910 t916 x76_11 = some r) ∧ Aside0 (kq ≤ k) ∧ Aside0 (Kd.R k63 63 wc w.heap.size (fun k_ => some k_ ≠ (v899 : Value).ownBlock) (.slice Ao15 t894.length co15) t894) ∧ Aside0 (Kd.R k63 63 wc w.heap.size (fun k_ => some k_ ≠ ((.slice Ao15 t894.length co15) : Value).ownBlock) v899 t898) ∧ Aside0 (Kd.R (Kd.int .i64) 3 wc w.heap.size (fun k_ => some k_ ≠ (v911 : Value).ownBlock ∧ some k_ ≠ (v918 : Value).ownBlock) (.slice Ao21 t906.length co21) t906) ∧ Aside0 (Kd.R (Kd.int .i64) 3 wc w.heap.size (fun k_ => some k_ ≠ ((.slice Ao21 t906.length co21) : Value).ownBlock ∧ some k_ ≠ (v918 : Value).ownBlock) v911 t910) ∧ Aside0 (Kd.R (Kd.int .i64) 3 wc w.heap.size (fun k_ => some k_ ≠ ((.slice Ao21 t906.length co21) : Value).ownBlock ∧ some k_ ≠ (v911 : Value).ownBlock) v918 t916) ∧ Aside0 (Below w.heap.size w wc))
 case first =>
  have H := HC12.out
  clear HC12
  by_cases c25 : t895 = 0
  ·rw [if_pos c25] at H
   have c25b0 : (t895 == 0) = true := beq_iff_eq.mpr c25
   have c25b1 : (t895 != 0) = false := bne_eq_false_iff_eq.mpr c25
   clear c25
   (first | rw [c25b0] | (simp only [i64_w, i32_w]; rw [c25b0]) | skip)
   by_cases c26 : t907 = 0
   ·rw [if_pos c26] at H
    have c26b0 : (t907 == 0) = true := beq_iff_eq.mpr c26
    have c26b1 : (t907 != 0) = false := bne_eq_false_iff_eq.mpr c26
    clear c26
    by_cases c27 : t917 = 0
    ·rw [if_pos c27] at H
     have c27b0 : (t917 == 0) = true := beq_iff_eq.mpr c27
     have c27b1 : (t917 != 0) = false := bne_eq_false_iff_eq.mpr c27
     clear c27
     replace H := Option.bind_eq_some_iff.mp H
     obtain ⟨t920, A280, H⟩ := H
     replace H : (if t920 = true then ((numnahlaw09_ints.f k t906 t910).bind fun t921 => (numnahlaw09_ParseOwn.j0 k t893 t894 t898 t906 t910 t916 (!t921))) else (numnahlaw09_ParseOwn.j0 k t893 t894 t898 t906 t910 t916 true)) = some r := H
     have A28 := Aside0.mk A280
     clear A280
     by_cases c29 : t920 = true
     ·subst c29
      have H1 : ((numnahlaw09_ints.f k t906 t910).bind fun t921 => (numnahlaw09_ParseOwn.j0 k t893 t894 t898 t906 t910 t916 (!t921))) = some r := by rw [if_pos rfl] at H; exact H
      clear H
      have H := H1
      clear H1
      replace H := Option.bind_eq_some_iff.mp H
      obtain ⟨t921, A300, H⟩ := H
      replace H : (numnahlaw09_ParseOwn.j0 k t893 t894 t898 t906 t910 t916 (!t921)) = some r := H
      have A30 := Aside0.mk A300
      clear A300
      have H' := Aside0.mk H
      clear H
      obtain ⟨Ao31, co31, eo31⟩ := Kd.R_slice HO900.out
      subst eo31
      go_wp2_with (first | (go_at_call 26; (with_reducible refine (numnahref09_Same.calls k _ _ t894 _ _ t898 true _ ?side1 ?side2 ?side3 ?side4 A28.out).mono ?_); (case side1 => repeat (first | exact (Kd.R_reads' HO897.out).2.2 | (with_reducible refine Kd.C_alloc ?_ _) | (with_reducible refine Kd.C_drewN ?_ _) | (with_reducible refine Kd.C_drew ?_))); (case side2 => exact (Kd.R_reads' HO897.out).2.1); (case side3 => repeat (first | exact (Kd.R_reads' HO900.out).2.2 | (with_reducible refine Kd.C_alloc ?_ _) | (with_reducible refine Kd.C_drewN ?_ _) | (with_reducible refine Kd.C_drew ?_))); (case side4 => exact (Kd.R_reads' HO900.out).2.1); rintro e w' ⟨rfl, ⟨nd, rfl⟩⟩; obtain ⟨Ao32, co32, eo32⟩ := Kd.R_slice HO912.out; subst eo32) | (go_at_call 41; (with_reducible refine (numnahlaw09_ints.calls k _ _ t906 _ _ t910 t921 _ ?side1 ?side2 ?side3 ?side4 A30.out).mono ?_); (case side1 => repeat (first | exact (Kd.R_reads' HO909.out).2.2 | (with_reducible refine Kd.C_alloc ?_ _) | (with_reducible refine Kd.C_drewN ?_ _) | (with_reducible refine Kd.C_drew ?_))); (case side2 => exact (Kd.R_reads' HO909.out).2.1); (case side3 => repeat (first | exact (Kd.R_reads' HO912.out).2.2 | (with_reducible refine Kd.C_alloc ?_ _) | (with_reducible refine Kd.C_drewN ?_ _) | (with_reducible refine Kd.C_drew ?_))); (case side4 => exact (Kd.R_reads' HO912.out).2.1); rintro e w' ⟨rfl, ⟨nd, rfl⟩⟩))
      go_meet
      case rel => exact ⟨_, (!t921), (by first | rfl | (simp; done) | (simp [*]; done)), H', ⟨by first | omega | exact Nat.le_refl _⟩, ⟨by (with_reducible repeat (first | apply Kd.R_alloc | apply Kd.R_drewN | apply Kd.R_drew)); exact Kd.R_mono HO897.out (fun _ hk => hk.2)⟩, ⟨by (with_reducible repeat (first | apply Kd.R_alloc | apply Kd.R_drewN | apply Kd.R_drew)); exact Kd.R_mono HO900.out (fun _ hk => hk.2)⟩, ⟨by (with_reducible repeat (first | apply Kd.R_alloc | apply Kd.R_drewN | apply Kd.R_drew)); exact Kd.R_mono HO909.out (fun _ hk => ⟨hk.1.2, hk.2⟩)⟩, ⟨by (with_reducible repeat (first | apply Kd.R_alloc | apply Kd.R_drewN | apply Kd.R_drew)); exact Kd.R_mono HO912.out (fun _ hk => ⟨hk.1.2, hk.2⟩)⟩, ⟨by (with_reducible repeat (first | apply Kd.R_alloc | apply Kd.R_drewN | apply Kd.R_drew)); exact Kd.R_mono HO919.out (fun _ hk => ⟨hk.1.2, hk.2⟩)⟩, ⟨by repeat (first | (with_reducible first | exact HB.out | apply below_alloc | apply pw_below_drewN | apply below_drew1) | exact HB.out)⟩⟩
     ·replace c29 := Bool.eq_false_iff.mpr c29
      subst c29
      have H1 : (numnahlaw09_ParseOwn.j0 k t893 t894 t898 t906 t910 t916 true) = some r := by rw [if_neg (show ¬ (false = true) by decide)] at H; exact H
      clear H
      have H := H1
      clear H1
      have H' := Aside0.mk H
      clear H
      obtain ⟨Ao33, co33, eo33⟩ := Kd.R_slice HO900.out
      subst eo33
      go_wp2_with (first | (go_at_call 26; (with_reducible refine (numnahref09_Same.calls k _ _ t894 _ _ t898 false _ ?side1 ?side2 ?side3 ?side4 A28.out).mono ?_); (case side1 => repeat (first | exact (Kd.R_reads' HO897.out).2.2 | (with_reducible refine Kd.C_alloc ?_ _) | (with_reducible refine Kd.C_drewN ?_ _) | (with_reducible refine Kd.C_drew ?_))); (case side2 => exact (Kd.R_reads' HO897.out).2.1); (case side3 => repeat (first | exact (Kd.R_reads' HO900.out).2.2 | (with_reducible refine Kd.C_alloc ?_ _) | (with_reducible refine Kd.C_drewN ?_ _) | (with_reducible refine Kd.C_drew ?_))); (case side4 => exact (Kd.R_reads' HO900.out).2.1); rintro e w' ⟨rfl, ⟨nd, rfl⟩⟩))
      go_meet
      case rel => exact ⟨_, (true), (by first | rfl | (simp; done) | (simp [*]; done)), H', ⟨by first | omega | exact Nat.le_refl _⟩, ⟨by (with_reducible repeat (first | apply Kd.R_alloc | apply Kd.R_drewN | apply Kd.R_drew)); exact Kd.R_mono HO897.out (fun _ hk => hk.2)⟩, ⟨by (with_reducible repeat (first | apply Kd.R_alloc | apply Kd.R_drewN | apply Kd.R_drew)); exact Kd.R_mono HO900.out (fun _ hk => hk.2)⟩, ⟨by (with_reducible repeat (first | apply Kd.R_alloc | apply Kd.R_drewN | apply Kd.R_drew)); exact Kd.R_mono HO909.out (fun _ hk => ⟨hk.1.2, hk.2⟩)⟩, ⟨by (with_reducible repeat (first | apply Kd.R_alloc | apply Kd.R_drewN | apply Kd.R_drew)); exact Kd.R_mono HO912.out (fun _ hk => ⟨hk.1.2, hk.2⟩)⟩, ⟨by (with_reducible repeat (first | apply Kd.R_alloc | apply Kd.R_drewN | apply Kd.R_drew)); exact Kd.R_mono HO919.out (fun _ hk => ⟨hk.1.2, hk.2⟩)⟩, ⟨by repeat (first | (with_reducible first | exact HB.out | apply below_alloc | apply pw_below_drewN | apply below_drew1) | exact HB.out)⟩⟩
    ·rw [if_neg c27] at H
     have c27b0 : (t917 == 0) = false := beq_eq_false_iff_ne.mpr c27
     have c27b1 : (t917 != 0) = true := bne_iff_ne.mpr c27
     have H' := Aside0.mk H
     clear H
     go_wp2
     go_meet
     case rel => exact ⟨_, (true), (by first | rfl | (simp; done) | (simp [*]; done)), H', ⟨by first | omega | exact Nat.le_refl _⟩, ⟨by (with_reducible repeat (first | apply Kd.R_alloc | apply Kd.R_drewN | apply Kd.R_drew)); exact Kd.R_mono HO897.out (fun _ hk => hk.2)⟩, ⟨by (with_reducible repeat (first | apply Kd.R_alloc | apply Kd.R_drewN | apply Kd.R_drew)); exact Kd.R_mono HO900.out (fun _ hk => hk.2)⟩, ⟨by (with_reducible repeat (first | apply Kd.R_alloc | apply Kd.R_drewN | apply Kd.R_drew)); exact Kd.R_mono HO909.out (fun _ hk => ⟨hk.1.2, hk.2⟩)⟩, ⟨by (with_reducible repeat (first | apply Kd.R_alloc | apply Kd.R_drewN | apply Kd.R_drew)); exact Kd.R_mono HO912.out (fun _ hk => ⟨hk.1.2, hk.2⟩)⟩, ⟨by (with_reducible repeat (first | apply Kd.R_alloc | apply Kd.R_drewN | apply Kd.R_drew)); exact Kd.R_mono HO919.out (fun _ hk => ⟨hk.1.2, hk.2⟩)⟩, ⟨by repeat (first | (with_reducible first | exact HB.out | apply below_alloc | apply pw_below_drewN | apply below_drew1) | exact HB.out)⟩⟩
   ·rw [if_neg c26] at H
    have c26b0 : (t907 == 0) = false := beq_eq_false_iff_ne.mpr c26
    have c26b1 : (t907 != 0) = true := bne_iff_ne.mpr c26
    have H' := Aside0.mk H
    clear H
    go_wp2
    go_meet
    case rel => exact ⟨_, (true), (by first | rfl | (simp; done) | (simp [*]; done)), H', ⟨by first | omega | exact Nat.le_refl _⟩, ⟨by (with_reducible repeat (first | apply Kd.R_alloc | apply Kd.R_drewN | apply Kd.R_drew)); exact Kd.R_mono HO897.out (fun _ hk => hk.2)⟩, ⟨by (with_reducible repeat (first | apply Kd.R_alloc | apply Kd.R_drewN | apply Kd.R_drew)); exact Kd.R_mono HO900.out (fun _ hk => hk.2)⟩, ⟨by (with_reducible repeat (first | apply Kd.R_alloc | apply Kd.R_drewN | apply Kd.R_drew)); exact Kd.R_mono HO909.out (fun _ hk => ⟨hk.1.2, hk.2⟩)⟩, ⟨by (with_reducible repeat (first | apply Kd.R_alloc | apply Kd.R_drewN | apply Kd.R_drew)); exact Kd.R_mono HO912.out (fun _ hk => ⟨hk.1.2, hk.2⟩)⟩, ⟨by (with_reducible repeat (first | apply Kd.R_alloc | apply Kd.R_drewN | apply Kd.R_drew)); exact Kd.R_mono HO919.out (fun _ hk => ⟨hk.1.2, hk.2⟩)⟩, ⟨by repeat (first | (with_reducible first | exact HB.out | apply below_alloc | apply pw_below_drewN | apply below_drew1) | exact HB.out)⟩⟩
  ·rw [if_neg c25] at H
   have c25b0 : (t895 == 0) = false := beq_eq_false_iff_ne.mpr c25
   have c25b1 : (t895 != 0) = true := bne_iff_ne.mpr c25
   (first | rw [c25b0] | (simp only [i64_w, i32_w]; rw [c25b0]) | skip)
   have H' := Aside0.mk H
   clear H
   go_wp2
   go_meet
   case rel => exact ⟨_, (true), (by first | rfl | (simp; done) | (simp [*]; done)), H', ⟨by first | omega | exact Nat.le_refl _⟩, ⟨by (with_reducible repeat (first | apply Kd.R_alloc | apply Kd.R_drewN | apply Kd.R_drew)); exact Kd.R_mono HO897.out (fun _ hk => hk.2)⟩, ⟨by (with_reducible repeat (first | apply Kd.R_alloc | apply Kd.R_drewN | apply Kd.R_drew)); exact Kd.R_mono HO900.out (fun _ hk => hk.2)⟩, ⟨by (with_reducible repeat (first | apply Kd.R_alloc | apply Kd.R_drewN | apply Kd.R_drew)); exact Kd.R_mono HO909.out (fun _ hk => ⟨hk.1.2, hk.2⟩)⟩, ⟨by (with_reducible repeat (first | apply Kd.R_alloc | apply Kd.R_drewN | apply Kd.R_drew)); exact Kd.R_mono HO912.out (fun _ hk => ⟨hk.1.2, hk.2⟩)⟩, ⟨by (with_reducible repeat (first | apply Kd.R_alloc | apply Kd.R_drewN | apply Kd.R_drew)); exact Kd.R_mono HO919.out (fun _ hk => ⟨hk.1.2, hk.2⟩)⟩, ⟨by repeat (first | (with_reducible first | exact HB.out | apply below_alloc | apply pw_below_drewN | apply below_drew1) | exact HB.out)⟩⟩
 case rest =>
  clear HC12
  try clear c2
  try clear p2
  try clear c3
  try clear c4
  try clear c5
  try clear c20
  try clear c22
  try clear c25
  try clear c25b0
  try clear c25b1
  try clear c26
  try clear c26b0
  try clear c26b1
  try clear c27
  try clear c27b0
  try clear c27b1
  try clear c29
  try clear c32
  obtain ⟨kq, x76_11, rfl, HA, HJ11, HO_4, HO_6, HO_8, HO_10, HO_11, HB⟩ := hcut
  cases kq with
  | zero => exact absurd HA.out (by simp [numnahlaw09_ParseOwn.j0])
  | succ kj11 =>
   have H := HA.out
   clear HA
   simp only [numnahlaw09_ParseOwn.j0] at H
   by_cases c34 : x76_11 = true
   ·subst c34
    have H1 : (some false) = some r := by rw [if_pos rfl] at H; exact H
    clear H
    have H := H1
    clear H1
    obtain rfl := Option.some.inj H
    go_wp2
    go_ret
    exact ⟨by first | rfl | (simp [errW_none, errW_some] <;> rfl) | (simp [*, errW_none, errW_some] <;> rfl), by repeat (first | (with_reducible first | exact HB.out | apply below_alloc | apply pw_below_drewN | apply below_drew1) | exact HB.out)⟩
   ·replace c34 := Bool.eq_false_iff.mpr c34
    subst c34
    have H1 : (numnahlaw09_ParseOwn.l0 kj11 t893 t894 t898 t906 t910 t916 0) = some r := by rw [if_neg (show ¬ (false = true) by decide)] at H; exact H
    clear H
    have H := H1
    clear H1
    have H' := Aside0.mk H
    clear H
    go_wp2
    go_loopg [13] kj11 (fun kq v13 w' => ∃ (x4_2 : List (S63)) (x13_2 : Int), v13 = .int .i64 x13_2 ∧ Aside0 (numnahlaw09_ParseOwn.l0 kq t893 x4_2 t898 t906 t910 t916 x13_2 = some r) ∧ Aside0 (kq ≤ kj11) ∧ Aside0 (Kd.R k63 63 w' w.heap.size (fun k_ => some k_ ≠ (v899 : Value).ownBlock) (.slice Ao15 t894.length co15) x4_2) ∧ Aside0 (Kd.R k63 63 w' w.heap.size (fun k_ => some k_ ≠ ((.slice Ao15 t894.length co15) : Value).ownBlock) v899 t898) ∧ Aside0 (Kd.R (Kd.int .i64) 3 w' w.heap.size (fun k_ => some k_ ≠ (v911 : Value).ownBlock ∧ some k_ ≠ (v918 : Value).ownBlock) (.slice Ao21 t906.length co21) t906) ∧ Aside0 (Kd.R (Kd.int .i64) 3 w' w.heap.size (fun k_ => some k_ ≠ ((.slice Ao21 t906.length co21) : Value).ownBlock ∧ some k_ ≠ (v918 : Value).ownBlock) v911 t910) ∧ Aside0 (Kd.R (Kd.int .i64) 3 w' w.heap.size (fun k_ => some k_ ≠ ((.slice Ao21 t906.length co21) : Value).ownBlock ∧ some k_ ≠ (v911 : Value).ownBlock) v918 t916) ∧ Aside0 (Below w.heap.size w w'))
    case atStart => exact ⟨(t894), (0), (by first | rfl | (simp; done) | (simp [*]; done)), H', ⟨Nat.le_refl _⟩, ⟨by (with_reducible repeat (first | apply Kd.R_alloc | apply Kd.R_drewN | apply Kd.R_drew)); exact HO_4.out⟩, ⟨by (with_reducible repeat (first | apply Kd.R_alloc | apply Kd.R_drewN | apply Kd.R_drew)); exact HO_6.out⟩, ⟨by (with_reducible repeat (first | apply Kd.R_alloc | apply Kd.R_drewN | apply Kd.R_drew)); exact HO_8.out⟩, ⟨by (with_reducible repeat (first | apply Kd.R_alloc | apply Kd.R_drewN | apply Kd.R_drew)); exact HO_10.out⟩, ⟨by (with_reducible repeat (first | apply Kd.R_alloc | apply Kd.R_drewN | apply Kd.R_drew)); exact HO_11.out⟩, ⟨by repeat (first | (with_reducible first | exact HB.out | apply below_alloc | apply pw_below_drewN | apply below_drew1) | exact HB.out)⟩⟩
    case round =>
     clear H'
     try clear c2
     try clear p2
     try clear c3
     try clear c4
     try clear c5
     try clear c20
     try clear c22
     try clear c25
     try clear c25b0
     try clear c25b1
     try clear c26
     try clear c26b0
     try clear c26b1
     try clear c27
     try clear c27b0
     try clear c27b1
     try clear c29
     try clear c32
     try clear c34
     try clear p2
     obtain ⟨x4_2, x13_2, rfl, HA, HK2, HO_4, HO_6, HO_8, HO_10, HO_11, HB⟩ := hrel
     have hl4_2 := (Kd.R_reads' HO_4.out).1
     rw [hl4_2] at HO_4
     (try simp only [hl4_2])
     (try simp only [hl4_2] at HO_6)
     (try simp only [hl4_2] at HO_8)
     (try simp only [hl4_2] at HO_10)
     (try simp only [hl4_2] at HO_11)
     cases gk with
     | zero => exact absurd HA.out (by simp [numnahlaw09_ParseOwn.l0])
     | succ k2 =>
      have H := HA.out
      clear HA
      simp only [numnahlaw09_ParseOwn.l0] at H
      by_cases c35 : x13_2 < (x4_2.length : Int)
      ·rw [if_pos c35] at H
       have c35b0 : decide (x13_2 < (x4_2.length : Int)) = true := decide_eq_true c35
       clear c35
       by_cases c36 : 0 ≤ x13_2
       ·rw [if_pos c36] at H
        have c36b0 : decide (0 ≤ x13_2) = true := decide_eq_true c36
        clear c36
        obtain ⟨y922, hy922⟩ : ∃ y_ : List (S63), y_ = (x4_2.set (x13_2 : Int).toNat (⟨(-7), (-7)⟩ : S63)) := ⟨_, rfl⟩
        replace H : (numnahlaw09_ParseOwn.l0 k2 t893 y922 t898 t906 t910 t916 (wrap64 (x13_2 + 1))) = some r := by first | (rw [hy922]; with_reducible exact H) | (have H2_ := (Option.bind_some _ _).symm.trans H; rw [hy922]; with_reducible exact H2_) | (have H2_ := (Option.bind_some _ _).symm.trans H; with_reducible exact H2_) | with_reducible exact H | (rw [hy922]; exact H) | exact H
        have Ny922 := Aside0.mk hy922
        clear hy922
        have H' := Aside0.mk H
        clear H
        have p37 : 0 ≤ (x13_2 : Int) := of_decide_eq_true (by first | (with_reducible assumption) | assumption)
        have q37 : (x13_2 : Int) < ((x4_2.length : Int) : Int) := of_decide_eq_true (by first | (with_reducible assumption) | assumption)
        obtain ⟨go37, co37, eo37, gb37, gl37, cl37, HG37⟩ := Kd.R_form HO_4.out (by omega)
        (first | cases eo37 | (injection eo37 with ea_ en_ ec_; (first | subst ea_ | (injection ea_ with ea_; subst ea_)); subst ec_; clear en_))
        have GB37 := Aside0.mk gb37
        have GG37 := Aside0.mk HG37
        clear gb37 gl37 HG37
        obtain ⟨ce37, hcl37, hM37, hcc37, hfr37⟩ := Kd.R_elem HO_4.out z63 (x13_2 : Int) p37 q37
        obtain rfl := k63_openM hM37
        have hx37_0 : wr.cell? ⟨go37, (x13_2 : Int).toNat * 2, none⟩ = some (.int .i64 ((rd_T63 x4_2 x13_2).f0)) := hcc37 0 _ rfl
        have hx37_1 : wr.cell? ⟨go37, (x13_2 : Int).toNat * 2 + 1, none⟩ = some (.int .i64 ((rd_T63 x4_2 x13_2).f1)) := hcc37 1 _ rfl
        have hf37_0 : wr.frozen? ⟨go37, (x13_2 : Int).toNat * 2, none⟩ = false := hfr37 0
        have hf37_1 : wr.frozen? ⟨go37, (x13_2 : Int).toNat * 2 + 1, none⟩ = false := hfr37 1
        clear hcl37 hcc37 hfr37 hM37
        replace p37 := eq_true p37
        replace q37 := eq_true q37
        have HX38 := Aside0.mk (show Kd.R k63 63 wr w.heap.size (fun k_ => some k_ ≠ (v899 : Value).ownBlock) (.slice (some ⟨go37, 0, none⟩) x4_2.length co15) x4_2 from (by (with_reducible repeat (first | apply Kd.R_alloc | apply Kd.R_drewN | apply Kd.R_drew)); exact HO_4.out))
        obtain ⟨ce38, hcl38, hM38, hcc38, hfr38⟩ := Kd.R_elem HX38.out z63 (x13_2 : Int) (of_decide_eq_true (by first | (with_reducible assumption) | assumption)) (by have h_ : (x13_2 : Int) < ((x4_2.length : Int) : Int) := of_decide_eq_true (by first | (with_reducible assumption) | assumption); first | exact h_ | (have e_ := (Kd.R_reads' HO_4.out).1; omega) | simpa using h_)
        obtain rfl := k63_openM hM38
        have HP38 := Kd.R_seg HX38.out (x13_2 : Int) (of_decide_eq_true (by first | (with_reducible assumption) | assumption)) (by have h_ : (x13_2 : Int) < ((x4_2.length : Int) : Int) := of_decide_eq_true (by first | (with_reducible assumption) | assumption); first | exact h_ | (have e_ := (Kd.R_reads' HO_4.out).1; omega) | simpa using h_) (seg := [.int .i64 (-7), .int .i64 (-7)]) (j := 0) hcl38 hcc38 (show 2 ≤ 2 from by decide) (x' := (⟨(-7), (-7)⟩ : S63)) (k63_mkM _ _ _ (⟨(-7), (-7)⟩ : S63) ) (fun _ hk => hk)
        have hx38_0 := hcc38 0 _ rfl
        (try simp only [show (k63).sz = 2 from rfl, Nat.mul_one, Nat.add_zero] at hx38_0)
        have hf38_0 := hfr38 0
        (try simp only [show (k63).sz = 2 from rfl, Nat.mul_one, Nat.add_zero] at hf38_0)
        have hx38_1 := hcc38 1 _ rfl
        (try simp only [show (k63).sz = 2 from rfl, Nat.mul_one, Nat.add_zero] at hx38_1)
        have hf38_1 := hfr38 1
        (try simp only [show (k63).sz = 2 from rfl, Nat.mul_one, Nat.add_zero] at hf38_1)
        clear hcl38 hcc38 hfr38 hM38
        go_wp2_with (first | ((with_reducible refine gate_store (t := 63) (p := 86) rfl ?_); refine store_event (t := 63) (p := 86) (v := ?vo_w39) (w1 := ((wr.setCell ⟨go37, (x13_2 : Int).toNat * 2, none⟩ (.int .i64 (-7))).setCell ⟨go37, (x13_2 : Int).toNat * 2 + 1, none⟩ (.int .i64 (-7)))) ?hg ?ho ?hn ?hr ?_; (case ho => rfl); (case hg => rfl); (case hn => rfl); (case hr => first | (go_simp; done) | (go_simp; rfl)); intro w39 hw; have hg : wr.grownBy w39 (some go37) := (by rw [hw]; exact HP38.2); have hp_ : Kd.R k63 63 w39 w.heap.size (fun k_ => some k_ ≠ (v899 : Value).ownBlock) (.slice (some ⟨go37, 0, none⟩) x4_2.length co15) y922 := (by rw [hw, Ny922.out]; exact HP38.1); clear HP38; have n0_ := Aside0.mk (hp_); have n1_ := Aside0.mk (Kd.R_after (v := (.slice (some ⟨go37, 0, none⟩) x4_2.length co15)) (v1 := (.slice (some ⟨go37, 0, none⟩) x4_2.length co15)) (ok := (fun _ => True)) (by (with_reducible repeat (first | apply Kd.R_alloc | apply Kd.R_drewN | apply Kd.R_drew)); exact Kd.R_mono HO_6.out (fun _ hk => ⟨trivial, hk⟩)) hg (.inl rfl)); have n2_ := Aside0.mk (Kd.R_over' (v := (.slice (some ⟨go37, 0, none⟩) x4_2.length co15)) (by (with_reducible repeat (first | apply Kd.R_alloc | apply Kd.R_drewN | apply Kd.R_drew)); exact HO_8.out) (Kd.R_typed HO_4.out) (by decide) hg); have n3_ := Aside0.mk (Kd.R_over' (v := (.slice (some ⟨go37, 0, none⟩) x4_2.length co15)) (by (with_reducible repeat (first | apply Kd.R_alloc | apply Kd.R_drewN | apply Kd.R_drew)); exact HO_10.out) (Kd.R_typed HO_4.out) (by decide) hg); have n4_ := Aside0.mk (Kd.R_over' (v := (.slice (some ⟨go37, 0, none⟩) x4_2.length co15)) (by (with_reducible repeat (first | apply Kd.R_alloc | apply Kd.R_drewN | apply Kd.R_drew)); exact HO_11.out) (Kd.R_typed HO_4.out) (by decide) hg); have n5_ := Aside0.mk ((by rw [hw]; exact below_set (below_set (HB.out) GB37.out) GB37.out : Below w.heap.size w w39)); clear HO_4; clear HO_6; clear HO_8; clear HO_10; clear HO_11; clear HB; have HO_4 := n0_; have HO_6 := n1_; have HO_8 := n2_; have HO_10 := n3_; have HO_11 := n4_; have HB := n5_; clear n0_ n1_ n2_ n3_ n4_ n5_; clear hg hw hp_))
        (try simp only [← hl4_2])
        go_roundg k2
        case measure => have := HJ11.out; have := HK2.out; omega
        case rel => exact ⟨(y922), (wrap64 (x13_2 + 1)), (by first | rfl | (simp; done) | (simp [*]; done)), H', ⟨by have := HJ11.out; have := HK2.out; omega⟩, ⟨by (try simp only [hl4_2]); (with_reducible repeat (first | apply Kd.R_alloc | apply Kd.R_drewN | apply Kd.R_drew)); exact HO_4.out⟩, ⟨by (try simp only [hl4_2]); (with_reducible repeat (first | apply Kd.R_alloc | apply Kd.R_drewN | apply Kd.R_drew)); exact Kd.R_mono HO_6.out (fun _ hk => hk.2)⟩, ⟨by (try simp only [hl4_2]); (with_reducible repeat (first | apply Kd.R_alloc | apply Kd.R_drewN | apply Kd.R_drew)); exact HO_8.out⟩, ⟨by (try simp only [hl4_2]); (with_reducible repeat (first | apply Kd.R_alloc | apply Kd.R_drewN | apply Kd.R_drew)); exact HO_10.out⟩, ⟨by (try simp only [hl4_2]); (with_reducible repeat (first | apply Kd.R_alloc | apply Kd.R_drewN | apply Kd.R_drew)); exact HO_11.out⟩, ⟨by repeat (first | (with_reducible first | exact HB.out | apply below_alloc | apply pw_below_drewN | apply below_drew1) | exact HB.out)⟩⟩
       ·rw [if_neg c36] at H
        exact absurd H (by simp)
      ·rw [if_neg c35] at H
       have c35b0 : decide (x13_2 < (x4_2.length : Int)) = false := decide_eq_false c35
       clear c35
       have H' := Aside0.mk H
       clear H
       go_wp2
       go_loopg [14] k2 (fun kq v14 w' => ∃ (x8_3 : List Int) (x14_3 : Int), v14 = .int .i64 x14_3 ∧ Aside0 (numnahlaw09_ParseOwn.l1 kq t893 t898 x8_3 t910 t916 x14_3 = some r) ∧ Aside0 (kq ≤ k2) ∧ Aside0 (Kd.R k63 63 w' w.heap.size (fun _ => True) v899 t898) ∧ Aside0 (Kd.R (Kd.int .i64) 3 w' w.heap.size (fun k_ => some k_ ≠ (v911 : Value).ownBlock ∧ some k_ ≠ (v918 : Value).ownBlock) (.slice Ao21 t906.length co21) x8_3) ∧ Aside0 (Kd.R (Kd.int .i64) 3 w' w.heap.size (fun k_ => some k_ ≠ ((.slice Ao21 t906.length co21) : Value).ownBlock ∧ some k_ ≠ (v918 : Value).ownBlock) v911 t910) ∧ Aside0 (Kd.R (Kd.int .i64) 3 w' w.heap.size (fun k_ => some k_ ≠ ((.slice Ao21 t906.length co21) : Value).ownBlock ∧ some k_ ≠ (v911 : Value).ownBlock) v918 t916) ∧ Aside0 (Below w.heap.size w w'))
       case atStart => exact ⟨(t906), (0), (by first | rfl | (simp; done) | (simp [*]; done)), H', ⟨Nat.le_refl _⟩, ⟨by (try simp only [hl4_2]); (with_reducible repeat (first | apply Kd.R_alloc | apply Kd.R_drewN | apply Kd.R_drew)); exact Kd.R_mono HO_6.out (fun _ hk => trivial)⟩, ⟨by (try simp only [hl4_2]); (with_reducible repeat (first | apply Kd.R_alloc | apply Kd.R_drewN | apply Kd.R_drew)); exact HO_8.out⟩, ⟨by (try simp only [hl4_2]); (with_reducible repeat (first | apply Kd.R_alloc | apply Kd.R_drewN | apply Kd.R_drew)); exact HO_10.out⟩, ⟨by (try simp only [hl4_2]); (with_reducible repeat (first | apply Kd.R_alloc | apply Kd.R_drewN | apply Kd.R_drew)); exact HO_11.out⟩, ⟨by repeat (first | (with_reducible first | exact HB.out | apply below_alloc | apply pw_below_drewN | apply below_drew1) | exact HB.out)⟩⟩
       case round =>
        clear H'
        try clear c2
        try clear p2
        try clear c3
        try clear p3
        try clear q3
        try clear hx3
        try clear hf3
        try clear c4
        try clear c5
        try clear p6
        try clear c20
        try clear c22
        try clear c25
        try clear c25b0
        try clear c25b1
        try clear c26
        try clear c26b0
        try clear c26b1
        try clear c27
        try clear c27b0
        try clear c27b1
        try clear c29
        try clear c32
        try clear c34
        try clear c35
        try clear c35b0
        try clear c36
        try clear c36b0
        try clear c37
        try clear p37
        try clear q37
        try clear hx37
        try clear hf37
        try clear c38
        try clear hx38
        try clear hf38
        try clear hx37_0
        try clear hx37_1
        try clear hx38_0
        try clear hx38_1
        try clear p2
        try clear p37
        try clear q37
        obtain ⟨x8_3, x14_3, rfl, HA, HK3, HO_6, HO_8, HO_10, HO_11, HB⟩ := hrel
        have hl8_3 := (Kd.R_reads' HO_8.out).1
        rw [hl8_3] at HO_8
        (try simp only [hl8_3])
        (try simp only [hl8_3] at HO_6)
        (try simp only [hl8_3] at HO_10)
        (try simp only [hl8_3] at HO_11)
        cases gk with
        | zero => exact absurd HA.out (by simp [numnahlaw09_ParseOwn.l1])
        | succ k3 =>
         have H := HA.out
         clear HA
         simp only [numnahlaw09_ParseOwn.l1] at H
         by_cases c40 : x14_3 < (x8_3.length : Int)
         ·rw [if_pos c40] at H
          have c40b0 : decide (x14_3 < (x8_3.length : Int)) = true := decide_eq_true c40
          clear c40
          by_cases c41 : 0 ≤ x14_3
          ·rw [if_pos c41] at H
           have c41b0 : decide (0 ≤ x14_3) = true := decide_eq_true c41
           clear c41
           obtain ⟨y923, hy923⟩ : ∃ y_ : List Int, y_ = (x8_3.set (x14_3 : Int).toNat (-7)) := ⟨_, rfl⟩
           replace H : (numnahlaw09_ParseOwn.l1 k3 t893 t898 y923 t910 t916 (wrap64 (x14_3 + 1))) = some r := by first | (rw [hy923]; with_reducible exact H) | (have H2_ := (Option.bind_some _ _).symm.trans H; rw [hy923]; with_reducible exact H2_) | (have H2_ := (Option.bind_some _ _).symm.trans H; with_reducible exact H2_) | with_reducible exact H | (rw [hy923]; exact H) | exact H
           have Ny923 := Aside0.mk hy923
           clear hy923
           have H' := Aside0.mk H
           clear H
           have p42 : 0 ≤ (x14_3 : Int) := of_decide_eq_true (by first | (with_reducible assumption) | assumption)
           have q42 : (x14_3 : Int) < ((x8_3.length : Int) : Int) := of_decide_eq_true (by first | (with_reducible assumption) | assumption)
           obtain ⟨go42, co42, eo42, gb42, gl42, cl42, HG42⟩ := Kd.R_form HO_8.out (by omega)
           (first | cases eo42 | (injection eo42 with ea_ en_ ec_; (first | subst ea_ | (injection ea_ with ea_; subst ea_)); subst ec_; clear en_))
           have GB42 := Aside0.mk gb42
           have GG42 := Aside0.mk HG42
           clear gb42 gl42 HG42
           obtain ⟨hx42_0, hf42_0⟩ := Kd.R_celln 0 HO_8.out (x14_3 : Int) p42 q42
           replace p42 := eq_true p42
           replace q42 := eq_true q42
           have HP43 := Kd.R_putg HO_8.out (x14_3 : Int) (-7)
           go_wp2_with (first | ((with_reducible refine gate_store (t := 3) (p := 95) rfl ?_); refine store_event (t := 3) (p := 95) (v := ?vo_w44) (w1 := (wr.setCell ⟨go42, (x14_3 : Int).toNat, none⟩ (.int .i64 (-7)))) ?hg ?ho ?hn ?hr ?_; (case ho => rfl); (case hg => rfl); (case hn => rfl); (case hr => first | (go_simp; done) | (go_simp; rfl)); intro w44 hw; have hg : wr.grownBy w44 (some go42) := (by rw [hw]; exact HP43.2); have hp_ : Kd.R (Kd.int .i64) 3 w44 w.heap.size (fun k_ => some k_ ≠ (v911 : Value).ownBlock ∧ some k_ ≠ (v918 : Value).ownBlock) (.slice (some ⟨go42, 0, none⟩) x8_3.length co21) y923 := (by rw [hw, Ny923.out]; exact HP43.1); clear HP43; have n0_ := Aside0.mk (Kd.R_over' (v := (.slice (some ⟨go42, 0, none⟩) x8_3.length co21)) (by (with_reducible repeat (first | apply Kd.R_alloc | apply Kd.R_drewN | apply Kd.R_drew)); exact HO_6.out) (Kd.R_typed HO_8.out) (by decide) hg); have n1_ := Aside0.mk (hp_); have n2_ := Aside0.mk (Kd.R_after (v := (.slice (some ⟨go42, 0, none⟩) x8_3.length co21)) (v1 := (.slice (some ⟨go42, 0, none⟩) x8_3.length co21)) (ok := (fun k_ => some k_ ≠ (v918 : Value).ownBlock)) (by (with_reducible repeat (first | apply Kd.R_alloc | apply Kd.R_drewN | apply Kd.R_drew)); exact Kd.R_mono HO_10.out (fun _ hk => ⟨hk.2, hk.1⟩)) hg (.inl rfl)); have n3_ := Aside0.mk (Kd.R_after (v := (.slice (some ⟨go42, 0, none⟩) x8_3.length co21)) (v1 := (.slice (some ⟨go42, 0, none⟩) x8_3.length co21)) (ok := (fun k_ => some k_ ≠ (v911 : Value).ownBlock)) (by (with_reducible repeat (first | apply Kd.R_alloc | apply Kd.R_drewN | apply Kd.R_drew)); exact Kd.R_mono HO_11.out (fun _ hk => ⟨hk.2, hk.1⟩)) hg (.inl rfl)); have n4_ := Aside0.mk ((by rw [hw]; exact below_set (HB.out) GB42.out : Below w.heap.size w w44)); clear HO_6; clear HO_8; clear HO_10; clear HO_11; clear HB; have HO_6 := n0_; have HO_8 := n1_; have HO_10 := n2_; have HO_11 := n3_; have HB := n4_; clear n0_ n1_ n2_ n3_ n4_; clear hg hw hp_))
           (try simp only [← hl8_3])
           go_roundg k3
           case measure => have := HJ11.out; have := HK2.out; have := HK3.out; omega
           case rel => exact ⟨(y923), (wrap64 (x14_3 + 1)), (by first | rfl | (simp; done) | (simp [*]; done)), H', ⟨by have := HJ11.out; have := HK2.out; have := HK3.out; omega⟩, ⟨by (try simp only [hl4_2]); (try simp only [hl8_3]); (with_reducible repeat (first | apply Kd.R_alloc | apply Kd.R_drewN | apply Kd.R_drew)); exact HO_6.out⟩, ⟨by (try simp only [hl4_2]); (try simp only [hl8_3]); (with_reducible repeat (first | apply Kd.R_alloc | apply Kd.R_drewN | apply Kd.R_drew)); exact HO_8.out⟩, ⟨by (try simp only [hl4_2]); (try simp only [hl8_3]); (with_reducible repeat (first | apply Kd.R_alloc | apply Kd.R_drewN | apply Kd.R_drew)); exact Kd.R_mono HO_10.out (fun _ hk => ⟨hk.2, hk.1⟩)⟩, ⟨by (try simp only [hl4_2]); (try simp only [hl8_3]); (with_reducible repeat (first | apply Kd.R_alloc | apply Kd.R_drewN | apply Kd.R_drew)); exact Kd.R_mono HO_11.out (fun _ hk => ⟨hk.2, hk.1⟩)⟩, ⟨by repeat (first | (with_reducible first | exact HB.out | apply below_alloc | apply pw_below_drewN | apply below_drew1) | exact HB.out)⟩⟩
          ·rw [if_neg c41] at H
           exact absurd H (by simp)
         ·rw [if_neg c40] at H
          have c40b0 : decide (x14_3 < (x8_3.length : Int)) = false := decide_eq_false c40
          clear c40
          have H' := Aside0.mk H
          clear H
          go_wp2
          go_loopg [15] k3 (fun kq v15 w' => ∃ (x11_4 : List Int) (x15_4 : Int), v15 = .int .i64 x15_4 ∧ Aside0 (numnahlaw09_ParseOwn.l2 kq t893 t898 t910 x11_4 x15_4 = some r) ∧ Aside0 (kq ≤ k3) ∧ Aside0 (Kd.R k63 63 w' w.heap.size (fun _ => True) v899 t898) ∧ Aside0 (Kd.R (Kd.int .i64) 3 w' w.heap.size (fun k_ => some k_ ≠ (v918 : Value).ownBlock) v911 t910) ∧ Aside0 (Kd.R (Kd.int .i64) 3 w' w.heap.size (fun k_ => some k_ ≠ (v911 : Value).ownBlock) v918 x11_4) ∧ Aside0 (Below w.heap.size w w'))
          case atStart => exact ⟨(t916), (0), (by first | rfl | (simp; done) | (simp [*]; done)), H', ⟨Nat.le_refl _⟩, ⟨by (try simp only [hl4_2]); (try simp only [hl8_3]); (with_reducible repeat (first | apply Kd.R_alloc | apply Kd.R_drewN | apply Kd.R_drew)); exact HO_6.out⟩, ⟨by (try simp only [hl4_2]); (try simp only [hl8_3]); (with_reducible repeat (first | apply Kd.R_alloc | apply Kd.R_drewN | apply Kd.R_drew)); exact Kd.R_mono HO_10.out (fun _ hk => hk.2)⟩, ⟨by (try simp only [hl4_2]); (try simp only [hl8_3]); (with_reducible repeat (first | apply Kd.R_alloc | apply Kd.R_drewN | apply Kd.R_drew)); exact Kd.R_mono HO_11.out (fun _ hk => hk.2)⟩, ⟨by repeat (first | (with_reducible first | exact HB.out | apply below_alloc | apply pw_below_drewN | apply below_drew1) | exact HB.out)⟩⟩
          case round =>
           clear H'
           try clear c2
           try clear p2
           try clear c3
           try clear p3
           try clear q3
           try clear hx3
           try clear hf3
           try clear c4
           try clear p4
           try clear q4
           try clear hx4
           try clear hf4
           try clear c5
           try clear p6
           try clear c20
           try clear c22
           try clear c25
           try clear c25b0
           try clear c25b1
           try clear c26
           try clear c26b0
           try clear c26b1
           try clear c27
           try clear c27b0
           try clear c27b1
           try clear c29
           try clear c32
           try clear c34
           try clear c35
           try clear c35b0
           try clear c36
           try clear c36b0
           try clear c37
           try clear p37
           try clear q37
           try clear hx37
           try clear hf37
           try clear c38
           try clear hx38
           try clear hf38
           try clear c40
           try clear c40b0
           try clear c41
           try clear c41b0
           try clear p42
           try clear q42
           try clear hx42
           try clear hf42
           try clear hx37_0
           try clear hx37_1
           try clear hx38_0
           try clear hx38_1
           try clear hx42_0
           try clear p2
           try clear p3
           try clear p37
           try clear p42
           try clear p6
           try clear q3
           try clear q37
           try clear q42
           obtain ⟨x11_4, x15_4, rfl, HA, HK4, HO_6, HO_10, HO_11, HB⟩ := hrel
           cases gk with
           | zero => exact absurd HA.out (by simp [numnahlaw09_ParseOwn.l2])
           | succ k4 =>
            have H := HA.out
            clear HA
            simp only [numnahlaw09_ParseOwn.l2] at H
            by_cases c45 : x15_4 < (x11_4.length : Int)
            ·rw [if_pos c45] at H
             have c45b0 : decide (x15_4 < (x11_4.length : Int)) = true := decide_eq_true c45
             clear c45
             by_cases c46 : 0 ≤ x15_4
             ·rw [if_pos c46] at H
              have c46b0 : decide (0 ≤ x15_4) = true := decide_eq_true c46
              clear c46
              obtain ⟨y924, hy924⟩ : ∃ y_ : List Int, y_ = (x11_4.set (x15_4 : Int).toNat (-7)) := ⟨_, rfl⟩
              replace H : (numnahlaw09_ParseOwn.l2 k4 t893 t898 t910 y924 (wrap64 (x15_4 + 1))) = some r := by first | (rw [hy924]; with_reducible exact H) | (have H2_ := (Option.bind_some _ _).symm.trans H; rw [hy924]; with_reducible exact H2_) | (have H2_ := (Option.bind_some _ _).symm.trans H; with_reducible exact H2_) | with_reducible exact H | (rw [hy924]; exact H) | exact H
              have Ny924 := Aside0.mk hy924
              clear hy924
              have H' := Aside0.mk H
              clear H
              obtain ⟨Ao48, co48, eo48⟩ := Kd.R_slice HO_11.out
              subst eo48
              have p47 : 0 ≤ (x15_4 : Int) := of_decide_eq_true (by first | (with_reducible assumption) | assumption)
              have q47 : (x15_4 : Int) < ((x11_4.length : Int) : Int) := of_decide_eq_true (by first | (with_reducible assumption) | assumption)
              obtain ⟨go47, co47, eo47, gb47, gl47, cl47, HG47⟩ := Kd.R_form HO_11.out (by omega)
              (first | cases eo47 | (injection eo47 with ea_ en_ ec_; (first | subst ea_ | (injection ea_ with ea_; subst ea_)); subst ec_; clear en_))
              have GB47 := Aside0.mk gb47
              have GG47 := Aside0.mk HG47
              clear gb47 gl47 HG47
              obtain ⟨hx47_0, hf47_0⟩ := Kd.R_celln 0 HO_11.out (x15_4 : Int) p47 q47
              replace p47 := eq_true p47
              replace q47 := eq_true q47
              have HP49 := Kd.R_putg HO_11.out (x15_4 : Int) (-7)
              go_wp2_with (first | ((with_reducible refine gate_store (t := 3) (p := 104) rfl ?_); refine store_event (t := 3) (p := 104) (v := ?vo_w50) (w1 := (wr.setCell ⟨go47, (x15_4 : Int).toNat, none⟩ (.int .i64 (-7)))) ?hg ?ho ?hn ?hr ?_; (case ho => rfl); (case hg => rfl); (case hn => rfl); (case hr => first | (go_simp; done) | (go_simp; rfl)); intro w50 hw; have hg : wr.grownBy w50 (some go47) := (by rw [hw]; exact HP49.2); have hp_ : Kd.R (Kd.int .i64) 3 w50 w.heap.size (fun k_ => some k_ ≠ (v911 : Value).ownBlock) (.slice (some ⟨go47, 0, none⟩) x11_4.length co48) y924 := (by rw [hw, Ny924.out]; exact HP49.1); clear HP49; have n0_ := Aside0.mk (Kd.R_over' (v := (.slice (some ⟨go47, 0, none⟩) x11_4.length co48)) (by (with_reducible repeat (first | apply Kd.R_alloc | apply Kd.R_drewN | apply Kd.R_drew)); exact HO_6.out) (Kd.R_typed HO_11.out) (by decide) hg); have n1_ := Aside0.mk (Kd.R_after (v := (.slice (some ⟨go47, 0, none⟩) x11_4.length co48)) (v1 := (.slice (some ⟨go47, 0, none⟩) x11_4.length co48)) (ok := (fun _ => True)) (by (with_reducible repeat (first | apply Kd.R_alloc | apply Kd.R_drewN | apply Kd.R_drew)); exact Kd.R_mono HO_10.out (fun _ hk => ⟨trivial, hk⟩)) hg (.inl rfl)); have n2_ := Aside0.mk (hp_); have n3_ := Aside0.mk ((by rw [hw]; exact below_set (HB.out) GB47.out : Below w.heap.size w w50)); clear HO_6; clear HO_10; clear HO_11; clear HB; have HO_6 := n0_; have HO_10 := n1_; have HO_11 := n2_; have HB := n3_; clear n0_ n1_ n2_ n3_; clear hg hw hp_))
              go_roundg k4
              case measure => have := HJ11.out; have := HK2.out; have := HK3.out; have := HK4.out; omega
              case rel => exact ⟨(y924), (wrap64 (x15_4 + 1)), (by first | rfl | (simp; done) | (simp [*]; done)), H', ⟨by have := HJ11.out; have := HK2.out; have := HK3.out; have := HK4.out; omega⟩, ⟨by (try simp only [hl4_2]); (try simp only [hl8_3]); (with_reducible repeat (first | apply Kd.R_alloc | apply Kd.R_drewN | apply Kd.R_drew)); exact HO_6.out⟩, ⟨by (try simp only [hl4_2]); (try simp only [hl8_3]); (with_reducible repeat (first | apply Kd.R_alloc | apply Kd.R_drewN | apply Kd.R_drew)); exact Kd.R_mono HO_10.out (fun _ hk => hk.2)⟩, ⟨by (try simp only [hl4_2]); (try simp only [hl8_3]); (with_reducible repeat (first | apply Kd.R_alloc | apply Kd.R_drewN | apply Kd.R_drew)); exact HO_11.out⟩, ⟨by repeat (first | (with_reducible first | exact HB.out | apply below_alloc | apply pw_below_drewN | apply below_drew1) | exact HB.out)⟩⟩
             ·rw [if_neg c46] at H
              exact absurd H (by simp)
            ·rw [if_neg c45] at H
             have c45b0 : decide (x15_4 < (x11_4.length : Int)) = false := decide_eq_false c45
             clear c45
             replace H := Option.bind_eq_some_iff.mp H
             obtain ⟨⟨t925, t926⟩, A510, H⟩ := H
             replace H : ((parse_Fewest.f t893).bind fun bt929 => ((parse_Substrings.f t893).bind fun bt933 => (if t926 = 0 then (if bt929.2 = 0 then (if bt933.2 = 0 then ((numnahref09_Same.f k4 t925 t898).bind fun t937 => (if t937 = true then ((numnahlaw09_ints.f k4 bt929.1 t910).bind fun t938 => (if t938 = true then ((numnahref09_Substrings.f k4 t893).bind fun t939 => ((numnahlaw09_ints.f k4 bt933.1 t939).bind fun t942 => (if t942 = true then ((numnahlaw09_awake.f k4).bind fun t943 => (some t943)) else (some false)))) else (some false))) else (some false))) else (some false)) else (some false)) else (some false)))) = some r := H
             have A51 := Aside0.mk A510
             clear A510
             replace H := Option.bind_eq_some_iff.mp H
             obtain ⟨⟨t929, t930⟩, A520, H⟩ := H
             replace H : ((parse_Substrings.f t893).bind fun bt933 => (if t926 = 0 then (if t930 = 0 then (if bt933.2 = 0 then ((numnahref09_Same.f k4 t925 t898).bind fun t937 => (if t937 = true then ((numnahlaw09_ints.f k4 t929 t910).bind fun t938 => (if t938 = true then ((numnahref09_Substrings.f k4 t893).bind fun t939 => ((numnahlaw09_ints.f k4 bt933.1 t939).bind fun t942 => (if t942 = true then ((numnahlaw09_awake.f k4).bind fun t943 => (some t943)) else (some false)))) else (some false))) else (some false))) else (some false)) else (some false)) else (some false))) = some r := H
             have A52 := Aside0.mk A520
             clear A520
             replace H := Option.bind_eq_some_iff.mp H
             obtain ⟨⟨t933, t934⟩, A530, H⟩ := H
             replace H : (if t926 = 0 then (if t930 = 0 then (if t934 = 0 then ((numnahref09_Same.f k4 t925 t898).bind fun t937 => (if t937 = true then ((numnahlaw09_ints.f k4 t929 t910).bind fun t938 => (if t938 = true then ((numnahref09_Substrings.f k4 t893).bind fun t939 => ((numnahlaw09_ints.f k4 t933 t939).bind fun t942 => (if t942 = true then ((numnahlaw09_awake.f k4).bind fun t943 => (some t943)) else (some false)))) else (some false))) else (some false))) else (some false)) else (some false)) else (some false)) = some r := H
             have A53 := Aside0.mk A530
             clear A530
             by_cases c54 : t926 = 0
             ·rw [if_pos c54] at H
              have c54b0 : (t926 == 0) = true := beq_iff_eq.mpr c54
              have c54b1 : (t926 != 0) = false := bne_eq_false_iff_eq.mpr c54
              clear c54
              by_cases c55 : t930 = 0
              ·rw [if_pos c55] at H
               have c55b0 : (t930 == 0) = true := beq_iff_eq.mpr c55
               have c55b1 : (t930 != 0) = false := bne_eq_false_iff_eq.mpr c55
               clear c55
               by_cases c56 : t934 = 0
               ·rw [if_pos c56] at H
                have c56b0 : (t934 == 0) = true := beq_iff_eq.mpr c56
                have c56b1 : (t934 != 0) = false := bne_eq_false_iff_eq.mpr c56
                clear c56
                replace H := Option.bind_eq_some_iff.mp H
                obtain ⟨t937, A570, H⟩ := H
                replace H : (if t937 = true then ((numnahlaw09_ints.f k4 t929 t910).bind fun t938 => (if t938 = true then ((numnahref09_Substrings.f k4 t893).bind fun t939 => ((numnahlaw09_ints.f k4 t933 t939).bind fun t942 => (if t942 = true then ((numnahlaw09_awake.f k4).bind fun t943 => (some t943)) else (some false)))) else (some false))) else (some false)) = some r := H
                have A57 := Aside0.mk A570
                clear A570
                by_cases c58 : t937 = true
                ·subst c58
                 have H1 : ((numnahlaw09_ints.f k4 t929 t910).bind fun t938 => (if t938 = true then ((numnahref09_Substrings.f k4 t893).bind fun t939 => ((numnahlaw09_ints.f k4 t933 t939).bind fun t942 => (if t942 = true then ((numnahlaw09_awake.f k4).bind fun t943 => (some t943)) else (some false)))) else (some false))) = some r := by rw [if_pos rfl] at H; exact H
                 clear H
                 have H := H1
                 clear H1
                 replace H := Option.bind_eq_some_iff.mp H
                 obtain ⟨t938, A590, H⟩ := H
                 replace H : (if t938 = true then ((numnahref09_Substrings.f k4 t893).bind fun t939 => ((numnahlaw09_ints.f k4 t933 t939).bind fun t942 => (if t942 = true then ((numnahlaw09_awake.f k4).bind fun t943 => (some t943)) else (some false)))) else (some false)) = some r := H
                 have A59 := Aside0.mk A590
                 clear A590
                 by_cases c60 : t938 = true
                 ·subst c60
                  have H1 : ((numnahref09_Substrings.f k4 t893).bind fun t939 => ((numnahlaw09_ints.f k4 t933 t939).bind fun t942 => (if t942 = true then ((numnahlaw09_awake.f k4).bind fun t943 => (some t943)) else (some false)))) = some r := by rw [if_pos rfl] at H; exact H
                  clear H
                  have H := H1
                  clear H1
                  replace H := Option.bind_eq_some_iff.mp H
                  obtain ⟨t939, A610, H⟩ := H
                  replace H : ((numnahlaw09_ints.f k4 t933 t939).bind fun t942 => (if t942 = true then ((numnahlaw09_awake.f k4).bind fun t943 => (some t943)) else (some false))) = some r := H
                  have A61 := Aside0.mk A610
                  clear A610
                  replace H := Option.bind_eq_some_iff.mp H
                  obtain ⟨t942, A620, H⟩ := H
                  replace H : (if t942 = true then ((numnahlaw09_awake.f k4).bind fun t943 => (some t943)) else (some false)) = some r := H
                  have A62 := Aside0.mk A620
                  clear A620
                  by_cases c63 : t942 = true
                  ·subst c63
                   have H1 : ((numnahlaw09_awake.f k4).bind fun t943 => (some t943)) = some r := by rw [if_pos rfl] at H; exact H
                   clear H
                   have H := H1
                   clear H1
                   replace H := Option.bind_eq_some_iff.mp H
                   obtain ⟨t943, A640, H⟩ := H
                   replace H : (some t943) = some r := H
                   have A64 := Aside0.mk A640
                   clear A640
                   obtain rfl := Option.some.inj H
                   obtain ⟨Ao65, co65, eo65⟩ := Kd.R_slice HO_11.out
                   subst eo65
                   go_wp2_with (first | ((with_reducible refine gate_callee (f := 22) rfl ?_); refine goesL_ (some 107) rfl rfl Tryd.func22 (by kernel_rfl) rfl #[.string t893] rfl (by (try simp only [List.map_toArray, List.map_cons, List.map_nil]); first | done | rfl | (simp only [List.length_drop, List.length_take]; rfl)) ?_; (with_reducible refine (parse_Copying.calls (hG := ?hg) t893 t925 t926 _ A51.out).mono ?_); (case hg => exact gw_now hG (by repeat (first | (with_reducible first | exact HB.out | apply below_alloc | apply pw_below_drewN | apply below_drew1) | exact HB.out))); rintro e w66 ⟨v927, rfl, ho0, hb⟩; refine ⟨_, rfl, ?_⟩; have n0_ := Aside0.mk (Kd.R_elder' (by (with_reducible repeat (first | apply Kd.R_alloc | apply Kd.R_drewN | apply Kd.R_drew)); exact HO_6.out) (Kd.R_base ho0) hb); have n1_ := Aside0.mk (Kd.R_below (by (with_reducible repeat (first | apply Kd.R_alloc | apply Kd.R_drewN | apply Kd.R_drew)); exact HO_10.out) hb); have n2_ := Aside0.mk (Kd.R_below (by (with_reducible repeat (first | apply Kd.R_alloc | apply Kd.R_drewN | apply Kd.R_drew)); exact HO_11.out) hb); have n3_ := Aside0.mk (Kd.R_lower (Kd.R_new' ho0 (Kd.R_lt (by (with_reducible repeat (first | apply Kd.R_alloc | apply Kd.R_drewN | apply Kd.R_drew)); exact HO_6.out))) (below_size (by repeat (first | (with_reducible first | exact HB.out | apply below_alloc | apply pw_below_drewN | apply below_drew1) | exact HB.out)))); have n4_ := Aside0.mk (below_step (by repeat (first | (with_reducible first | exact HB.out | apply below_alloc | apply pw_below_drewN | apply below_drew1) | exact HB.out)) hb); clear HO_6; clear HO_10; clear HO_11; clear HB; have HO_6 := n0_; have HO_10 := n1_; have HO_11 := n2_; have HO928 := n3_; have HB := n4_; clear n0_ n1_ n2_ n3_ n4_; (try clear hb); (try clear hb2); (try clear hk); (try clear hi); (try clear ho0)) | ((with_reducible refine gate_callee (f := 40) rfl ?_); refine goesL_ (some 112) rfl rfl Tryd.func40 (by kernel_rfl) rfl #[.string t893] rfl (by (try simp only [List.map_toArray, List.map_cons, List.map_nil]); first | done | rfl | (simp only [List.length_drop, List.length_take]; rfl)) ?_; (with_reducible refine (parse_Fewest.calls t893 t929 t930 _ A52.out).mono ?_); rintro e w67 ⟨v931, rfl, ho0, hb⟩; refine ⟨_, rfl, ?_⟩; have n0_ := Aside0.mk (Kd.R_below (by (with_reducible repeat (first | apply Kd.R_alloc | apply Kd.R_drewN | apply Kd.R_drew)); exact HO_6.out) hb); have n1_ := Aside0.mk (Kd.R_elder' (by (with_reducible repeat (first | apply Kd.R_alloc | apply Kd.R_drewN | apply Kd.R_drew)); exact HO_10.out) (Kd.R_base ho0) hb); have n2_ := Aside0.mk (Kd.R_elder' (by (with_reducible repeat (first | apply Kd.R_alloc | apply Kd.R_drewN | apply Kd.R_drew)); exact HO_11.out) (Kd.R_base ho0) hb); have n3_ := Aside0.mk (Kd.R_below (by (with_reducible repeat (first | apply Kd.R_alloc | apply Kd.R_drewN | apply Kd.R_drew)); exact HO928.out) hb); have n4_ := Aside0.mk (Kd.R_lower (Kd.R_new' (Kd.R_new' ho0 (Kd.R_lt (by (with_reducible repeat (first | apply Kd.R_alloc | apply Kd.R_drewN | apply Kd.R_drew)); exact HO_10.out))) (Kd.R_lt (by (with_reducible repeat (first | apply Kd.R_alloc | apply Kd.R_drewN | apply Kd.R_drew)); exact HO_11.out))) (below_size (by repeat (first | (with_reducible first | exact HB.out | apply below_alloc | apply pw_below_drewN | apply below_drew1) | exact HB.out)))); have n5_ := Aside0.mk (below_step (by repeat (first | (with_reducible first | exact HB.out | apply below_alloc | apply pw_below_drewN | apply below_drew1) | exact HB.out)) hb); clear HO_6; clear HO_10; clear HO_11; clear HO928; clear HB; have HO_6 := n0_; have HO_10 := n1_; have HO_11 := n2_; have HO928 := n3_; have HO932 := n4_; have HB := n5_; clear n0_ n1_ n2_ n3_ n4_ n5_; (try clear hb); (try clear hb2); (try clear hk); (try clear hi); (try clear ho0)) | ((with_reducible refine gate_callee (f := 32) rfl ?_); refine goesL_ (some 117) rfl rfl Tryd.func32 (by kernel_rfl) rfl #[.string t893] rfl (by (try simp only [List.map_toArray, List.map_cons, List.map_nil]); first | done | rfl | (simp only [List.length_drop, List.length_take]; rfl)) ?_; (with_reducible refine (parse_Substrings.calls t893 t933 t934 _ A53.out).mono ?_); rintro e w68 ⟨v935, rfl, ho0, hb⟩; refine ⟨_, rfl, ?_⟩; have n0_ := Aside0.mk (Kd.R_below (by (with_reducible repeat (first | apply Kd.R_alloc | apply Kd.R_drewN | apply Kd.R_drew)); exact HO_6.out) hb); have n1_ := Aside0.mk (Kd.R_elder' (by (with_reducible repeat (first | apply Kd.R_alloc | apply Kd.R_drewN | apply Kd.R_drew)); exact HO_10.out) (Kd.R_base ho0) hb); have n2_ := Aside0.mk (Kd.R_elder' (by (with_reducible repeat (first | apply Kd.R_alloc | apply Kd.R_drewN | apply Kd.R_drew)); exact HO_11.out) (Kd.R_base ho0) hb); have n3_ := Aside0.mk (Kd.R_below (by (with_reducible repeat (first | apply Kd.R_alloc | apply Kd.R_drewN | apply Kd.R_drew)); exact HO928.out) hb); have n4_ := Aside0.mk (Kd.R_elder' (by (with_reducible repeat (first | apply Kd.R_alloc | apply Kd.R_drewN | apply Kd.R_drew)); exact HO932.out) (Kd.R_base ho0) hb); have n5_ := Aside0.mk (Kd.R_lower (Kd.R_new' (Kd.R_new' (Kd.R_new' ho0 (Kd.R_lt (by (with_reducible repeat (first | apply Kd.R_alloc | apply Kd.R_drewN | apply Kd.R_drew)); exact HO_10.out))) (Kd.R_lt (by (with_reducible repeat (first | apply Kd.R_alloc | apply Kd.R_drewN | apply Kd.R_drew)); exact HO_11.out))) (Kd.R_lt (by (with_reducible repeat (first | apply Kd.R_alloc | apply Kd.R_drewN | apply Kd.R_drew)); exact HO932.out))) (below_size (by repeat (first | (with_reducible first | exact HB.out | apply below_alloc | apply pw_below_drewN | apply below_drew1) | exact HB.out)))); have n6_ := Aside0.mk (below_step (by repeat (first | (with_reducible first | exact HB.out | apply below_alloc | apply pw_below_drewN | apply below_drew1) | exact HB.out)) hb); clear HO_6; clear HO_10; clear HO_11; clear HO928; clear HO932; clear HB; have HO_6 := n0_; have HO_10 := n1_; have HO_11 := n2_; have HO928 := n3_; have HO932 := n4_; have HO936 := n5_; have HB := n6_; clear n0_ n1_ n2_ n3_ n4_ n5_ n6_; (try clear hb); (try clear hb2); (try clear hk); (try clear hi); (try clear ho0); obtain ⟨Ao69, co69, eo69⟩ := Kd.R_slice HO928.out; subst eo69; obtain ⟨Ao70, co70, eo70⟩ := Kd.R_slice HO_6.out; subst eo70) | (go_at_call 26; (with_reducible refine (numnahref09_Same.calls k4 _ _ t925 _ _ t898 true _ ?side1 ?side2 ?side3 ?side4 A57.out).mono ?_); (case side1 => repeat (first | exact (Kd.R_reads' HO928.out).2.2 | (with_reducible refine Kd.C_alloc ?_ _) | (with_reducible refine Kd.C_drewN ?_ _) | (with_reducible refine Kd.C_drew ?_))); (case side2 => exact (Kd.R_reads' HO928.out).2.1); (case side3 => repeat (first | exact (Kd.R_reads' HO_6.out).2.2 | (with_reducible refine Kd.C_alloc ?_ _) | (with_reducible refine Kd.C_drewN ?_ _) | (with_reducible refine Kd.C_drew ?_))); (case side4 => exact (Kd.R_reads' HO_6.out).2.1); rintro e w' ⟨rfl, ⟨nd, rfl⟩⟩; obtain ⟨Ao71, co71, eo71⟩ := Kd.R_slice HO932.out; subst eo71; obtain ⟨Ao72, co72, eo72⟩ := Kd.R_slice HO_10.out; subst eo72) | (go_at_call 41; (with_reducible refine (numnahlaw09_ints.calls k4 _ _ t929 _ _ t910 true _ ?side1 ?side2 ?side3 ?side4 A59.out).mono ?_); (case side1 => repeat (first | exact (Kd.R_reads' HO932.out).2.2 | (with_reducible refine Kd.C_alloc ?_ _) | (with_reducible refine Kd.C_drewN ?_ _) | (with_reducible refine Kd.C_drew ?_))); (case side2 => exact (Kd.R_reads' HO932.out).2.1); (case side3 => repeat (first | exact (Kd.R_reads' HO_10.out).2.2 | (with_reducible refine Kd.C_alloc ?_ _) | (with_reducible refine Kd.C_drewN ?_ _) | (with_reducible refine Kd.C_drew ?_))); (case side4 => exact (Kd.R_reads' HO_10.out).2.1); rintro e w' ⟨rfl, ⟨nd, rfl⟩⟩) | (go_at_call 49; (with_reducible refine (numnahref09_Substrings.calls k4 t893 t939 _ A61.out).mono ?_); rintro e w73 ⟨v940, rfl, ho0, hb⟩; have n0_ := Aside0.mk (Kd.R_below (by (with_reducible repeat (first | apply Kd.R_alloc | apply Kd.R_drewN | apply Kd.R_drew)); exact HO_6.out) hb); have n1_ := Aside0.mk (Kd.R_elder' (by (with_reducible repeat (first | apply Kd.R_alloc | apply Kd.R_drewN | apply Kd.R_drew)); exact HO_10.out) (Kd.R_base ho0) hb); have n2_ := Aside0.mk (Kd.R_elder' (by (with_reducible repeat (first | apply Kd.R_alloc | apply Kd.R_drewN | apply Kd.R_drew)); exact HO_11.out) (Kd.R_base ho0) hb); have n3_ := Aside0.mk (Kd.R_below (by (with_reducible repeat (first | apply Kd.R_alloc | apply Kd.R_drewN | apply Kd.R_drew)); exact HO928.out) hb); have n4_ := Aside0.mk (Kd.R_elder' (by (with_reducible repeat (first | apply Kd.R_alloc | apply Kd.R_drewN | apply Kd.R_drew)); exact HO932.out) (Kd.R_base ho0) hb); have n5_ := Aside0.mk (Kd.R_elder' (by (with_reducible repeat (first | apply Kd.R_alloc | apply Kd.R_drewN | apply Kd.R_drew)); exact HO936.out) (Kd.R_base ho0) hb); have n6_ := Aside0.mk (Kd.R_lower (Kd.R_new' (Kd.R_new' (Kd.R_new' (Kd.R_new' ho0 (Kd.R_lt (by (with_reducible repeat (first | apply Kd.R_alloc | apply Kd.R_drewN | apply Kd.R_drew)); exact HO_10.out))) (Kd.R_lt (by (with_reducible repeat (first | apply Kd.R_alloc | apply Kd.R_drewN | apply Kd.R_drew)); exact HO_11.out))) (Kd.R_lt (by (with_reducible repeat (first | apply Kd.R_alloc | apply Kd.R_drewN | apply Kd.R_drew)); exact HO932.out))) (Kd.R_lt (by (with_reducible repeat (first | apply Kd.R_alloc | apply Kd.R_drewN | apply Kd.R_drew)); exact HO936.out))) (below_size (by repeat (first | (with_reducible first | exact HB.out | apply below_alloc | apply pw_below_drewN | apply below_drew1) | exact HB.out)))); have n7_ := Aside0.mk (below_step (by repeat (first | (with_reducible first | exact HB.out | apply below_alloc | apply pw_below_drewN | apply below_drew1) | exact HB.out)) hb); clear HO_6; clear HO_10; clear HO_11; clear HO928; clear HO932; clear HO936; clear HB; have HO_6 := n0_; have HO_10 := n1_; have HO_11 := n2_; have HO928 := n3_; have HO932 := n4_; have HO936 := n5_; have HO941 := n6_; have HB := n7_; clear n0_ n1_ n2_ n3_ n4_ n5_ n6_ n7_; (try clear hb); (try clear hb2); (try clear hk); (try clear hi); (try clear ho0); obtain ⟨Ao74, co74, eo74⟩ := Kd.R_slice HO936.out; subst eo74; obtain ⟨Ao75, co75, eo75⟩ := Kd.R_slice HO941.out; subst eo75) | (go_at_call 41; (with_reducible refine (numnahlaw09_ints.calls k4 _ _ t933 _ _ t939 true _ ?side1 ?side2 ?side3 ?side4 A62.out).mono ?_); (case side1 => repeat (first | exact (Kd.R_reads' HO936.out).2.2 | (with_reducible refine Kd.C_alloc ?_ _) | (with_reducible refine Kd.C_drewN ?_ _) | (with_reducible refine Kd.C_drew ?_))); (case side2 => exact (Kd.R_reads' HO936.out).2.1); (case side3 => repeat (first | exact (Kd.R_reads' HO941.out).2.2 | (with_reducible refine Kd.C_alloc ?_ _) | (with_reducible refine Kd.C_drewN ?_ _) | (with_reducible refine Kd.C_drew ?_))); (case side4 => exact (Kd.R_reads' HO941.out).2.1); rintro e w' ⟨rfl, ⟨nd, rfl⟩⟩) | (go_at_call 25; (with_reducible refine (numnahlaw09_awake.calls (hG := ?hg) k4  t943 _ A64.out).mono ?_); (case hg => exact gw_now hG (by repeat (first | (with_reducible first | exact HB.out | apply below_alloc | apply pw_below_drewN | apply below_drew1) | exact HB.out))); rintro e w76 ⟨rfl, hb⟩; have n0_ := Aside0.mk (Kd.R_below (by (with_reducible repeat (first | apply Kd.R_alloc | apply Kd.R_drewN | apply Kd.R_drew)); exact HO_6.out) hb); have n1_ := Aside0.mk (Kd.R_below (by (with_reducible repeat (first | apply Kd.R_alloc | apply Kd.R_drewN | apply Kd.R_drew)); exact HO_10.out) hb); have n2_ := Aside0.mk (Kd.R_below (by (with_reducible repeat (first | apply Kd.R_alloc | apply Kd.R_drewN | apply Kd.R_drew)); exact HO_11.out) hb); have n3_ := Aside0.mk (Kd.R_below (by (with_reducible repeat (first | apply Kd.R_alloc | apply Kd.R_drewN | apply Kd.R_drew)); exact HO928.out) hb); have n4_ := Aside0.mk (Kd.R_below (by (with_reducible repeat (first | apply Kd.R_alloc | apply Kd.R_drewN | apply Kd.R_drew)); exact HO932.out) hb); have n5_ := Aside0.mk (Kd.R_below (by (with_reducible repeat (first | apply Kd.R_alloc | apply Kd.R_drewN | apply Kd.R_drew)); exact HO936.out) hb); have n6_ := Aside0.mk (Kd.R_below (by (with_reducible repeat (first | apply Kd.R_alloc | apply Kd.R_drewN | apply Kd.R_drew)); exact HO941.out) hb); have n7_ := Aside0.mk (below_step (by repeat (first | (with_reducible first | exact HB.out | apply below_alloc | apply pw_below_drewN | apply below_drew1) | exact HB.out)) hb); clear HO_6; clear HO_10; clear HO_11; clear HO928; clear HO932; clear HO936; clear HO941; clear HB; have HO_6 := n0_; have HO_10 := n1_; have HO_11 := n2_; have HO928 := n3_; have HO932 := n4_; have HO936 := n5_; have HO941 := n6_; have HB := n7_; clear n0_ n1_ n2_ n3_ n4_ n5_ n6_ n7_; (try clear hb); (try clear hb2); (try clear hk); (try clear hi)))
                   go_ret
                   exact ⟨by first | rfl | (simp [errW_none, errW_some] <;> rfl) | (simp [*, errW_none, errW_some] <;> rfl), by repeat (first | (with_reducible first | exact HB.out | apply below_alloc | apply pw_below_drewN | apply below_drew1) | exact HB.out)⟩
                  ·replace c63 := Bool.eq_false_iff.mpr c63
                   subst c63
                   have H1 : (some false) = some r := by rw [if_neg (show ¬ (false = true) by decide)] at H; exact H
                   clear H
                   have H := H1
                   clear H1
                   obtain rfl := Option.some.inj H
                   obtain ⟨Ao77, co77, eo77⟩ := Kd.R_slice HO_11.out
                   subst eo77
                   go_wp2_with (first | ((with_reducible refine gate_callee (f := 22) rfl ?_); refine goesL_ (some 107) rfl rfl Tryd.func22 (by kernel_rfl) rfl #[.string t893] rfl (by (try simp only [List.map_toArray, List.map_cons, List.map_nil]); first | done | rfl | (simp only [List.length_drop, List.length_take]; rfl)) ?_; (with_reducible refine (parse_Copying.calls (hG := ?hg) t893 t925 t926 _ A51.out).mono ?_); (case hg => exact gw_now hG (by repeat (first | (with_reducible first | exact HB.out | apply below_alloc | apply pw_below_drewN | apply below_drew1) | exact HB.out))); rintro e w78 ⟨v927, rfl, ho0, hb⟩; refine ⟨_, rfl, ?_⟩; have n0_ := Aside0.mk (Kd.R_elder' (by (with_reducible repeat (first | apply Kd.R_alloc | apply Kd.R_drewN | apply Kd.R_drew)); exact HO_6.out) (Kd.R_base ho0) hb); have n1_ := Aside0.mk (Kd.R_below (by (with_reducible repeat (first | apply Kd.R_alloc | apply Kd.R_drewN | apply Kd.R_drew)); exact HO_10.out) hb); have n2_ := Aside0.mk (Kd.R_below (by (with_reducible repeat (first | apply Kd.R_alloc | apply Kd.R_drewN | apply Kd.R_drew)); exact HO_11.out) hb); have n3_ := Aside0.mk (Kd.R_lower (Kd.R_new' ho0 (Kd.R_lt (by (with_reducible repeat (first | apply Kd.R_alloc | apply Kd.R_drewN | apply Kd.R_drew)); exact HO_6.out))) (below_size (by repeat (first | (with_reducible first | exact HB.out | apply below_alloc | apply pw_below_drewN | apply below_drew1) | exact HB.out)))); have n4_ := Aside0.mk (below_step (by repeat (first | (with_reducible first | exact HB.out | apply below_alloc | apply pw_below_drewN | apply below_drew1) | exact HB.out)) hb); clear HO_6; clear HO_10; clear HO_11; clear HB; have HO_6 := n0_; have HO_10 := n1_; have HO_11 := n2_; have HO928 := n3_; have HB := n4_; clear n0_ n1_ n2_ n3_ n4_; (try clear hb); (try clear hb2); (try clear hk); (try clear hi); (try clear ho0)) | ((with_reducible refine gate_callee (f := 40) rfl ?_); refine goesL_ (some 112) rfl rfl Tryd.func40 (by kernel_rfl) rfl #[.string t893] rfl (by (try simp only [List.map_toArray, List.map_cons, List.map_nil]); first | done | rfl | (simp only [List.length_drop, List.length_take]; rfl)) ?_; (with_reducible refine (parse_Fewest.calls t893 t929 t930 _ A52.out).mono ?_); rintro e w79 ⟨v931, rfl, ho0, hb⟩; refine ⟨_, rfl, ?_⟩; have n0_ := Aside0.mk (Kd.R_below (by (with_reducible repeat (first | apply Kd.R_alloc | apply Kd.R_drewN | apply Kd.R_drew)); exact HO_6.out) hb); have n1_ := Aside0.mk (Kd.R_elder' (by (with_reducible repeat (first | apply Kd.R_alloc | apply Kd.R_drewN | apply Kd.R_drew)); exact HO_10.out) (Kd.R_base ho0) hb); have n2_ := Aside0.mk (Kd.R_elder' (by (with_reducible repeat (first | apply Kd.R_alloc | apply Kd.R_drewN | apply Kd.R_drew)); exact HO_11.out) (Kd.R_base ho0) hb); have n3_ := Aside0.mk (Kd.R_below (by (with_reducible repeat (first | apply Kd.R_alloc | apply Kd.R_drewN | apply Kd.R_drew)); exact HO928.out) hb); have n4_ := Aside0.mk (Kd.R_lower (Kd.R_new' (Kd.R_new' ho0 (Kd.R_lt (by (with_reducible repeat (first | apply Kd.R_alloc | apply Kd.R_drewN | apply Kd.R_drew)); exact HO_10.out))) (Kd.R_lt (by (with_reducible repeat (first | apply Kd.R_alloc | apply Kd.R_drewN | apply Kd.R_drew)); exact HO_11.out))) (below_size (by repeat (first | (with_reducible first | exact HB.out | apply below_alloc | apply pw_below_drewN | apply below_drew1) | exact HB.out)))); have n5_ := Aside0.mk (below_step (by repeat (first | (with_reducible first | exact HB.out | apply below_alloc | apply pw_below_drewN | apply below_drew1) | exact HB.out)) hb); clear HO_6; clear HO_10; clear HO_11; clear HO928; clear HB; have HO_6 := n0_; have HO_10 := n1_; have HO_11 := n2_; have HO928 := n3_; have HO932 := n4_; have HB := n5_; clear n0_ n1_ n2_ n3_ n4_ n5_; (try clear hb); (try clear hb2); (try clear hk); (try clear hi); (try clear ho0)) | ((with_reducible refine gate_callee (f := 32) rfl ?_); refine goesL_ (some 117) rfl rfl Tryd.func32 (by kernel_rfl) rfl #[.string t893] rfl (by (try simp only [List.map_toArray, List.map_cons, List.map_nil]); first | done | rfl | (simp only [List.length_drop, List.length_take]; rfl)) ?_; (with_reducible refine (parse_Substrings.calls t893 t933 t934 _ A53.out).mono ?_); rintro e w80 ⟨v935, rfl, ho0, hb⟩; refine ⟨_, rfl, ?_⟩; have n0_ := Aside0.mk (Kd.R_below (by (with_reducible repeat (first | apply Kd.R_alloc | apply Kd.R_drewN | apply Kd.R_drew)); exact HO_6.out) hb); have n1_ := Aside0.mk (Kd.R_elder' (by (with_reducible repeat (first | apply Kd.R_alloc | apply Kd.R_drewN | apply Kd.R_drew)); exact HO_10.out) (Kd.R_base ho0) hb); have n2_ := Aside0.mk (Kd.R_elder' (by (with_reducible repeat (first | apply Kd.R_alloc | apply Kd.R_drewN | apply Kd.R_drew)); exact HO_11.out) (Kd.R_base ho0) hb); have n3_ := Aside0.mk (Kd.R_below (by (with_reducible repeat (first | apply Kd.R_alloc | apply Kd.R_drewN | apply Kd.R_drew)); exact HO928.out) hb); have n4_ := Aside0.mk (Kd.R_elder' (by (with_reducible repeat (first | apply Kd.R_alloc | apply Kd.R_drewN | apply Kd.R_drew)); exact HO932.out) (Kd.R_base ho0) hb); have n5_ := Aside0.mk (Kd.R_lower (Kd.R_new' (Kd.R_new' (Kd.R_new' ho0 (Kd.R_lt (by (with_reducible repeat (first | apply Kd.R_alloc | apply Kd.R_drewN | apply Kd.R_drew)); exact HO_10.out))) (Kd.R_lt (by (with_reducible repeat (first | apply Kd.R_alloc | apply Kd.R_drewN | apply Kd.R_drew)); exact HO_11.out))) (Kd.R_lt (by (with_reducible repeat (first | apply Kd.R_alloc | apply Kd.R_drewN | apply Kd.R_drew)); exact HO932.out))) (below_size (by repeat (first | (with_reducible first | exact HB.out | apply below_alloc | apply pw_below_drewN | apply below_drew1) | exact HB.out)))); have n6_ := Aside0.mk (below_step (by repeat (first | (with_reducible first | exact HB.out | apply below_alloc | apply pw_below_drewN | apply below_drew1) | exact HB.out)) hb); clear HO_6; clear HO_10; clear HO_11; clear HO928; clear HO932; clear HB; have HO_6 := n0_; have HO_10 := n1_; have HO_11 := n2_; have HO928 := n3_; have HO932 := n4_; have HO936 := n5_; have HB := n6_; clear n0_ n1_ n2_ n3_ n4_ n5_ n6_; (try clear hb); (try clear hb2); (try clear hk); (try clear hi); (try clear ho0); obtain ⟨Ao81, co81, eo81⟩ := Kd.R_slice HO928.out; subst eo81; obtain ⟨Ao82, co82, eo82⟩ := Kd.R_slice HO_6.out; subst eo82) | (go_at_call 26; (with_reducible refine (numnahref09_Same.calls k4 _ _ t925 _ _ t898 true _ ?side1 ?side2 ?side3 ?side4 A57.out).mono ?_); (case side1 => repeat (first | exact (Kd.R_reads' HO928.out).2.2 | (with_reducible refine Kd.C_alloc ?_ _) | (with_reducible refine Kd.C_drewN ?_ _) | (with_reducible refine Kd.C_drew ?_))); (case side2 => exact (Kd.R_reads' HO928.out).2.1); (case side3 => repeat (first | exact (Kd.R_reads' HO_6.out).2.2 | (with_reducible refine Kd.C_alloc ?_ _) | (with_reducible refine Kd.C_drewN ?_ _) | (with_reducible refine Kd.C_drew ?_))); (case side4 => exact (Kd.R_reads' HO_6.out).2.1); rintro e w' ⟨rfl, ⟨nd, rfl⟩⟩; obtain ⟨Ao83, co83, eo83⟩ := Kd.R_slice HO932.out; subst eo83; obtain ⟨Ao84, co84, eo84⟩ := Kd.R_slice HO_10.out; subst eo84) | (go_at_call 41; (with_reducible refine (numnahlaw09_ints.calls k4 _ _ t929 _ _ t910 true _ ?side1 ?side2 ?side3 ?side4 A59.out).mono ?_); (case side1 => repeat (first | exact (Kd.R_reads' HO932.out).2.2 | (with_reducible refine Kd.C_alloc ?_ _) | (with_reducible refine Kd.C_drewN ?_ _) | (with_reducible refine Kd.C_drew ?_))); (case side2 => exact (Kd.R_reads' HO932.out).2.1); (case side3 => repeat (first | exact (Kd.R_reads' HO_10.out).2.2 | (with_reducible refine Kd.C_alloc ?_ _) | (with_reducible refine Kd.C_drewN ?_ _) | (with_reducible refine Kd.C_drew ?_))); (case side4 => exact (Kd.R_reads' HO_10.out).2.1); rintro e w' ⟨rfl, ⟨nd, rfl⟩⟩) | (go_at_call 49; (with_reducible refine (numnahref09_Substrings.calls k4 t893 t939 _ A61.out).mono ?_); rintro e w85 ⟨v940, rfl, ho0, hb⟩; have n0_ := Aside0.mk (Kd.R_below (by (with_reducible repeat (first | apply Kd.R_alloc | apply Kd.R_drewN | apply Kd.R_drew)); exact HO_6.out) hb); have n1_ := Aside0.mk (Kd.R_elder' (by (with_reducible repeat (first | apply Kd.R_alloc | apply Kd.R_drewN | apply Kd.R_drew)); exact HO_10.out) (Kd.R_base ho0) hb); have n2_ := Aside0.mk (Kd.R_elder' (by (with_reducible repeat (first | apply Kd.R_alloc | apply Kd.R_drewN | apply Kd.R_drew)); exact HO_11.out) (Kd.R_base ho0) hb); have n3_ := Aside0.mk (Kd.R_below (by (with_reducible repeat (first | apply Kd.R_alloc | apply Kd.R_drewN | apply Kd.R_drew)); exact HO928.out) hb); have n4_ := Aside0.mk (Kd.R_elder' (by (with_reducible repeat (first | apply Kd.R_alloc | apply Kd.R_drewN | apply Kd.R_drew)); exact HO932.out) (Kd.R_base ho0) hb); have n5_ := Aside0.mk (Kd.R_elder' (by (with_reducible repeat (first | apply Kd.R_alloc | apply Kd.R_drewN | apply Kd.R_drew)); exact HO936.out) (Kd.R_base ho0) hb); have n6_ := Aside0.mk (Kd.R_lower (Kd.R_new' (Kd.R_new' (Kd.R_new' (Kd.R_new' ho0 (Kd.R_lt (by (with_reducible repeat (first | apply Kd.R_alloc | apply Kd.R_drewN | apply Kd.R_drew)); exact HO_10.out))) (Kd.R_lt (by (with_reducible repeat (first | apply Kd.R_alloc | apply Kd.R_drewN | apply Kd.R_drew)); exact HO_11.out))) (Kd.R_lt (by (with_reducible repeat (first | apply Kd.R_alloc | apply Kd.R_drewN | apply Kd.R_drew)); exact HO932.out))) (Kd.R_lt (by (with_reducible repeat (first | apply Kd.R_alloc | apply Kd.R_drewN | apply Kd.R_drew)); exact HO936.out))) (below_size (by repeat (first | (with_reducible first | exact HB.out | apply below_alloc | apply pw_below_drewN | apply below_drew1) | exact HB.out)))); have n7_ := Aside0.mk (below_step (by repeat (first | (with_reducible first | exact HB.out | apply below_alloc | apply pw_below_drewN | apply below_drew1) | exact HB.out)) hb); clear HO_6; clear HO_10; clear HO_11; clear HO928; clear HO932; clear HO936; clear HB; have HO_6 := n0_; have HO_10 := n1_; have HO_11 := n2_; have HO928 := n3_; have HO932 := n4_; have HO936 := n5_; have HO941 := n6_; have HB := n7_; clear n0_ n1_ n2_ n3_ n4_ n5_ n6_ n7_; (try clear hb); (try clear hb2); (try clear hk); (try clear hi); (try clear ho0); obtain ⟨Ao86, co86, eo86⟩ := Kd.R_slice HO936.out; subst eo86; obtain ⟨Ao87, co87, eo87⟩ := Kd.R_slice HO941.out; subst eo87) | (go_at_call 41; (with_reducible refine (numnahlaw09_ints.calls k4 _ _ t933 _ _ t939 false _ ?side1 ?side2 ?side3 ?side4 A62.out).mono ?_); (case side1 => repeat (first | exact (Kd.R_reads' HO936.out).2.2 | (with_reducible refine Kd.C_alloc ?_ _) | (with_reducible refine Kd.C_drewN ?_ _) | (with_reducible refine Kd.C_drew ?_))); (case side2 => exact (Kd.R_reads' HO936.out).2.1); (case side3 => repeat (first | exact (Kd.R_reads' HO941.out).2.2 | (with_reducible refine Kd.C_alloc ?_ _) | (with_reducible refine Kd.C_drewN ?_ _) | (with_reducible refine Kd.C_drew ?_))); (case side4 => exact (Kd.R_reads' HO941.out).2.1); rintro e w' ⟨rfl, ⟨nd, rfl⟩⟩))
                   go_ret
                   exact ⟨by first | rfl | (simp [errW_none, errW_some] <;> rfl) | (simp [*, errW_none, errW_some] <;> rfl), by repeat (first | (with_reducible first | exact HB.out | apply below_alloc | apply pw_below_drewN | apply below_drew1) | exact HB.out)⟩
                 ·replace c60 := Bool.eq_false_iff.mpr c60
                  subst c60
                  have H1 : (some false) = some r := by rw [if_neg (show ¬ (false = true) by decide)] at H; exact H
                  clear H
                  have H := H1
                  clear H1
                  obtain rfl := Option.some.inj H
                  obtain ⟨Ao88, co88, eo88⟩ := Kd.R_slice HO_11.out
                  subst eo88
                  go_wp2_with (first | ((with_reducible refine gate_callee (f := 22) rfl ?_); refine goesL_ (some 107) rfl rfl Tryd.func22 (by kernel_rfl) rfl #[.string t893] rfl (by (try simp only [List.map_toArray, List.map_cons, List.map_nil]); first | done | rfl | (simp only [List.length_drop, List.length_take]; rfl)) ?_; (with_reducible refine (parse_Copying.calls (hG := ?hg) t893 t925 t926 _ A51.out).mono ?_); (case hg => exact gw_now hG (by repeat (first | (with_reducible first | exact HB.out | apply below_alloc | apply pw_below_drewN | apply below_drew1) | exact HB.out))); rintro e w89 ⟨v927, rfl, ho0, hb⟩; refine ⟨_, rfl, ?_⟩; have n0_ := Aside0.mk (Kd.R_elder' (by (with_reducible repeat (first | apply Kd.R_alloc | apply Kd.R_drewN | apply Kd.R_drew)); exact HO_6.out) (Kd.R_base ho0) hb); have n1_ := Aside0.mk (Kd.R_below (by (with_reducible repeat (first | apply Kd.R_alloc | apply Kd.R_drewN | apply Kd.R_drew)); exact HO_10.out) hb); have n2_ := Aside0.mk (Kd.R_below (by (with_reducible repeat (first | apply Kd.R_alloc | apply Kd.R_drewN | apply Kd.R_drew)); exact HO_11.out) hb); have n3_ := Aside0.mk (Kd.R_lower (Kd.R_new' ho0 (Kd.R_lt (by (with_reducible repeat (first | apply Kd.R_alloc | apply Kd.R_drewN | apply Kd.R_drew)); exact HO_6.out))) (below_size (by repeat (first | (with_reducible first | exact HB.out | apply below_alloc | apply pw_below_drewN | apply below_drew1) | exact HB.out)))); have n4_ := Aside0.mk (below_step (by repeat (first | (with_reducible first | exact HB.out | apply below_alloc | apply pw_below_drewN | apply below_drew1) | exact HB.out)) hb); clear HO_6; clear HO_10; clear HO_11; clear HB; have HO_6 := n0_; have HO_10 := n1_; have HO_11 := n2_; have HO928 := n3_; have HB := n4_; clear n0_ n1_ n2_ n3_ n4_; (try clear hb); (try clear hb2); (try clear hk); (try clear hi); (try clear ho0)) | ((with_reducible refine gate_callee (f := 40) rfl ?_); refine goesL_ (some 112) rfl rfl Tryd.func40 (by kernel_rfl) rfl #[.string t893] rfl (by (try simp only [List.map_toArray, List.map_cons, List.map_nil]); first | done | rfl | (simp only [List.length_drop, List.length_take]; rfl)) ?_; (with_reducible refine (parse_Fewest.calls t893 t929 t930 _ A52.out).mono ?_); rintro e w90 ⟨v931, rfl, ho0, hb⟩; refine ⟨_, rfl, ?_⟩; have n0_ := Aside0.mk (Kd.R_below (by (with_reducible repeat (first | apply Kd.R_alloc | apply Kd.R_drewN | apply Kd.R_drew)); exact HO_6.out) hb); have n1_ := Aside0.mk (Kd.R_elder' (by (with_reducible repeat (first | apply Kd.R_alloc | apply Kd.R_drewN | apply Kd.R_drew)); exact HO_10.out) (Kd.R_base ho0) hb); have n2_ := Aside0.mk (Kd.R_elder' (by (with_reducible repeat (first | apply Kd.R_alloc | apply Kd.R_drewN | apply Kd.R_drew)); exact HO_11.out) (Kd.R_base ho0) hb); have n3_ := Aside0.mk (Kd.R_below (by (with_reducible repeat (first | apply Kd.R_alloc | apply Kd.R_drewN | apply Kd.R_drew)); exact HO928.out) hb); have n4_ := Aside0.mk (Kd.R_lower (Kd.R_new' (Kd.R_new' ho0 (Kd.R_lt (by (with_reducible repeat (first | apply Kd.R_alloc | apply Kd.R_drewN | apply Kd.R_drew)); exact HO_10.out))) (Kd.R_lt (by (with_reducible repeat (first | apply Kd.R_alloc | apply Kd.R_drewN | apply Kd.R_drew)); exact HO_11.out))) (below_size (by repeat (first | (with_reducible first | exact HB.out | apply below_alloc | apply pw_below_drewN | apply below_drew1) | exact HB.out)))); have n5_ := Aside0.mk (below_step (by repeat (first | (with_reducible first | exact HB.out | apply below_alloc | apply pw_below_drewN | apply below_drew1) | exact HB.out)) hb); clear HO_6; clear HO_10; clear HO_11; clear HO928; clear HB; have HO_6 := n0_; have HO_10 := n1_; have HO_11 := n2_; have HO928 := n3_; have HO932 := n4_; have HB := n5_; clear n0_ n1_ n2_ n3_ n4_ n5_; (try clear hb); (try clear hb2); (try clear hk); (try clear hi); (try clear ho0)) | ((with_reducible refine gate_callee (f := 32) rfl ?_); refine goesL_ (some 117) rfl rfl Tryd.func32 (by kernel_rfl) rfl #[.string t893] rfl (by (try simp only [List.map_toArray, List.map_cons, List.map_nil]); first | done | rfl | (simp only [List.length_drop, List.length_take]; rfl)) ?_; (with_reducible refine (parse_Substrings.calls t893 t933 t934 _ A53.out).mono ?_); rintro e w91 ⟨v935, rfl, ho0, hb⟩; refine ⟨_, rfl, ?_⟩; have n0_ := Aside0.mk (Kd.R_below (by (with_reducible repeat (first | apply Kd.R_alloc | apply Kd.R_drewN | apply Kd.R_drew)); exact HO_6.out) hb); have n1_ := Aside0.mk (Kd.R_elder' (by (with_reducible repeat (first | apply Kd.R_alloc | apply Kd.R_drewN | apply Kd.R_drew)); exact HO_10.out) (Kd.R_base ho0) hb); have n2_ := Aside0.mk (Kd.R_elder' (by (with_reducible repeat (first | apply Kd.R_alloc | apply Kd.R_drewN | apply Kd.R_drew)); exact HO_11.out) (Kd.R_base ho0) hb); have n3_ := Aside0.mk (Kd.R_below (by (with_reducible repeat (first | apply Kd.R_alloc | apply Kd.R_drewN | apply Kd.R_drew)); exact HO928.out) hb); have n4_ := Aside0.mk (Kd.R_elder' (by (with_reducible repeat (first | apply Kd.R_alloc | apply Kd.R_drewN | apply Kd.R_drew)); exact HO932.out) (Kd.R_base ho0) hb); have n5_ := Aside0.mk (Kd.R_lower (Kd.R_new' (Kd.R_new' (Kd.R_new' ho0 (Kd.R_lt (by (with_reducible repeat (first | apply Kd.R_alloc | apply Kd.R_drewN | apply Kd.R_drew)); exact HO_10.out))) (Kd.R_lt (by (with_reducible repeat (first | apply Kd.R_alloc | apply Kd.R_drewN | apply Kd.R_drew)); exact HO_11.out))) (Kd.R_lt (by (with_reducible repeat (first | apply Kd.R_alloc | apply Kd.R_drewN | apply Kd.R_drew)); exact HO932.out))) (below_size (by repeat (first | (with_reducible first | exact HB.out | apply below_alloc | apply pw_below_drewN | apply below_drew1) | exact HB.out)))); have n6_ := Aside0.mk (below_step (by repeat (first | (with_reducible first | exact HB.out | apply below_alloc | apply pw_below_drewN | apply below_drew1) | exact HB.out)) hb); clear HO_6; clear HO_10; clear HO_11; clear HO928; clear HO932; clear HB; have HO_6 := n0_; have HO_10 := n1_; have HO_11 := n2_; have HO928 := n3_; have HO932 := n4_; have HO936 := n5_; have HB := n6_; clear n0_ n1_ n2_ n3_ n4_ n5_ n6_; (try clear hb); (try clear hb2); (try clear hk); (try clear hi); (try clear ho0); obtain ⟨Ao92, co92, eo92⟩ := Kd.R_slice HO928.out; subst eo92; obtain ⟨Ao93, co93, eo93⟩ := Kd.R_slice HO_6.out; subst eo93) | (go_at_call 26; (with_reducible refine (numnahref09_Same.calls k4 _ _ t925 _ _ t898 true _ ?side1 ?side2 ?side3 ?side4 A57.out).mono ?_); (case side1 => repeat (first | exact (Kd.R_reads' HO928.out).2.2 | (with_reducible refine Kd.C_alloc ?_ _) | (with_reducible refine Kd.C_drewN ?_ _) | (with_reducible refine Kd.C_drew ?_))); (case side2 => exact (Kd.R_reads' HO928.out).2.1); (case side3 => repeat (first | exact (Kd.R_reads' HO_6.out).2.2 | (with_reducible refine Kd.C_alloc ?_ _) | (with_reducible refine Kd.C_drewN ?_ _) | (with_reducible refine Kd.C_drew ?_))); (case side4 => exact (Kd.R_reads' HO_6.out).2.1); rintro e w' ⟨rfl, ⟨nd, rfl⟩⟩; obtain ⟨Ao94, co94, eo94⟩ := Kd.R_slice HO932.out; subst eo94; obtain ⟨Ao95, co95, eo95⟩ := Kd.R_slice HO_10.out; subst eo95) | (go_at_call 41; (with_reducible refine (numnahlaw09_ints.calls k4 _ _ t929 _ _ t910 false _ ?side1 ?side2 ?side3 ?side4 A59.out).mono ?_); (case side1 => repeat (first | exact (Kd.R_reads' HO932.out).2.2 | (with_reducible refine Kd.C_alloc ?_ _) | (with_reducible refine Kd.C_drewN ?_ _) | (with_reducible refine Kd.C_drew ?_))); (case side2 => exact (Kd.R_reads' HO932.out).2.1); (case side3 => repeat (first | exact (Kd.R_reads' HO_10.out).2.2 | (with_reducible refine Kd.C_alloc ?_ _) | (with_reducible refine Kd.C_drewN ?_ _) | (with_reducible refine Kd.C_drew ?_))); (case side4 => exact (Kd.R_reads' HO_10.out).2.1); rintro e w' ⟨rfl, ⟨nd, rfl⟩⟩))
                  go_ret
                  exact ⟨by first | rfl | (simp [errW_none, errW_some] <;> rfl) | (simp [*, errW_none, errW_some] <;> rfl), by repeat (first | (with_reducible first | exact HB.out | apply below_alloc | apply pw_below_drewN | apply below_drew1) | exact HB.out)⟩
                ·replace c58 := Bool.eq_false_iff.mpr c58
                 subst c58
                 have H1 : (some false) = some r := by rw [if_neg (show ¬ (false = true) by decide)] at H; exact H
                 clear H
                 have H := H1
                 clear H1
                 obtain rfl := Option.some.inj H
                 obtain ⟨Ao96, co96, eo96⟩ := Kd.R_slice HO_11.out
                 subst eo96
                 go_wp2_with (first | ((with_reducible refine gate_callee (f := 22) rfl ?_); refine goesL_ (some 107) rfl rfl Tryd.func22 (by kernel_rfl) rfl #[.string t893] rfl (by (try simp only [List.map_toArray, List.map_cons, List.map_nil]); first | done | rfl | (simp only [List.length_drop, List.length_take]; rfl)) ?_; (with_reducible refine (parse_Copying.calls (hG := ?hg) t893 t925 t926 _ A51.out).mono ?_); (case hg => exact gw_now hG (by repeat (first | (with_reducible first | exact HB.out | apply below_alloc | apply pw_below_drewN | apply below_drew1) | exact HB.out))); rintro e w97 ⟨v927, rfl, ho0, hb⟩; refine ⟨_, rfl, ?_⟩; have n0_ := Aside0.mk (Kd.R_elder' (by (with_reducible repeat (first | apply Kd.R_alloc | apply Kd.R_drewN | apply Kd.R_drew)); exact HO_6.out) (Kd.R_base ho0) hb); have n1_ := Aside0.mk (Kd.R_below (by (with_reducible repeat (first | apply Kd.R_alloc | apply Kd.R_drewN | apply Kd.R_drew)); exact HO_10.out) hb); have n2_ := Aside0.mk (Kd.R_below (by (with_reducible repeat (first | apply Kd.R_alloc | apply Kd.R_drewN | apply Kd.R_drew)); exact HO_11.out) hb); have n3_ := Aside0.mk (Kd.R_lower (Kd.R_new' ho0 (Kd.R_lt (by (with_reducible repeat (first | apply Kd.R_alloc | apply Kd.R_drewN | apply Kd.R_drew)); exact HO_6.out))) (below_size (by repeat (first | (with_reducible first | exact HB.out | apply below_alloc | apply pw_below_drewN | apply below_drew1) | exact HB.out)))); have n4_ := Aside0.mk (below_step (by repeat (first | (with_reducible first | exact HB.out | apply below_alloc | apply pw_below_drewN | apply below_drew1) | exact HB.out)) hb); clear HO_6; clear HO_10; clear HO_11; clear HB; have HO_6 := n0_; have HO_10 := n1_; have HO_11 := n2_; have HO928 := n3_; have HB := n4_; clear n0_ n1_ n2_ n3_ n4_; (try clear hb); (try clear hb2); (try clear hk); (try clear hi); (try clear ho0)) | ((with_reducible refine gate_callee (f := 40) rfl ?_); refine goesL_ (some 112) rfl rfl Tryd.func40 (by kernel_rfl) rfl #[.string t893] rfl (by (try simp only [List.map_toArray, List.map_cons, List.map_nil]); first | done | rfl | (simp only [List.length_drop, List.length_take]; rfl)) ?_; (with_reducible refine (parse_Fewest.calls t893 t929 t930 _ A52.out).mono ?_); rintro e w98 ⟨v931, rfl, ho0, hb⟩; refine ⟨_, rfl, ?_⟩; have n0_ := Aside0.mk (Kd.R_below (by (with_reducible repeat (first | apply Kd.R_alloc | apply Kd.R_drewN | apply Kd.R_drew)); exact HO_6.out) hb); have n1_ := Aside0.mk (Kd.R_elder' (by (with_reducible repeat (first | apply Kd.R_alloc | apply Kd.R_drewN | apply Kd.R_drew)); exact HO_10.out) (Kd.R_base ho0) hb); have n2_ := Aside0.mk (Kd.R_elder' (by (with_reducible repeat (first | apply Kd.R_alloc | apply Kd.R_drewN | apply Kd.R_drew)); exact HO_11.out) (Kd.R_base ho0) hb); have n3_ := Aside0.mk (Kd.R_below (by (with_reducible repeat (first | apply Kd.R_alloc | apply Kd.R_drewN | apply Kd.R_drew)); exact HO928.out) hb); have n4_ := Aside0.mk (Kd.R_lower (Kd.R_new' (Kd.R_new' ho0 (Kd.R_lt (by (with_reducible repeat (first | apply Kd.R_alloc | apply Kd.R_drewN | apply Kd.R_drew)); exact HO_10.out))) (Kd.R_lt (by (with_reducible repeat (first | apply Kd.R_alloc | apply Kd.R_drewN | apply Kd.R_drew)); exact HO_11.out))) (below_size (by repeat (first | (with_reducible first | exact HB.out | apply below_alloc | apply pw_below_drewN | apply below_drew1) | exact HB.out)))); have n5_ := Aside0.mk (below_step (by repeat (first | (with_reducible first | exact HB.out | apply below_alloc | apply pw_below_drewN | apply below_drew1) | exact HB.out)) hb); clear HO_6; clear HO_10; clear HO_11; clear HO928; clear HB; have HO_6 := n0_; have HO_10 := n1_; have HO_11 := n2_; have HO928 := n3_; have HO932 := n4_; have HB := n5_; clear n0_ n1_ n2_ n3_ n4_ n5_; (try clear hb); (try clear hb2); (try clear hk); (try clear hi); (try clear ho0)) | ((with_reducible refine gate_callee (f := 32) rfl ?_); refine goesL_ (some 117) rfl rfl Tryd.func32 (by kernel_rfl) rfl #[.string t893] rfl (by (try simp only [List.map_toArray, List.map_cons, List.map_nil]); first | done | rfl | (simp only [List.length_drop, List.length_take]; rfl)) ?_; (with_reducible refine (parse_Substrings.calls t893 t933 t934 _ A53.out).mono ?_); rintro e w99 ⟨v935, rfl, ho0, hb⟩; refine ⟨_, rfl, ?_⟩; have n0_ := Aside0.mk (Kd.R_below (by (with_reducible repeat (first | apply Kd.R_alloc | apply Kd.R_drewN | apply Kd.R_drew)); exact HO_6.out) hb); have n1_ := Aside0.mk (Kd.R_elder' (by (with_reducible repeat (first | apply Kd.R_alloc | apply Kd.R_drewN | apply Kd.R_drew)); exact HO_10.out) (Kd.R_base ho0) hb); have n2_ := Aside0.mk (Kd.R_elder' (by (with_reducible repeat (first | apply Kd.R_alloc | apply Kd.R_drewN | apply Kd.R_drew)); exact HO_11.out) (Kd.R_base ho0) hb); have n3_ := Aside0.mk (Kd.R_below (by (with_reducible repeat (first | apply Kd.R_alloc | apply Kd.R_drewN | apply Kd.R_drew)); exact HO928.out) hb); have n4_ := Aside0.mk (Kd.R_elder' (by (with_reducible repeat (first | apply Kd.R_alloc | apply Kd.R_drewN | apply Kd.R_drew)); exact HO932.out) (Kd.R_base ho0) hb); have n5_ := Aside0.mk (Kd.R_lower (Kd.R_new' (Kd.R_new' (Kd.R_new' ho0 (Kd.R_lt (by (with_reducible repeat (first | apply Kd.R_alloc | apply Kd.R_drewN | apply Kd.R_drew)); exact HO_10.out))) (Kd.R_lt (by (with_reducible repeat (first | apply Kd.R_alloc | apply Kd.R_drewN | apply Kd.R_drew)); exact HO_11.out))) (Kd.R_lt (by (with_reducible repeat (first | apply Kd.R_alloc | apply Kd.R_drewN | apply Kd.R_drew)); exact HO932.out))) (below_size (by repeat (first | (with_reducible first | exact HB.out | apply below_alloc | apply pw_below_drewN | apply below_drew1) | exact HB.out)))); have n6_ := Aside0.mk (below_step (by repeat (first | (with_reducible first | exact HB.out | apply below_alloc | apply pw_below_drewN | apply below_drew1) | exact HB.out)) hb); clear HO_6; clear HO_10; clear HO_11; clear HO928; clear HO932; clear HB; have HO_6 := n0_; have HO_10 := n1_; have HO_11 := n2_; have HO928 := n3_; have HO932 := n4_; have HO936 := n5_; have HB := n6_; clear n0_ n1_ n2_ n3_ n4_ n5_ n6_; (try clear hb); (try clear hb2); (try clear hk); (try clear hi); (try clear ho0); obtain ⟨Ao100, co100, eo100⟩ := Kd.R_slice HO928.out; subst eo100; obtain ⟨Ao101, co101, eo101⟩ := Kd.R_slice HO_6.out; subst eo101) | (go_at_call 26; (with_reducible refine (numnahref09_Same.calls k4 _ _ t925 _ _ t898 false _ ?side1 ?side2 ?side3 ?side4 A57.out).mono ?_); (case side1 => repeat (first | exact (Kd.R_reads' HO928.out).2.2 | (with_reducible refine Kd.C_alloc ?_ _) | (with_reducible refine Kd.C_drewN ?_ _) | (with_reducible refine Kd.C_drew ?_))); (case side2 => exact (Kd.R_reads' HO928.out).2.1); (case side3 => repeat (first | exact (Kd.R_reads' HO_6.out).2.2 | (with_reducible refine Kd.C_alloc ?_ _) | (with_reducible refine Kd.C_drewN ?_ _) | (with_reducible refine Kd.C_drew ?_))); (case side4 => exact (Kd.R_reads' HO_6.out).2.1); rintro e w' ⟨rfl, ⟨nd, rfl⟩⟩))
                 go_ret
                 exact ⟨by first | rfl | (simp [errW_none, errW_some] <;> rfl) | (simp [*, errW_none, errW_some] <;> rfl), by repeat (first | (with_reducible first | exact HB.out | apply below_alloc | apply pw_below_drewN | apply below_drew1) | exact HB.out)⟩
               ·rw [if_neg c56] at H
                have c56b0 : (t934 == 0) = false := beq_eq_false_iff_ne.mpr c56
                have c56b1 : (t934 != 0) = true := bne_iff_ne.mpr c56
                obtain rfl := Option.some.inj H
                obtain ⟨Ao102, co102, eo102⟩ := Kd.R_slice HO_11.out
                subst eo102
                go_wp2_with (first | ((with_reducible refine gate_callee (f := 22) rfl ?_); refine goesL_ (some 107) rfl rfl Tryd.func22 (by kernel_rfl) rfl #[.string t893] rfl (by (try simp only [List.map_toArray, List.map_cons, List.map_nil]); first | done | rfl | (simp only [List.length_drop, List.length_take]; rfl)) ?_; (with_reducible refine (parse_Copying.calls (hG := ?hg) t893 t925 t926 _ A51.out).mono ?_); (case hg => exact gw_now hG (by repeat (first | (with_reducible first | exact HB.out | apply below_alloc | apply pw_below_drewN | apply below_drew1) | exact HB.out))); rintro e w103 ⟨v927, rfl, ho0, hb⟩; refine ⟨_, rfl, ?_⟩; have n0_ := Aside0.mk (Kd.R_elder' (by (with_reducible repeat (first | apply Kd.R_alloc | apply Kd.R_drewN | apply Kd.R_drew)); exact HO_6.out) (Kd.R_base ho0) hb); have n1_ := Aside0.mk (Kd.R_below (by (with_reducible repeat (first | apply Kd.R_alloc | apply Kd.R_drewN | apply Kd.R_drew)); exact HO_10.out) hb); have n2_ := Aside0.mk (Kd.R_below (by (with_reducible repeat (first | apply Kd.R_alloc | apply Kd.R_drewN | apply Kd.R_drew)); exact HO_11.out) hb); have n3_ := Aside0.mk (Kd.R_lower (Kd.R_new' ho0 (Kd.R_lt (by (with_reducible repeat (first | apply Kd.R_alloc | apply Kd.R_drewN | apply Kd.R_drew)); exact HO_6.out))) (below_size (by repeat (first | (with_reducible first | exact HB.out | apply below_alloc | apply pw_below_drewN | apply below_drew1) | exact HB.out)))); have n4_ := Aside0.mk (below_step (by repeat (first | (with_reducible first | exact HB.out | apply below_alloc | apply pw_below_drewN | apply below_drew1) | exact HB.out)) hb); clear HO_6; clear HO_10; clear HO_11; clear HB; have HO_6 := n0_; have HO_10 := n1_; have HO_11 := n2_; have HO928 := n3_; have HB := n4_; clear n0_ n1_ n2_ n3_ n4_; (try clear hb); (try clear hb2); (try clear hk); (try clear hi); (try clear ho0)) | ((with_reducible refine gate_callee (f := 40) rfl ?_); refine goesL_ (some 112) rfl rfl Tryd.func40 (by kernel_rfl) rfl #[.string t893] rfl (by (try simp only [List.map_toArray, List.map_cons, List.map_nil]); first | done | rfl | (simp only [List.length_drop, List.length_take]; rfl)) ?_; (with_reducible refine (parse_Fewest.calls t893 t929 t930 _ A52.out).mono ?_); rintro e w104 ⟨v931, rfl, ho0, hb⟩; refine ⟨_, rfl, ?_⟩; have n0_ := Aside0.mk (Kd.R_below (by (with_reducible repeat (first | apply Kd.R_alloc | apply Kd.R_drewN | apply Kd.R_drew)); exact HO_6.out) hb); have n1_ := Aside0.mk (Kd.R_elder' (by (with_reducible repeat (first | apply Kd.R_alloc | apply Kd.R_drewN | apply Kd.R_drew)); exact HO_10.out) (Kd.R_base ho0) hb); have n2_ := Aside0.mk (Kd.R_elder' (by (with_reducible repeat (first | apply Kd.R_alloc | apply Kd.R_drewN | apply Kd.R_drew)); exact HO_11.out) (Kd.R_base ho0) hb); have n3_ := Aside0.mk (Kd.R_below (by (with_reducible repeat (first | apply Kd.R_alloc | apply Kd.R_drewN | apply Kd.R_drew)); exact HO928.out) hb); have n4_ := Aside0.mk (Kd.R_lower (Kd.R_new' (Kd.R_new' ho0 (Kd.R_lt (by (with_reducible repeat (first | apply Kd.R_alloc | apply Kd.R_drewN | apply Kd.R_drew)); exact HO_10.out))) (Kd.R_lt (by (with_reducible repeat (first | apply Kd.R_alloc | apply Kd.R_drewN | apply Kd.R_drew)); exact HO_11.out))) (below_size (by repeat (first | (with_reducible first | exact HB.out | apply below_alloc | apply pw_below_drewN | apply below_drew1) | exact HB.out)))); have n5_ := Aside0.mk (below_step (by repeat (first | (with_reducible first | exact HB.out | apply below_alloc | apply pw_below_drewN | apply below_drew1) | exact HB.out)) hb); clear HO_6; clear HO_10; clear HO_11; clear HO928; clear HB; have HO_6 := n0_; have HO_10 := n1_; have HO_11 := n2_; have HO928 := n3_; have HO932 := n4_; have HB := n5_; clear n0_ n1_ n2_ n3_ n4_ n5_; (try clear hb); (try clear hb2); (try clear hk); (try clear hi); (try clear ho0)) | ((with_reducible refine gate_callee (f := 32) rfl ?_); refine goesL_ (some 117) rfl rfl Tryd.func32 (by kernel_rfl) rfl #[.string t893] rfl (by (try simp only [List.map_toArray, List.map_cons, List.map_nil]); first | done | rfl | (simp only [List.length_drop, List.length_take]; rfl)) ?_; (with_reducible refine (parse_Substrings.calls t893 t933 t934 _ A53.out).mono ?_); rintro e w105 ⟨v935, rfl, ho0, hb⟩; refine ⟨_, rfl, ?_⟩; have n0_ := Aside0.mk (Kd.R_below (by (with_reducible repeat (first | apply Kd.R_alloc | apply Kd.R_drewN | apply Kd.R_drew)); exact HO_6.out) hb); have n1_ := Aside0.mk (Kd.R_elder' (by (with_reducible repeat (first | apply Kd.R_alloc | apply Kd.R_drewN | apply Kd.R_drew)); exact HO_10.out) (Kd.R_base ho0) hb); have n2_ := Aside0.mk (Kd.R_elder' (by (with_reducible repeat (first | apply Kd.R_alloc | apply Kd.R_drewN | apply Kd.R_drew)); exact HO_11.out) (Kd.R_base ho0) hb); have n3_ := Aside0.mk (Kd.R_below (by (with_reducible repeat (first | apply Kd.R_alloc | apply Kd.R_drewN | apply Kd.R_drew)); exact HO928.out) hb); have n4_ := Aside0.mk (Kd.R_elder' (by (with_reducible repeat (first | apply Kd.R_alloc | apply Kd.R_drewN | apply Kd.R_drew)); exact HO932.out) (Kd.R_base ho0) hb); have n5_ := Aside0.mk (Kd.R_lower (Kd.R_new' (Kd.R_new' (Kd.R_new' ho0 (Kd.R_lt (by (with_reducible repeat (first | apply Kd.R_alloc | apply Kd.R_drewN | apply Kd.R_drew)); exact HO_10.out))) (Kd.R_lt (by (with_reducible repeat (first | apply Kd.R_alloc | apply Kd.R_drewN | apply Kd.R_drew)); exact HO_11.out))) (Kd.R_lt (by (with_reducible repeat (first | apply Kd.R_alloc | apply Kd.R_drewN | apply Kd.R_drew)); exact HO932.out))) (below_size (by repeat (first | (with_reducible first | exact HB.out | apply below_alloc | apply pw_below_drewN | apply below_drew1) | exact HB.out)))); have n6_ := Aside0.mk (below_step (by repeat (first | (with_reducible first | exact HB.out | apply below_alloc | apply pw_below_drewN | apply below_drew1) | exact HB.out)) hb); clear HO_6; clear HO_10; clear HO_11; clear HO928; clear HO932; clear HB; have HO_6 := n0_; have HO_10 := n1_; have HO_11 := n2_; have HO928 := n3_; have HO932 := n4_; have HO936 := n5_; have HB := n6_; clear n0_ n1_ n2_ n3_ n4_ n5_ n6_; (try clear hb); (try clear hb2); (try clear hk); (try clear hi); (try clear ho0)))
                go_ret
                exact ⟨by first | rfl | (simp [errW_none, errW_some] <;> rfl) | (simp [*, errW_none, errW_some] <;> rfl), by repeat (first | (with_reducible first | exact HB.out | apply below_alloc | apply pw_below_drewN | apply below_drew1) | exact HB.out)⟩
              ·rw [if_neg c55] at H
               have c55b0 : (t930 == 0) = false := beq_eq_false_iff_ne.mpr c55
               have c55b1 : (t930 != 0) = true := bne_iff_ne.mpr c55
               obtain rfl := Option.some.inj H
               obtain ⟨Ao106, co106, eo106⟩ := Kd.R_slice HO_11.out
               subst eo106
               go_wp2_with (first | ((with_reducible refine gate_callee (f := 22) rfl ?_); refine goesL_ (some 107) rfl rfl Tryd.func22 (by kernel_rfl) rfl #[.string t893] rfl (by (try simp only [List.map_toArray, List.map_cons, List.map_nil]); first | done | rfl | (simp only [List.length_drop, List.length_take]; rfl)) ?_; (with_reducible refine (parse_Copying.calls (hG := ?hg) t893 t925 t926 _ A51.out).mono ?_); (case hg => exact gw_now hG (by repeat (first | (with_reducible first | exact HB.out | apply below_alloc | apply pw_below_drewN | apply below_drew1) | exact HB.out))); rintro e w107 ⟨v927, rfl, ho0, hb⟩; refine ⟨_, rfl, ?_⟩; have n0_ := Aside0.mk (Kd.R_elder' (by (with_reducible repeat (first | apply Kd.R_alloc | apply Kd.R_drewN | apply Kd.R_drew)); exact HO_6.out) (Kd.R_base ho0) hb); have n1_ := Aside0.mk (Kd.R_below (by (with_reducible repeat (first | apply Kd.R_alloc | apply Kd.R_drewN | apply Kd.R_drew)); exact HO_10.out) hb); have n2_ := Aside0.mk (Kd.R_below (by (with_reducible repeat (first | apply Kd.R_alloc | apply Kd.R_drewN | apply Kd.R_drew)); exact HO_11.out) hb); have n3_ := Aside0.mk (Kd.R_lower (Kd.R_new' ho0 (Kd.R_lt (by (with_reducible repeat (first | apply Kd.R_alloc | apply Kd.R_drewN | apply Kd.R_drew)); exact HO_6.out))) (below_size (by repeat (first | (with_reducible first | exact HB.out | apply below_alloc | apply pw_below_drewN | apply below_drew1) | exact HB.out)))); have n4_ := Aside0.mk (below_step (by repeat (first | (with_reducible first | exact HB.out | apply below_alloc | apply pw_below_drewN | apply below_drew1) | exact HB.out)) hb); clear HO_6; clear HO_10; clear HO_11; clear HB; have HO_6 := n0_; have HO_10 := n1_; have HO_11 := n2_; have HO928 := n3_; have HB := n4_; clear n0_ n1_ n2_ n3_ n4_; (try clear hb); (try clear hb2); (try clear hk); (try clear hi); (try clear ho0)) | ((with_reducible refine gate_callee (f := 40) rfl ?_); refine goesL_ (some 112) rfl rfl Tryd.func40 (by kernel_rfl) rfl #[.string t893] rfl (by (try simp only [List.map_toArray, List.map_cons, List.map_nil]); first | done | rfl | (simp only [List.length_drop, List.length_take]; rfl)) ?_; (with_reducible refine (parse_Fewest.calls t893 t929 t930 _ A52.out).mono ?_); rintro e w108 ⟨v931, rfl, ho0, hb⟩; refine ⟨_, rfl, ?_⟩; have n0_ := Aside0.mk (Kd.R_below (by (with_reducible repeat (first | apply Kd.R_alloc | apply Kd.R_drewN | apply Kd.R_drew)); exact HO_6.out) hb); have n1_ := Aside0.mk (Kd.R_elder' (by (with_reducible repeat (first | apply Kd.R_alloc | apply Kd.R_drewN | apply Kd.R_drew)); exact HO_10.out) (Kd.R_base ho0) hb); have n2_ := Aside0.mk (Kd.R_elder' (by (with_reducible repeat (first | apply Kd.R_alloc | apply Kd.R_drewN | apply Kd.R_drew)); exact HO_11.out) (Kd.R_base ho0) hb); have n3_ := Aside0.mk (Kd.R_below (by (with_reducible repeat (first | apply Kd.R_alloc | apply Kd.R_drewN | apply Kd.R_drew)); exact HO928.out) hb); have n4_ := Aside0.mk (Kd.R_lower (Kd.R_new' (Kd.R_new' ho0 (Kd.R_lt (by (with_reducible repeat (first | apply Kd.R_alloc | apply Kd.R_drewN | apply Kd.R_drew)); exact HO_10.out))) (Kd.R_lt (by (with_reducible repeat (first | apply Kd.R_alloc | apply Kd.R_drewN | apply Kd.R_drew)); exact HO_11.out))) (below_size (by repeat (first | (with_reducible first | exact HB.out | apply below_alloc | apply pw_below_drewN | apply below_drew1) | exact HB.out)))); have n5_ := Aside0.mk (below_step (by repeat (first | (with_reducible first | exact HB.out | apply below_alloc | apply pw_below_drewN | apply below_drew1) | exact HB.out)) hb); clear HO_6; clear HO_10; clear HO_11; clear HO928; clear HB; have HO_6 := n0_; have HO_10 := n1_; have HO_11 := n2_; have HO928 := n3_; have HO932 := n4_; have HB := n5_; clear n0_ n1_ n2_ n3_ n4_ n5_; (try clear hb); (try clear hb2); (try clear hk); (try clear hi); (try clear ho0)) | ((with_reducible refine gate_callee (f := 32) rfl ?_); refine goesL_ (some 117) rfl rfl Tryd.func32 (by kernel_rfl) rfl #[.string t893] rfl (by (try simp only [List.map_toArray, List.map_cons, List.map_nil]); first | done | rfl | (simp only [List.length_drop, List.length_take]; rfl)) ?_; (with_reducible refine (parse_Substrings.calls t893 t933 t934 _ A53.out).mono ?_); rintro e w109 ⟨v935, rfl, ho0, hb⟩; refine ⟨_, rfl, ?_⟩; have n0_ := Aside0.mk (Kd.R_below (by (with_reducible repeat (first | apply Kd.R_alloc | apply Kd.R_drewN | apply Kd.R_drew)); exact HO_6.out) hb); have n1_ := Aside0.mk (Kd.R_elder' (by (with_reducible repeat (first | apply Kd.R_alloc | apply Kd.R_drewN | apply Kd.R_drew)); exact HO_10.out) (Kd.R_base ho0) hb); have n2_ := Aside0.mk (Kd.R_elder' (by (with_reducible repeat (first | apply Kd.R_alloc | apply Kd.R_drewN | apply Kd.R_drew)); exact HO_11.out) (Kd.R_base ho0) hb); have n3_ := Aside0.mk (Kd.R_below (by (with_reducible repeat (first | apply Kd.R_alloc | apply Kd.R_drewN | apply Kd.R_drew)); exact HO928.out) hb); have n4_ := Aside0.mk (Kd.R_elder' (by (with_reducible repeat (first | apply Kd.R_alloc | apply Kd.R_drewN | apply Kd.R_drew)); exact HO932.out) (Kd.R_base ho0) hb); have n5_ := Aside0.mk (Kd.R_lower (Kd.R_new' (Kd.R_new' (Kd.R_new' ho0 (Kd.R_lt (by (with_reducible repeat (first | apply Kd.R_alloc | apply Kd.R_drewN | apply Kd.R_drew)); exact HO_10.out))) (Kd.R_lt (by (with_reducible repeat (first | apply Kd.R_alloc | apply Kd.R_drewN | apply Kd.R_drew)); exact HO_11.out))) (Kd.R_lt (by (with_reducible repeat (first | apply Kd.R_alloc | apply Kd.R_drewN | apply Kd.R_drew)); exact HO932.out))) (below_size (by repeat (first | (with_reducible first | exact HB.out | apply below_alloc | apply pw_below_drewN | apply below_drew1) | exact HB.out)))); have n6_ := Aside0.mk (below_step (by repeat (first | (with_reducible first | exact HB.out | apply below_alloc | apply pw_below_drewN | apply below_drew1) | exact HB.out)) hb); clear HO_6; clear HO_10; clear HO_11; clear HO928; clear HO932; clear HB; have HO_6 := n0_; have HO_10 := n1_; have HO_11 := n2_; have HO928 := n3_; have HO932 := n4_; have HO936 := n5_; have HB := n6_; clear n0_ n1_ n2_ n3_ n4_ n5_ n6_; (try clear hb); (try clear hb2); (try clear hk); (try clear hi); (try clear ho0)))
               go_ret
               exact ⟨by first | rfl | (simp [errW_none, errW_some] <;> rfl) | (simp [*, errW_none, errW_some] <;> rfl), by repeat (first | (with_reducible first | exact HB.out | apply below_alloc | apply pw_below_drewN | apply below_drew1) | exact HB.out)⟩
             ·rw [if_neg c54] at H
              have c54b0 : (t926 == 0) = false := beq_eq_false_iff_ne.mpr c54
              have c54b1 : (t926 != 0) = true := bne_iff_ne.mpr c54
              obtain rfl := Option.some.inj H
              obtain ⟨Ao110, co110, eo110⟩ := Kd.R_slice HO_11.out
              subst eo110
              go_wp2_with (first | ((with_reducible refine gate_callee (f := 22) rfl ?_); refine goesL_ (some 107) rfl rfl Tryd.func22 (by kernel_rfl) rfl #[.string t893] rfl (by (try simp only [List.map_toArray, List.map_cons, List.map_nil]); first | done | rfl | (simp only [List.length_drop, List.length_take]; rfl)) ?_; (with_reducible refine (parse_Copying.calls (hG := ?hg) t893 t925 t926 _ A51.out).mono ?_); (case hg => exact gw_now hG (by repeat (first | (with_reducible first | exact HB.out | apply below_alloc | apply pw_below_drewN | apply below_drew1) | exact HB.out))); rintro e w111 ⟨v927, rfl, ho0, hb⟩; refine ⟨_, rfl, ?_⟩; have n0_ := Aside0.mk (Kd.R_elder' (by (with_reducible repeat (first | apply Kd.R_alloc | apply Kd.R_drewN | apply Kd.R_drew)); exact HO_6.out) (Kd.R_base ho0) hb); have n1_ := Aside0.mk (Kd.R_below (by (with_reducible repeat (first | apply Kd.R_alloc | apply Kd.R_drewN | apply Kd.R_drew)); exact HO_10.out) hb); have n2_ := Aside0.mk (Kd.R_below (by (with_reducible repeat (first | apply Kd.R_alloc | apply Kd.R_drewN | apply Kd.R_drew)); exact HO_11.out) hb); have n3_ := Aside0.mk (Kd.R_lower (Kd.R_new' ho0 (Kd.R_lt (by (with_reducible repeat (first | apply Kd.R_alloc | apply Kd.R_drewN | apply Kd.R_drew)); exact HO_6.out))) (below_size (by repeat (first | (with_reducible first | exact HB.out | apply below_alloc | apply pw_below_drewN | apply below_drew1) | exact HB.out)))); have n4_ := Aside0.mk (below_step (by repeat (first | (with_reducible first | exact HB.out | apply below_alloc | apply pw_below_drewN | apply below_drew1) | exact HB.out)) hb); clear HO_6; clear HO_10; clear HO_11; clear HB; have HO_6 := n0_; have HO_10 := n1_; have HO_11 := n2_; have HO928 := n3_; have HB := n4_; clear n0_ n1_ n2_ n3_ n4_; (try clear hb); (try clear hb2); (try clear hk); (try clear hi); (try clear ho0)) | ((with_reducible refine gate_callee (f := 40) rfl ?_); refine goesL_ (some 112) rfl rfl Tryd.func40 (by kernel_rfl) rfl #[.string t893] rfl (by (try simp only [List.map_toArray, List.map_cons, List.map_nil]); first | done | rfl | (simp only [List.length_drop, List.length_take]; rfl)) ?_; (with_reducible refine (parse_Fewest.calls t893 t929 t930 _ A52.out).mono ?_); rintro e w112 ⟨v931, rfl, ho0, hb⟩; refine ⟨_, rfl, ?_⟩; have n0_ := Aside0.mk (Kd.R_below (by (with_reducible repeat (first | apply Kd.R_alloc | apply Kd.R_drewN | apply Kd.R_drew)); exact HO_6.out) hb); have n1_ := Aside0.mk (Kd.R_elder' (by (with_reducible repeat (first | apply Kd.R_alloc | apply Kd.R_drewN | apply Kd.R_drew)); exact HO_10.out) (Kd.R_base ho0) hb); have n2_ := Aside0.mk (Kd.R_elder' (by (with_reducible repeat (first | apply Kd.R_alloc | apply Kd.R_drewN | apply Kd.R_drew)); exact HO_11.out) (Kd.R_base ho0) hb); have n3_ := Aside0.mk (Kd.R_below (by (with_reducible repeat (first | apply Kd.R_alloc | apply Kd.R_drewN | apply Kd.R_drew)); exact HO928.out) hb); have n4_ := Aside0.mk (Kd.R_lower (Kd.R_new' (Kd.R_new' ho0 (Kd.R_lt (by (with_reducible repeat (first | apply Kd.R_alloc | apply Kd.R_drewN | apply Kd.R_drew)); exact HO_10.out))) (Kd.R_lt (by (with_reducible repeat (first | apply Kd.R_alloc | apply Kd.R_drewN | apply Kd.R_drew)); exact HO_11.out))) (below_size (by repeat (first | (with_reducible first | exact HB.out | apply below_alloc | apply pw_below_drewN | apply below_drew1) | exact HB.out)))); have n5_ := Aside0.mk (below_step (by repeat (first | (with_reducible first | exact HB.out | apply below_alloc | apply pw_below_drewN | apply below_drew1) | exact HB.out)) hb); clear HO_6; clear HO_10; clear HO_11; clear HO928; clear HB; have HO_6 := n0_; have HO_10 := n1_; have HO_11 := n2_; have HO928 := n3_; have HO932 := n4_; have HB := n5_; clear n0_ n1_ n2_ n3_ n4_ n5_; (try clear hb); (try clear hb2); (try clear hk); (try clear hi); (try clear ho0)) | ((with_reducible refine gate_callee (f := 32) rfl ?_); refine goesL_ (some 117) rfl rfl Tryd.func32 (by kernel_rfl) rfl #[.string t893] rfl (by (try simp only [List.map_toArray, List.map_cons, List.map_nil]); first | done | rfl | (simp only [List.length_drop, List.length_take]; rfl)) ?_; (with_reducible refine (parse_Substrings.calls t893 t933 t934 _ A53.out).mono ?_); rintro e w113 ⟨v935, rfl, ho0, hb⟩; refine ⟨_, rfl, ?_⟩; have n0_ := Aside0.mk (Kd.R_below (by (with_reducible repeat (first | apply Kd.R_alloc | apply Kd.R_drewN | apply Kd.R_drew)); exact HO_6.out) hb); have n1_ := Aside0.mk (Kd.R_elder' (by (with_reducible repeat (first | apply Kd.R_alloc | apply Kd.R_drewN | apply Kd.R_drew)); exact HO_10.out) (Kd.R_base ho0) hb); have n2_ := Aside0.mk (Kd.R_elder' (by (with_reducible repeat (first | apply Kd.R_alloc | apply Kd.R_drewN | apply Kd.R_drew)); exact HO_11.out) (Kd.R_base ho0) hb); have n3_ := Aside0.mk (Kd.R_below (by (with_reducible repeat (first | apply Kd.R_alloc | apply Kd.R_drewN | apply Kd.R_drew)); exact HO928.out) hb); have n4_ := Aside0.mk (Kd.R_elder' (by (with_reducible repeat (first | apply Kd.R_alloc | apply Kd.R_drewN | apply Kd.R_drew)); exact HO932.out) (Kd.R_base ho0) hb); have n5_ := Aside0.mk (Kd.R_lower (Kd.R_new' (Kd.R_new' (Kd.R_new' ho0 (Kd.R_lt (by (with_reducible repeat (first | apply Kd.R_alloc | apply Kd.R_drewN | apply Kd.R_drew)); exact HO_10.out))) (Kd.R_lt (by (with_reducible repeat (first | apply Kd.R_alloc | apply Kd.R_drewN | apply Kd.R_drew)); exact HO_11.out))) (Kd.R_lt (by (with_reducible repeat (first | apply Kd.R_alloc | apply Kd.R_drewN | apply Kd.R_drew)); exact HO932.out))) (below_size (by repeat (first | (with_reducible first | exact HB.out | apply below_alloc | apply pw_below_drewN | apply below_drew1) | exact HB.out)))); have n6_ := Aside0.mk (below_step (by repeat (first | (with_reducible first | exact HB.out | apply below_alloc | apply pw_below_drewN | apply below_drew1) | exact HB.out)) hb); clear HO_6; clear HO_10; clear HO_11; clear HO928; clear HO932; clear HB; have HO_6 := n0_; have HO_10 := n1_; have HO_11 := n2_; have HO928 := n3_; have HO932 := n4_; have HO936 := n5_; have HB := n6_; clear n0_ n1_ n2_ n3_ n4_ n5_ n6_; (try clear hb); (try clear hb2); (try clear hk); (try clear hi); (try clear ho0)))
              go_ret
              exact ⟨by first | rfl | (simp [errW_none, errW_some] <;> rfl) | (simp [*, errW_none, errW_some] <;> rfl), by repeat (first | (with_reducible first | exact HB.out | apply below_alloc | apply pw_below_drewN | apply below_drew1) | exact HB.out)⟩

/-- THE ONE PURE STATEMENT of numnahlaw09_ParseOwn: yours. -/
def numnahlaw09_ParseOwn.Pure : Prop := ∀ (a0 : ByteArray), a0.size ≤ 140737488351232 → ∃ k, numnahlaw09_ParseOwn.f k a0 = some true
theorem numnahlaw09_ParseOwn.walk (P : numnahlaw09_ParseOwn.Pure) (a0 : ByteArray) (w : World) (hG : GW w) (w0 : a0.size ≤ 140737488351232) :
  Calls Tryd.prog 20 #[.string a0] w fun e w' => e = .returned (.bool true) ∧ Below w.heap.size w w' := by
 obtain ⟨k, h⟩ := P a0 w0
 refine (numnahlaw09_ParseOwn.calls (hG := hG) k a0 true w h).mono ?_
 rintro e w' ⟨rfl, hd⟩
 exact ⟨rfl, hd⟩

end Go.Proofs.YtpeeflkodpnbpaaDoor.Pr
-- indented by one
