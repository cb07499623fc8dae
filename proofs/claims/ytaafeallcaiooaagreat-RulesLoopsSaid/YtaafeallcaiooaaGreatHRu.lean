/- the reference's Rules says whether newLaws takes them; laws and few cut lists. -/
import Derived.Test.YtaafeallcaiooaaGreatPr0
import Derived.Test.YtaafeallcaiooaaGreatHPt
import Derived.Test.YtaafeallcaiooaaGreatHGt0
import Derived.Test.YtaafeallcaiooaaGreatPrB1
import Derived.Test.YtaafeallcaiooaaGreatHOt
import Derived.Test.YtaafeallcaiooaaGreatHAp
import Derived.Test.YtaafeallcaiooaaGreatHRt2
import Derived.Test.YtaafeallcaiooaaGreatPrA5
/- grow: terms made from strings. -/
-- Laid by wip/tools/inj.py of this project, which drives the kit's printer. Lean checks it.
namespace Go.Proofs.YtaafeallcaiooaaGreat.Pr
open Go.RowKit Go.Proofs.YtaafeallcaiooaaGreatW.PrintWords Go.Proofs.YtaafeallcaiooaaGreatW.PrintLast Go.Proofs.YtaafeallcaiooaaGreatW.PrintMore
attribute [local go_sem] max2_int min2_int max_two min_two max_three min_three max_four min_four   -- for this text's walks alone
set_option linter.unusedVariables false
set_option linter.unusedSimpArgs false

/-! ### numnahlaw08_grow: function 83 -/
mutual
def numnahlaw08_grow.j0 : Nat → ByteArray → Int → Int → Int → Bool → Option (ByteArray × Int)
 | 0, _, _, _, _, _ => none
 | k + 1, x0, x1, x2, x8, x31 => if x31 = true then (if 0 ≤ (Int.tmod x8 5) then (if (Int.tmod x8 5) ≤ (wrap64 ((Int.tmod x8 5) + 1)) then (if (wrap64 ((Int.tmod x8 5) + 1)) ≤ 5 then (some ((⟨#[97, 98, 120, 121, 122]⟩ : ByteArray).extract ((Int.tmod x8 5) : Int).toNat ((wrap64 ((Int.tmod x8 5) + 1)) : Int).toNat, wrap64 (x1 + 1))) else (none)) else (none)) else (none)) else (if 0 ≤ (wrap64 (x8 - 5)) then (if (wrap64 (x8 - 5)) ≤ (wrap64 (x8 - 4)) then (if (wrap64 (x8 - 4)) ≤ 6 then (if x8 < 8 then (numnahlaw08_grow.j1 k x0 x1 x2 x8 ((⟨#[99, 99, 100, 101, 101, 102]⟩ : ByteArray).extract ((wrap64 (x8 - 5)) : Int).toNat ((wrap64 (x8 - 4)) : Int).toNat) true) else (numnahlaw08_grow.j1 k x0 x1 x2 x8 ((⟨#[99, 99, 100, 101, 101, 102]⟩ : ByteArray).extract ((wrap64 (x8 - 5)) : Int).toNat ((wrap64 (x8 - 4)) : Int).toNat) (decide (x2 < 3)))) else (none)) else (none)) else (none))
def numnahlaw08_grow.j1 : Nat → ByteArray → Int → Int → Int → ByteArray → Bool → Option (ByteArray × Int)
 | 0, _, _, _, _, _, _ => none
 | k + 1, x0, x1, x2, x8, x9, x50 => if x50 = true then ((numnahlaw08_grow.f k x0 (wrap64 (x1 + 1)) (wrap64 (x2 - 1))).bind fun bt307 => (if x8 ≥ 8 then (if 1 + 1 ≤ 9223372036854775807 then (if 1 + bt307.1.size ≤ 9223372036854775807 then (if (((⟨#[100]⟩ : ByteArray) ++ (⟨#[40]⟩ : ByteArray)) ++ bt307.1).size + 1 ≤ 9223372036854775807 then (some ((((⟨#[100]⟩ : ByteArray) ++ (⟨#[40]⟩ : ByteArray)) ++ bt307.1) ++ (⟨#[41]⟩ : ByteArray), bt307.2)) else (none)) else (none)) else (none)) else (if x9.size + 1 ≤ 9223372036854775807 then (if (x9 ++ (⟨#[40]⟩ : ByteArray)).size + bt307.1.size ≤ 9223372036854775807 then (if ((x9 ++ (⟨#[40]⟩ : ByteArray)) ++ bt307.1).size + 1 ≤ 9223372036854775807 then (some (((x9 ++ (⟨#[40]⟩ : ByteArray)) ++ bt307.1) ++ (⟨#[41]⟩ : ByteArray), bt307.2)) else (none)) else (none)) else (none)))) else ((numnahlaw08_grow.f k x0 (wrap64 (x1 + 1)) (wrap64 (Int.tdiv (wrap64 (x2 - 1)) 2))).bind fun bt309 => ((numnahlaw08_grow.f k x0 bt309.2 (wrap64 ((wrap64 (x2 - 1)) - (wrap64 (Int.tdiv (wrap64 (x2 - 1)) 2))))).bind fun bt311 => (if x9.size + 1 ≤ 9223372036854775807 then (if (x9 ++ (⟨#[40]⟩ : ByteArray)).size + bt309.1.size ≤ 9223372036854775807 then (if ((x9 ++ (⟨#[40]⟩ : ByteArray)) ++ bt309.1).size + 1 ≤ 9223372036854775807 then (if (((x9 ++ (⟨#[40]⟩ : ByteArray)) ++ bt309.1) ++ (⟨#[44]⟩ : ByteArray)).size + bt311.1.size ≤ 9223372036854775807 then (if ((((x9 ++ (⟨#[40]⟩ : ByteArray)) ++ bt309.1) ++ (⟨#[44]⟩ : ByteArray)) ++ bt311.1).size + 1 ≤ 9223372036854775807 then (some (((((x9 ++ (⟨#[40]⟩ : ByteArray)) ++ bt309.1) ++ (⟨#[44]⟩ : ByteArray)) ++ bt311.1) ++ (⟨#[41]⟩ : ByteArray), bt311.2)) else (none)) else (none)) else (none)) else (none)) else (none))))
def numnahlaw08_grow.f : Nat → ByteArray → Int → Int → Option (ByteArray × Int)
 | 0, _, _, _ => none
 | k + 1, a0, a1, a2 => if a1 ≥ (a0.size : Int) then (some ((⟨#[97]⟩ : ByteArray), a1)) else (if 0 ≤ a1 then (if a1 < (a0.size : Int) then (if a2 < 2 then (numnahlaw08_grow.j0 k a0 a1 a2 (Int.tmod (wrap64 (bt a0 a1)) 11) true) else (numnahlaw08_grow.j0 k a0 a1 a2 (Int.tmod (wrap64 (bt a0 a1)) 11) (decide ((Int.tmod (wrap64 (bt a0 a1)) 11) < 5)))) else (none)) else (none))
end
theorem numnahlaw08_grow.mono_l : ∀ k, (∀ y0 y1 y2, LeO (numnahlaw08_grow.f k y0 y1 y2) (numnahlaw08_grow.f (k + 1) y0 y1 y2)) ∧ (∀ y0 y1 y2 y3 y4, LeO (numnahlaw08_grow.j0 k y0 y1 y2 y3 y4) (numnahlaw08_grow.j0 (k + 1) y0 y1 y2 y3 y4)) ∧ (∀ y0 y1 y2 y3 y4 y5, LeO (numnahlaw08_grow.j1 k y0 y1 y2 y3 y4 y5) (numnahlaw08_grow.j1 (k + 1) y0 y1 y2 y3 y4 y5))
 | 0 => ⟨fun _ _ _ r h => by simp [numnahlaw08_grow.f] at h, fun _ _ _ _ _ r h => by simp [numnahlaw08_grow.j0] at h, fun _ _ _ _ _ _ r h => by simp [numnahlaw08_grow.j1] at h⟩
 | k + 1 => by
  obtain ⟨ih0, ih1, ih2⟩ := numnahlaw08_grow.mono_l k
  refine ⟨?_, ?_, ?_⟩
  ·intro y0 y1 y2
   unfold numnahlaw08_grow.f
   repeat' first
   | (with_reducible exact ih0 _ _ _)
   | (with_reducible exact ih1 _ _ _ _ _)
   | (with_reducible exact ih2 _ _ _ _ _ _)
   | (with_reducible exact LeO.refl _)
   | (with_reducible exact LeO.none _)
   | (with_reducible refine LeO.ite ?_ ?_)
   | (with_reducible refine LeO.bind ?_ (fun _ => ?_))
   | exact ih0 _ _ _
   | exact ih1 _ _ _ _ _
   | exact ih2 _ _ _ _ _ _
   | exact LeO.none _
   | refine LeO.ite ?_ ?_
   | refine LeO.bind ?_ (fun _ => ?_)
  ·intro y0 y1 y2 y3 y4
   unfold numnahlaw08_grow.j0
   repeat' first
   | (with_reducible exact ih0 _ _ _)
   | (with_reducible exact ih1 _ _ _ _ _)
   | (with_reducible exact ih2 _ _ _ _ _ _)
   | (with_reducible exact LeO.refl _)
   | (with_reducible exact LeO.none _)
   | (with_reducible refine LeO.ite ?_ ?_)
   | (with_reducible refine LeO.bind ?_ (fun _ => ?_))
   | exact ih0 _ _ _
   | exact ih1 _ _ _ _ _
   | exact ih2 _ _ _ _ _ _
   | exact LeO.none _
   | refine LeO.ite ?_ ?_
   | refine LeO.bind ?_ (fun _ => ?_)
  ·intro y0 y1 y2 y3 y4 y5
   unfold numnahlaw08_grow.j1
   repeat' first
   | (with_reducible exact ih0 _ _ _)
   | (with_reducible exact ih1 _ _ _ _ _)
   | (with_reducible exact ih2 _ _ _ _ _ _)
   | (with_reducible exact LeO.refl _)
   | (with_reducible exact LeO.none _)
   | (with_reducible refine LeO.ite ?_ ?_)
   | (with_reducible refine LeO.bind ?_ (fun _ => ?_))
   | exact ih0 _ _ _
   | exact ih1 _ _ _ _ _
   | exact ih2 _ _ _ _ _ _
   | exact LeO.none _
   | refine LeO.ite ?_ ?_
   | refine LeO.bind ?_ (fun _ => ?_)
theorem numnahlaw08_grow.mono : ∀ a0 a1 a2 k, LeO (numnahlaw08_grow.f k a0 a1 a2) (numnahlaw08_grow.f (k + 1) a0 a1 a2) := by
 intro a0 a1 a2 k
 obtain ⟨ih0, ih1, ih2⟩ := numnahlaw08_grow.mono_l k
 exact ih0 a0 a1 a2
/-! ### numnahlaw08_term: function 33 -/
def numnahlaw08_term.f (k : Nat) (a0 : ByteArray) (a1 : Int) : Option (ByteArray) := (numnahlaw08_grow.f k a0 0 a1).bind fun bt313 => (some bt313.1)
theorem numnahlaw08_term.mono : ∀ a0 a1 k, LeO (numnahlaw08_term.f k a0 a1) (numnahlaw08_term.f (k + 1) a0 a1) := by
 intro a0 a1 k
 unfold numnahlaw08_term.f
 repeat' first
   | (with_reducible exact numnahlaw08_grow.mono _ _ _ _)
   | (with_reducible exact LeO.refl _)
   | (with_reducible exact LeO.none _)
   | (with_reducible refine LeO.ite ?_ ?_)
   | (with_reducible refine LeO.bind ?_ (fun _ => ?_))
   | exact numnahlaw08_grow.mono _ _ _ _
   | exact LeO.none _
   | refine LeO.ite ?_ ?_
   | refine LeO.bind ?_ (fun _ => ?_)
end Go.Proofs.YtaafeallcaiooaaGreat.Pr
-- indented by one
namespace Go.Proofs.YtaafeallcaiooaaGreat.Pr
open Go.RowKit Go.Proofs.YtaafeallcaiooaaGreatW.PrintWords Go.Proofs.YtaafeallcaiooaaGreatW.PrintLast Go.Proofs.YtaafeallcaiooaaGreatW.PrintMore
set_option linter.unusedVariables false
set_option linter.unusedSimpArgs false
theorem B8_app' (a b : List UInt8) : B8 a ++ B8 b = B8 (a ++ b) := by
 apply ByteArray.ext
 simp [B8]
theorem text_size (t : Tm) : t.text.size = t.tx.length := by
 show (B8 t.tx).size = _
 exact B8_size _
theorem text_le {t : Tm} (h : t.size ≤ 1000) : t.text.size ≤ 4000 := by
 have := tx_le t
 rw [text_size]
 omega
theorem B8_one (c : UInt8) : (⟨#[c]⟩ : ByteArray) = B8 [c] := rfl
theorem text1 (c : UInt8) (t : Tm) : (⟨#[c]⟩ : ByteArray) ++ ⟨#[40]⟩ ++ t.text ++ ⟨#[41]⟩ = (Tm.app (c.toNat : Int) [t]).text := by
 show (⟨#[c]⟩ : ByteArray) ++ ⟨#[40]⟩ ++ B8 t.tx ++ ⟨#[41]⟩ = B8 _
 rw [B8_one, B8_one, B8_one, B8_app', B8_app', B8_app', tx_app, ch_of]
 rfl
theorem text2 (c : UInt8) (t u : Tm) : (⟨#[c]⟩ : ByteArray) ++ ⟨#[40]⟩ ++ t.text ++ ⟨#[44]⟩ ++ u.text ++ ⟨#[41]⟩ = (Tm.app (c.toNat : Int) [t, u]).text := by
 show (⟨#[c]⟩ : ByteArray) ++ ⟨#[40]⟩ ++ B8 t.tx ++ ⟨#[44]⟩ ++ B8 u.tx ++ ⟨#[41]⟩ = B8 _
 rw [B8_one, B8_one, B8_one, B8_one, B8_app', B8_app', B8_app', B8_app', B8_app', tx_app, ch_of]
 rfl
theorem app1_good {c : Int} {t : Tm} (hc : c = 99 ∨ c = 100) (h : t.good) : (Tm.app c [t]).good := by
 rw [Tm.good, Tm.goods, Tm.goods]
 rcases hc with rfl | rfl <;> exact ⟨by omega, by simp [nParts], h, trivial⟩
theorem app2_good {c : Int} {t u : Tm} (hc : c = 101 ∨ c = 102) (h : t.good) (h2 : u.good) : (Tm.app c [t, u]).good := by
 rw [Tm.good, Tm.goods, Tm.goods, Tm.goods]
 rcases hc with rfl | rfl <;> exact ⟨by omega, by simp [nParts], h, h2, trivial⟩
theorem size1 (c : Int) (t : Tm) : (Tm.app c [t]).size = 1 + t.size := by rw [Tm.size, Tm.sizes, Tm.sizes]; omega
theorem size2 (c : Int) (t u : Tm) : (Tm.app c [t, u]).size = 1 + t.size + u.size := by rw [Tm.size, Tm.sizes, Tm.sizes, Tm.sizes]; omega
/-- the letter alone -/
def ltT (x : Int) : Tm := if x % 5 = 0 then .app 97 [] else if x % 5 = 1 then .app 98 [] else if x % 5 = 2 then .var 120 else if x % 5 = 3 then .var 121 else .var 122
theorem ltT_good (x : Int) : (ltT x).good ∧ (ltT x).size = 1 := by
 unfold ltT
 split
 ·exact ⟨by rw [Tm.good, Tm.goods]; exact ⟨by omega, by decide, trivial⟩, by rw [Tm.size, Tm.sizes]; rfl⟩
 ·split
  ·exact ⟨by rw [Tm.good, Tm.goods]; exact ⟨by omega, by decide, trivial⟩, by rw [Tm.size, Tm.sizes]; rfl⟩
  ·split
   ·exact ⟨by rw [Tm.good]; omega, by rw [Tm.size]⟩
   ·split
    ·exact ⟨by rw [Tm.good]; omega, by rw [Tm.size]⟩
    ·exact ⟨by rw [Tm.good]; omega, by rw [Tm.size]⟩
theorem j0_l0 (s : ByteArray) (a1 a2 : Int) (k : Nat) : numnahlaw08_grow.j0 (k + 1) s a1 a2 0 true = some ((ltT 0).text, wrap64 (a1 + 1)) := by kernel_rfl
theorem j0_l1 (s : ByteArray) (a1 a2 : Int) (k : Nat) : numnahlaw08_grow.j0 (k + 1) s a1 a2 1 true = some ((ltT 1).text, wrap64 (a1 + 1)) := by kernel_rfl
theorem j0_l2 (s : ByteArray) (a1 a2 : Int) (k : Nat) : numnahlaw08_grow.j0 (k + 1) s a1 a2 2 true = some ((ltT 2).text, wrap64 (a1 + 1)) := by kernel_rfl
theorem j0_l3 (s : ByteArray) (a1 a2 : Int) (k : Nat) : numnahlaw08_grow.j0 (k + 1) s a1 a2 3 true = some ((ltT 3).text, wrap64 (a1 + 1)) := by kernel_rfl
theorem j0_l4 (s : ByteArray) (a1 a2 : Int) (k : Nat) : numnahlaw08_grow.j0 (k + 1) s a1 a2 4 true = some ((ltT 4).text, wrap64 (a1 + 1)) := by kernel_rfl
theorem j0_l5 (s : ByteArray) (a1 a2 : Int) (k : Nat) : numnahlaw08_grow.j0 (k + 1) s a1 a2 5 true = some ((ltT 5).text, wrap64 (a1 + 1)) := by kernel_rfl
theorem j0_l6 (s : ByteArray) (a1 a2 : Int) (k : Nat) : numnahlaw08_grow.j0 (k + 1) s a1 a2 6 true = some ((ltT 6).text, wrap64 (a1 + 1)) := by kernel_rfl
theorem j0_l7 (s : ByteArray) (a1 a2 : Int) (k : Nat) : numnahlaw08_grow.j0 (k + 1) s a1 a2 7 true = some ((ltT 7).text, wrap64 (a1 + 1)) := by kernel_rfl
theorem j0_l8 (s : ByteArray) (a1 a2 : Int) (k : Nat) : numnahlaw08_grow.j0 (k + 1) s a1 a2 8 true = some ((ltT 8).text, wrap64 (a1 + 1)) := by kernel_rfl
theorem j0_l9 (s : ByteArray) (a1 a2 : Int) (k : Nat) : numnahlaw08_grow.j0 (k + 1) s a1 a2 9 true = some ((ltT 9).text, wrap64 (a1 + 1)) := by kernel_rfl
theorem j0_l10 (s : ByteArray) (a1 a2 : Int) (k : Nat) : numnahlaw08_grow.j0 (k + 1) s a1 a2 10 true = some ((ltT 10).text, wrap64 (a1 + 1)) := by kernel_rfl
theorem j0_letter (s : ByteArray) (a1 a2 x : Int) (hx : 0 ≤ x ∧ x ≤ 10) (k : Nat) : numnahlaw08_grow.j0 (k + 1) s a1 a2 x true = some ((ltT x).text, wrap64 (a1 + 1)) := by
 have : x = 0 ∨ x = 1 ∨ x = 2 ∨ x = 3 ∨ x = 4 ∨ x = 5 ∨ x = 6 ∨ x = 7 ∨ x = 8 ∨ x = 9 ∨ x = 10 := by omega
 rcases this with rfl | rfl | rfl | rfl | rfl | rfl | rfl | rfl | rfl | rfl | rfl
 ·exact j0_l0 s a1 a2 k
 ·exact j0_l1 s a1 a2 k
 ·exact j0_l2 s a1 a2 k
 ·exact j0_l3 s a1 a2 k
 ·exact j0_l4 s a1 a2 k
 ·exact j0_l5 s a1 a2 k
 ·exact j0_l6 s a1 a2 k
 ·exact j0_l7 s a1 a2 k
 ·exact j0_l8 s a1 a2 k
 ·exact j0_l9 s a1 a2 k
 ·exact j0_l10 s a1 a2 k
def headB (x : Int) : UInt8 := if x ≤ 6 then 99 else if x = 7 then 100 else if x ≤ 9 then 101 else 102
theorem j0_h5 (s : ByteArray) (a1 a2 : Int) (k : Nat) : numnahlaw08_grow.j0 (k + 1) s a1 a2 5 false = if (5 : Int) < 8 then numnahlaw08_grow.j1 k s a1 a2 5 ⟨#[headB 5]⟩ true else numnahlaw08_grow.j1 k s a1 a2 5 ⟨#[headB 5]⟩ (decide (a2 < 3)) := by kernel_rfl
theorem j0_h6 (s : ByteArray) (a1 a2 : Int) (k : Nat) : numnahlaw08_grow.j0 (k + 1) s a1 a2 6 false = if (6 : Int) < 8 then numnahlaw08_grow.j1 k s a1 a2 6 ⟨#[headB 6]⟩ true else numnahlaw08_grow.j1 k s a1 a2 6 ⟨#[headB 6]⟩ (decide (a2 < 3)) := by kernel_rfl
theorem j0_h7 (s : ByteArray) (a1 a2 : Int) (k : Nat) : numnahlaw08_grow.j0 (k + 1) s a1 a2 7 false = if (7 : Int) < 8 then numnahlaw08_grow.j1 k s a1 a2 7 ⟨#[headB 7]⟩ true else numnahlaw08_grow.j1 k s a1 a2 7 ⟨#[headB 7]⟩ (decide (a2 < 3)) := by kernel_rfl
theorem j0_h8 (s : ByteArray) (a1 a2 : Int) (k : Nat) : numnahlaw08_grow.j0 (k + 1) s a1 a2 8 false = if (8 : Int) < 8 then numnahlaw08_grow.j1 k s a1 a2 8 ⟨#[headB 8]⟩ true else numnahlaw08_grow.j1 k s a1 a2 8 ⟨#[headB 8]⟩ (decide (a2 < 3)) := by kernel_rfl
theorem j0_h9 (s : ByteArray) (a1 a2 : Int) (k : Nat) : numnahlaw08_grow.j0 (k + 1) s a1 a2 9 false = if (9 : Int) < 8 then numnahlaw08_grow.j1 k s a1 a2 9 ⟨#[headB 9]⟩ true else numnahlaw08_grow.j1 k s a1 a2 9 ⟨#[headB 9]⟩ (decide (a2 < 3)) := by kernel_rfl
theorem j0_h10 (s : ByteArray) (a1 a2 : Int) (k : Nat) : numnahlaw08_grow.j0 (k + 1) s a1 a2 10 false = if (10 : Int) < 8 then numnahlaw08_grow.j1 k s a1 a2 10 ⟨#[headB 10]⟩ true else numnahlaw08_grow.j1 k s a1 a2 10 ⟨#[headB 10]⟩ (decide (a2 < 3)) := by kernel_rfl
theorem j0_head (s : ByteArray) (a1 a2 x : Int) (hx : 5 ≤ x ∧ x ≤ 10) (k : Nat) : numnahlaw08_grow.j0 (k + 1) s a1 a2 x false = if x < 8 then numnahlaw08_grow.j1 k s a1 a2 x ⟨#[headB x]⟩ true else numnahlaw08_grow.j1 k s a1 a2 x ⟨#[headB x]⟩ (decide (a2 < 3)) := by
 have : x = 5 ∨ x = 6 ∨ x = 7 ∨ x = 8 ∨ x = 9 ∨ x = 10 := by omega
 rcases this with rfl | rfl | rfl | rfl | rfl | rfl
 ·exact j0_h5 s a1 a2 k
 ·exact j0_h6 s a1 a2 k
 ·exact j0_h7 s a1 a2 k
 ·exact j0_h8 s a1 a2 k
 ·exact j0_h9 s a1 a2 k
 ·exact j0_h10 s a1 a2 k
theorem j1_one {s : ByteArray} {a1 a2 x a' : Int} {h : UInt8} {t : Tm} (hE : Evt (fun k => numnahlaw08_grow.f k s (wrap64 (a1 + 1)) (wrap64 (a2 - 1))) (t.text, a')) (ht : t.size ≤ 1000) : Evt (fun k => numnahlaw08_grow.j1 k s a1 a2 x ⟨#[h]⟩ true) ((Tm.app (if x ≥ 8 then 100 else (h.toNat : Int)) [t]).text, a') := by
 have hsz := text_le ht
 have e1 : ∀ c : UInt8, (⟨#[c]⟩ : ByteArray).size = 1 := fun _ => rfl
 refine Evt.step (g' := fun k => (numnahlaw08_grow.f k s (wrap64 (a1 + 1)) (wrap64 (a2 - 1))).bind fun bt307 => _) (fun k => by rw [numnahlaw08_grow.j1, if_pos rfl]) (Evt.bind hE (Evt.all fun k => ?_))
 dsimp only
 by_cases hx : x ≥ 8
 ·rw [if_pos hx, if_pos hx, if_pos (by decide), if_pos (by omega), if_pos (by rw [ByteArray.size_append, ByteArray.size_append, e1, e1]; omega)]
  rw [text1]
  rfl
 ·rw [if_neg hx, if_neg hx, if_pos (by rw [e1]; decide), if_pos (by rw [ByteArray.size_append, e1, e1]; omega), if_pos (by rw [ByteArray.size_append, ByteArray.size_append, e1, e1]; omega)]
  rw [text1]
theorem j1_two {s : ByteArray} {a1 a2 x a' a'' : Int} {h : UInt8} {t u : Tm} (hE : Evt (fun k => numnahlaw08_grow.f k s (wrap64 (a1 + 1)) (wrap64 (Int.tdiv (wrap64 (a2 - 1)) 2))) (t.text, a')) (hE2 : Evt (fun k => numnahlaw08_grow.f k s a' (wrap64 ((wrap64 (a2 - 1)) - (wrap64 (Int.tdiv (wrap64 (a2 - 1)) 2))))) (u.text, a'')) (ht : t.size ≤ 1000) (hu : u.size ≤ 1000) : Evt (fun k => numnahlaw08_grow.j1 k s a1 a2 x ⟨#[h]⟩ false) ((Tm.app (h.toNat : Int) [t, u]).text, a'') := by
 have hsz := text_le ht
 have hsu := text_le hu
 have e1 : ∀ c : UInt8, (⟨#[c]⟩ : ByteArray).size = 1 := fun _ => rfl
 refine Evt.step (g' := fun k => (numnahlaw08_grow.f k s (wrap64 (a1 + 1)) (wrap64 (Int.tdiv (wrap64 (a2 - 1)) 2))).bind fun bt309 => ((numnahlaw08_grow.f k s bt309.2 (wrap64 ((wrap64 (a2 - 1)) - (wrap64 (Int.tdiv (wrap64 (a2 - 1)) 2))))).bind fun bt311 => _)) (fun k => by rw [numnahlaw08_grow.j1, if_neg (by simp)]) (Evt.bind hE (Evt.bind hE2 (Evt.all fun k => ?_)))
 dsimp only
 simp only [ByteArray.size_append, e1]
 rw [if_pos (by decide), if_pos (by omega), if_pos (by omega), if_pos (by omega), if_pos (by omega), text2]
theorem bt_range (s : ByteArray) (i : Int) : 0 ≤ bt s i ∧ bt s i ≤ 255 := by
 unfold bt
 split
 ·have := (s[i.toNat]'(by assumption)).toNat_lt
  omega
 ·omega
/-- grow makes a term of at most so many symbols -/
theorem growE (s : ByteArray) (hs : s.size ≤ 9223372036854775807) : ∀ (n : Nat) (a1 a2 : Int), 0 ≤ a1 → a1 ≤ 9223372036854775807 → 1 ≤ a2 → a2 ≤ n → n ≤ 1000 →
  ∃ (t : Tm) (a' : Int), Evt (fun k => numnahlaw08_grow.f k s a1 a2) (t.text, a') ∧ t.good ∧ t.size ≤ a2 ∧ 0 ≤ a' ∧ a' ≤ 9223372036854775807
 | 0, a1, a2, _, _, h3, h4, _ => by omega
 | n + 1, a1, a2, h1, h2, h3, h4, hn => by
  by_cases he : a1 ≥ (s.size : Int)
  ·exact ⟨.app 97 [], a1, Evt.now fun k => by rw [numnahlaw08_grow.f, if_pos he]; rfl, by rw [Tm.good, Tm.goods]; exact ⟨by omega, by decide, trivial⟩, by rw [Tm.size, Tm.sizes]; omega, h1, h2⟩
  ·obtain ⟨x, hx⟩ : ∃ x, x = Int.tmod (wrap64 (bt s a1)) 11 := ⟨_, rfl⟩
   have hb := bt_range s a1
   have hxr : 0 ≤ x ∧ x ≤ 10 := by
    rw [hx, wr (by omega) (by omega), Int.tmod_eq_emod_of_nonneg hb.1]
    omega
   have hw1 : wrap64 (a1 + 1) = a1 + 1 := wr (by omega) (by omega)
   have hw2 : wrap64 (a2 - 1) = a2 - 1 := wr (by omega) (by omega)
   have hf : ∀ k, numnahlaw08_grow.f (k + 1) s a1 a2 = if a2 < 2 then numnahlaw08_grow.j0 k s a1 a2 x true else numnahlaw08_grow.j0 k s a1 a2 x (decide (x < 5)) := fun k => by
    rw [numnahlaw08_grow.f, if_neg he, if_pos h1, if_pos (by omega), ← hx]
   have hlet : (a2 < 2 ∨ x < 5) → Evt (fun k => numnahlaw08_grow.f k s a1 a2) ((ltT x).text, a1 + 1) := fun hc => by
    refine Evt.step (g' := fun k => numnahlaw08_grow.j0 k s a1 a2 x true) (fun k => ?_) (Evt.now fun k => ?_)
    ·rw [hf]
     by_cases h : a2 < 2
     ·rw [if_pos h]
     ·rw [if_neg h, decide_eq_true (hc.resolve_left h)]
    ·rw [j0_letter s a1 a2 x hxr, hw1]
   by_cases hc : a2 < 2 ∨ x < 5
   ·exact ⟨ltT x, a1 + 1, hlet hc, (ltT_good x).1, by rw [(ltT_good x).2]; omega, by omega, by omega⟩
   ·have hc2 : ¬ a2 < 2 ∧ ¬ x < 5 := ⟨fun h => hc (.inl h), fun h => hc (.inr h)⟩
    have hstep : ∀ {b : Bool} {r : ByteArray × Int}, (x < 8 → b = true) → (¬ x < 8 → b = decide (a2 < 3)) → Evt (fun k => numnahlaw08_grow.j1 k s a1 a2 x ⟨#[headB x]⟩ b) r → Evt (fun k => numnahlaw08_grow.f k s a1 a2) r := fun {b r} hb1 hb2 hE => by
     refine Evt.step (g' := fun k => numnahlaw08_grow.j0 k s a1 a2 x false) (fun k => ?_) (Evt.step (g' := fun k => numnahlaw08_grow.j1 k s a1 a2 x ⟨#[headB x]⟩ b) (fun k => ?_) hE)
     ·rw [hf, if_neg hc2.1, decide_eq_false hc2.2]
     ·rw [j0_head s a1 a2 x (by omega)]
      by_cases h8 : x < 8
      ·rw [if_pos h8, hb1 h8]
      ·rw [if_neg h8, hb2 h8]
    by_cases ho : x < 8 ∨ a2 < 3
    ·obtain ⟨t, a', hE, hg, hsz, h5, h6⟩ := growE s hs n (a1 + 1) (a2 - 1) (by omega) (by omega) (by omega) (by omega) (by omega)
     have hE' : Evt (fun k => numnahlaw08_grow.f k s (wrap64 (a1 + 1)) (wrap64 (a2 - 1))) (t.text, a') := by rw [hw1, hw2]; exact hE
     refine ⟨_, a', hstep (b := true) (fun _ => rfl) (fun h => (decide_eq_true (ho.resolve_left h)).symm) (j1_one (x := x) (h := headB x) hE' (by omega)), app1_good ?_ hg, by rw [size1]; omega, h5, h6⟩
     have : x = 5 ∨ x = 6 ∨ x = 7 ∨ x = 8 ∨ x = 9 ∨ x = 10 := by omega
     clear hx hf hlet hstep
     rcases this with rfl | rfl | rfl | rfl | rfl | rfl <;> decide
    ·have ho2 : ¬ x < 8 ∧ ¬ a2 < 3 := ⟨fun h => ho (.inl h), fun h => ho (.inr h)⟩
     have hdv : Int.tdiv (a2 - 1) 2 = (a2 - 1) / 2 := Int.tdiv_eq_ediv_of_nonneg (by omega)
     obtain ⟨t, a', hE, hg, hsz, h5, h6⟩ := growE s hs n (a1 + 1) ((a2 - 1) / 2) (by omega) (by omega) (by omega) (by omega) (by omega)
     obtain ⟨u, a'', hE2, hg2, hsz2, h7, h8⟩ := growE s hs n a' (a2 - 1 - (a2 - 1) / 2) h5 h6 (by omega) (by omega) (by omega)
     have hw3 : wrap64 (Int.tdiv (wrap64 (a2 - 1)) 2) = (a2 - 1) / 2 := by rw [hw2, hdv]; exact wr (by omega) (by omega)
     have hw4 : wrap64 ((wrap64 (a2 - 1)) - (wrap64 (Int.tdiv (wrap64 (a2 - 1)) 2))) = a2 - 1 - (a2 - 1) / 2 := by rw [hw3, hw2]; exact wr (by omega) (by omega)
     have hE' : Evt (fun k => numnahlaw08_grow.f k s (wrap64 (a1 + 1)) (wrap64 (Int.tdiv (wrap64 (a2 - 1)) 2))) (t.text, a') := by rw [hw1, hw3]; exact hE
     have hE2' : Evt (fun k => numnahlaw08_grow.f k s a' (wrap64 ((wrap64 (a2 - 1)) - (wrap64 (Int.tdiv (wrap64 (a2 - 1)) 2))))) (u.text, a'') := by rw [hw4]; exact hE2
     refine ⟨_, a'', hstep (b := false) (fun h => absurd h ho2.1) (fun _ => (decide_eq_false ho2.2).symm) (j1_two (x := x) (h := headB x) hE' hE2' (by omega) (by omega)), app2_good ?_ hg hg2, by rw [size2]; omega, h7, h8⟩
     have : x = 8 ∨ x = 9 ∨ x = 10 := by omega
     clear hx hf hlet hstep
     rcases this with rfl | rfl | rfl <;> decide
end Go.Proofs.YtaafeallcaiooaaGreat.Pr
-- indented by one
/- the path order: transitive, irreflexive, total on terms without variables, stable. -/
namespace Go.Proofs.YtaafeallcaiooaaGreat.Pr
open Go.RowKit
set_option linter.unusedVariables false
set_option linter.unusedSimpArgs false
theorem same_iff {a b : Tm} (ha : a.good) (hb : b.good) : sameB a b = true ↔ a = b := by
 rw [sameB_eq ha hb, decide_eq_true_iff]
 exact ⟨text_inj ha hb, fun h => by rw [h]⟩
theorem same_refl (a : Tm) : sameB a a = true := by unfold sameB; simp
theorem occ_app (v s : Int) (l : List Tm) : occT v (.app s l) = l.any (occT v) := by
 unfold occT
 rw [Tm.subs, List.any_cons]
 have : isVar v (.app s l) = false := by rfl
 rw [this, Bool.false_or]
 clear this
 induction l with
 | nil => rfl
 | cons t l ih => rw [Tm.subsL, List.any_append, List.any_cons, ih]
theorem occ_var (v c : Int) : occT v (.var c) = decide (v = c) := by
 unfold occT
 rw [Tm.subs]
 by_cases h : v = c
 ·subst h; simp [isVar]
 ·simp [isVar, h, show ¬ c = v from fun e => h e.symm]
/-- the greater one is made of a symbol -/
theorem gt_isApp {r : Int → Int} {a b : Tm} (h : gt r a b = true) : ∃ s l, a = .app s l := by
 cases a with
 | var c =>
  exfalso
  cases b with
  | var v => rw [gt_var] at h; cases h
  | app s l => rw [gt_va] at h; cases h
 | app s l => exact ⟨s, l, rfl⟩
theorem gt_v {r : Int → Int} {s v : Int} {l : List Tm} : gt r (.app s l) (.var v) = occT v (.app s l) := gt_var r _ v
/-- what makes a term greater than a compound one -/
theorem gt_iff {r : Int → Int} {s s' : Int} {l l' : List Tm} (ha : (Tm.app s l).good) (hb : (Tm.app s' l').good) : gt r (.app s l) (.app s' l') = true ↔
  (∃ t, t ∈ l ∧ (t = .app s' l' ∨ gt r t (.app s' l') = true)) ∨ (¬ r s > r s' ∧ (∀ u, u ∈ l' → gt r (.app s l) u = true) ∧ (s ≠ s' ∨ (s = s' ∧ lexF (gt r) l l' = true))) := by
 have hga := ha
 rw [Tm.good] at hga
 have h1 : (l.any (fun t => sameB t (.app s' l') || gt r t (.app s' l'))) = true ↔ ∃ t, t ∈ l ∧ (t = .app s' l' ∨ gt r t (.app s' l') = true) := by
  rw [List.any_eq_true]
  exact ⟨fun ⟨t, h, h2⟩ => ⟨t, h, (Bool.or_eq_true _ _ ▸ h2).imp (fun h3 => (same_iff (goods_mem hga.2.2 h) hb).1 h3) id⟩, fun ⟨t, h, h2⟩ => ⟨t, h, by
   rw [Bool.or_eq_true]
   exact h2.imp (fun h3 => (same_iff (goods_mem hga.2.2 h) hb).2 h3) id⟩⟩
 have h2 : (l'.all (fun u => gt r (.app s l) u)) = true ↔ ∀ u, u ∈ l' → gt r (.app s l) u = true := List.all_eq_true
 rw [gt_app, ← h1, ← h2]
 split
 ·rename_i h; simp [h]
 ·rename_i h
  split
  ·rename_i hr
   exact ⟨fun e => (by cases e), fun e => by rcases e with e | e; exact absurd e h; exact absurd hr e.1⟩
  ·rename_i hr
   split
   ·rename_i hn
    exact ⟨fun e => (by cases e), fun e => by
     rcases e with e | e
     ·exact absurd e h
     ·rw [e.2.1] at hn; cases hn⟩
   ·rename_i hn
    have hn2 : (l'.all fun u => gt r (.app s l) u) = true := by
     cases hx : (l'.all fun u => gt r (.app s l) u) with
     | true => rfl
     | false => rw [hx] at hn; exact absurd rfl hn
    by_cases hs : s = s'
    ·rw [if_neg (fun e => e hs)]
     exact ⟨fun e => .inr ⟨hr, hn2, .inr ⟨hs, e⟩⟩, fun e => by
      rcases e with e | ⟨_, _, e | e⟩
      ·exact absurd e h
      ·exact absurd hs e
      ·exact e.2⟩
    ·rw [if_pos hs]
     exact ⟨fun _ => .inr ⟨hr, hn2, .inl hs⟩, fun _ => rfl⟩
/-- a term is greater than what its parts are, or are greater than -/
theorem gt_part {r : Int → Int} {s : Int} {l : List Tm} {t u : Tm} (ha : (Tm.app s l).good) (hu : u.good) (hm : t ∈ l) (h : t = u ∨ gt r t u = true) : gt r (.app s l) u = true := by
 cases u with
 | var v =>
  rw [gt_v, occ_app]
  refine List.any_eq_true.2 ⟨t, hm, ?_⟩
  rcases h with rfl | h
  ·rw [occ_var]; simp
  ·obtain ⟨s2, l2, rfl⟩ := gt_isApp h
   rwa [gt_v] at h
 | app s' l' => exact (gt_iff ha hu).2 (.inl ⟨t, hm, h⟩)
/-- variables of the smaller one are in the greater one -/
theorem gt_occ {r : Int → Int} : ∀ (n : Nat) (a b : Tm), a.size + b.size ≤ n → a.good → b.good → gt r a b = true → ∀ v, occT v b = true → occT v a = true
 | 0, a, b, hn, _, _, _, _, _ => by have := Tm.size_pos a; have := Tm.size_pos b; omega
 | n + 1, a, b, hn, ha, hb, h, v, hv => by
  obtain ⟨s, l, rfl⟩ := gt_isApp h
  have e1 := Tm.size.eq_2 s l
  have hga := ha
  rw [Tm.good] at hga
  cases b with
  | var c =>
   rw [gt_v] at h
   rw [occ_var, decide_eq_true_iff] at hv
   subst hv
   exact h
  | app s' l' =>
   have e2 := Tm.size.eq_2 s' l'
   have hgb := hb
   rw [Tm.good] at hgb
   rcases (gt_iff ha hb).1 h with ⟨t, ht, h2⟩ | ⟨_, h2, _⟩
   ·rw [occ_app]
    refine List.any_eq_true.2 ⟨t, ht, ?_⟩
    rcases h2 with rfl | h2
    ·exact hv
    ·exact gt_occ n t _ (by have := sizes_mem l t ht; omega) (goods_mem hga.2.2 ht) hb h2 v hv
   ·rw [occ_app] at hv
    obtain ⟨u, hu, hv2⟩ := List.any_eq_true.1 hv
    exact gt_occ n _ u (by have := sizes_mem l' u hu; omega) ha (goods_mem hgb.2.2 hu) (h2 u hu) v hv2
theorem lex_trans {g : Tm → Tm → Bool} : ∀ (l m k : List Tm), (∀ t, t ∈ l ++ m ++ k → t.good) → (∀ x y z, x ∈ l → y ∈ m → z ∈ k → g x y = true → g y z = true → g x z = true) →
  (∀ x z, x ∈ l → z ∈ k → g x z = true → x ≠ z) → lexF g l m = true → lexF g m k = true → lexF g l k = true
 | [], _, _, _, _, _, h, _ => by rw [lexF] at h; cases h; (intros; simp_all)
 | _ :: _, [], _, _, _, _, h, _ => by rw [lexF] at h; cases h; (intros; simp_all)
 | _ :: _, _ :: _, [], _, _, _, _, h => by rw [lexF] at h; cases h; (intros; simp_all)
 | x :: l, y :: m, z :: k, hg, ht, hi, h1, h2 => by
  have gx := hg x (by simp)
  have gy := hg y (by simp)
  have gz := hg z (by simp)
  rw [lexF] at h1 h2 ⊢
  by_cases e1 : sameB x y = true
  ·rw [if_pos e1] at h1
   obtain rfl := (same_iff gx gy).1 e1
   by_cases e2 : sameB x z = true
   ·rw [if_pos e2] at h2
    rw [if_pos e2]
    exact lex_trans l m k (fun t h => hg t (by simp at h ⊢; rcases h with h | h | h <;> simp [h])) (fun a b c ha hb hc => ht a b c (by simp [ha]) (by simp [hb]) (by simp [hc])) (fun a c ha hc => hi a c (by simp [ha]) (by simp [hc])) h1 h2
   ·rw [if_neg e2] at h2
    rw [if_neg e2]
    exact h2
  ·rw [if_neg e1] at h1
   by_cases e2 : sameB y z = true
   ·obtain rfl := (same_iff gy gz).1 e2
    rw [if_neg e1]
    exact h1
   ·rw [if_neg e2] at h2
    have h3 := ht x y z (by simp) (by simp) (by simp) h1 h2
    rw [if_neg (fun e => hi x z (by simp) (by simp) h3 ((same_iff gx gz).1 e))]
    exact h3
/-- ranks of different symbols differ -/
def RankInj (r : Int → Int) : Prop := ∀ s s' : Int, 97 ≤ s ∧ s ≤ 102 → 97 ≤ s' ∧ s' ≤ 102 → r s = r s' → s = s'
theorem lex_self {g : Tm → Tm → Bool} : ∀ l : List Tm, lexF g l l = false
 | [] => rfl
 | t :: l => by rw [lexF, if_pos (same_refl t)]; exact lex_self l
/-- a term is greater than the parts of what it is greater than -/
theorem gt_sub {r : Int → Int} {s' : Int} {l' : List Tm} (hb : (Tm.app s' l').good) {u : Tm} (hu : u ∈ l') : ∀ (n : Nat) (a : Tm), a.size ≤ n → a.good → gt r a (.app s' l') = true → gt r a u = true
 | 0, a, hn, _, _ => by have := Tm.size_pos a; omega
 | n + 1, a, hn, ha, h => by
  obtain ⟨s, l, rfl⟩ := gt_isApp h
  have e1 := Tm.size.eq_2 s l
  have hga := ha
  have hgb := hb
  rw [Tm.good] at hga hgb
  have hug := goods_mem hgb.2.2 hu
  rcases (gt_iff ha hb).1 h with ⟨t, ht, h3⟩ | ⟨_, h2, _⟩
  ·refine gt_part ha hug ht (.inr ?_)
   rcases h3 with rfl | h3
   ·exact gt_part hb hug hu (.inl rfl)
   ·exact gt_sub hb hu n t (by have := sizes_mem l t ht; omega) (goods_mem hga.2.2 ht) h3
  ·exact h2 u hu
theorem gt_irr {r : Int → Int} : ∀ (n : Nat) (a : Tm), a.size ≤ n → a.good → gt r a a = false
 | 0, a, hn, _ => by have := Tm.size_pos a; omega
 | n + 1, .var c, hn, ha => by rw [gt_var]
 | n + 1, .app s l, hn, ha => by
  have e1 := Tm.size.eq_2 s l
  have hga := ha
  rw [Tm.good] at hga
  cases hx : gt r (.app s l) (.app s l) with
  | false => rfl
  | true =>
   exfalso
   rcases (gt_iff ha ha).1 hx with ⟨t, ht, h3⟩ | ⟨_, _, h | ⟨_, h⟩⟩
   ·have h4 := sizes_mem l t ht
    rcases h3 with rfl | h3
    ·omega
    ·have h5 := gt_sub (r := r) ha ht _ t (Int.self_le_toNat _) (goods_mem hga.2.2 ht) h3
     rw [gt_irr n t (by omega) (goods_mem hga.2.2 ht)] at h5
     cases h5
   ·exact h rfl
   ·rw [lex_self] at h; cases h
theorem gt_irrefl {r : Int → Int} {a : Tm} (ha : a.good) : gt r a a = false := gt_irr _ a (Int.self_le_toNat _) ha
theorem gt_trn {r : Int → Int} (hr : RankInj r) : ∀ (n : Nat) (a b c : Tm), a.size + b.size + c.size ≤ n → a.good → b.good → c.good → gt r a b = true → gt r b c = true → gt r a c = true
 | 0, a, b, c, hn, _, _, _, _, _ => by have := Tm.size_pos a; have := Tm.size_pos b; have := Tm.size_pos c; omega
 | n + 1, a, b, c, hn, ha, hb, hc, h1, h2 => by
  have ih1 := gt_trn hr n
  obtain ⟨s, l, rfl⟩ := gt_isApp h1
  obtain ⟨s', l', rfl⟩ := gt_isApp h2
  have e1 := Tm.size.eq_2 s l
  have e2 := Tm.size.eq_2 s' l'
  have hga := ha
  have hgb := hb
  rw [Tm.good] at hga hgb
  cases c with
  | var v =>
   rw [gt_v] at h2 ⊢
   exact gt_occ _ _ _ (Int.self_le_toNat _) ha hb h1 v h2
  | app s'' l'' =>
   have e3 := Tm.size.eq_2 s'' l''
   have hgc := hc
   rw [Tm.good] at hgc
   rcases (gt_iff ha hb).1 h1 with ⟨t, ht, h3⟩ | ⟨hr1, hall1, hor1⟩
   ·refine gt_part ha hc ht (.inr ?_)
    rcases h3 with rfl | h3
    ·exact h2
    ·exact ih1 t _ _ (by have := sizes_mem l t ht; omega) (goods_mem hga.2.2 ht) hb hc h3 h2
   ·rcases (gt_iff hb hc).1 h2 with ⟨u, hu, h3⟩ | ⟨hr2, hall2, hor2⟩
    ·have h4 := hall1 u hu
     rcases h3 with rfl | h3
     ·exact h4
     ·exact ih1 _ u _ (by have := sizes_mem l' u hu; omega) ha (goods_mem hgb.2.2 hu) hc h4 h3
    ·refine (gt_iff ha hc).2 (.inr ⟨by omega, fun w hw => ih1 _ _ w (by have := sizes_mem l'' w hw; omega) ha hb (goods_mem hgc.2.2 hw) h1 (hall2 w hw), ?_⟩)
     by_cases hs : s = s''
     ·refine .inr ⟨hs, ?_⟩
      have hss : s = s' := hr s s' hga.1 hgb.1 (by subst hs; omega)
      rcases hor1 with h | ⟨_, hl1⟩
      ·exact absurd hss h
      ·rcases hor2 with h | ⟨_, hl2⟩
       ·exact absurd (hss.symm.trans hs) h
       ·refine lex_trans l l' l'' ?_ (fun x y z hx hy hz => ih1 x y z (by have := sizes_mem l x hx; have := sizes_mem l' y hy; have := sizes_mem l'' z hz; omega) (goods_mem hga.2.2 hx) (goods_mem hgb.2.2 hy) (goods_mem hgc.2.2 hz)) (fun x z hx hz hgt he => ?_) hl1 hl2
        ·intro t ht
         simp only [List.mem_append] at ht
         rcases ht with (ht | ht) | ht
         ·exact goods_mem hga.2.2 ht
         ·exact goods_mem hgb.2.2 ht
         ·exact goods_mem hgc.2.2 ht
        ·subst he
         rw [gt_irrefl (goods_mem hga.2.2 hx)] at hgt
         cases hgt
     ·exact .inl hs
/-- terms without variables -/
def Tm.ground (t : Tm) : Prop := ∀ v, occT v t = false
theorem ground_mem {s : Int} {l : List Tm} (h : (Tm.app s l).ground) {t : Tm} (ht : t ∈ l) : t.ground := by
 intro v
 have := h v
 rw [occ_app] at this
 exact Bool.eq_false_iff.2 (fun e => by rw [List.any_eq_true.2 ⟨t, ht, e⟩] at this; cases this)
theorem lex_total {g : Tm → Tm → Bool} : ∀ (l m : List Tm), l.length = m.length → (∀ t, t ∈ l ++ m → t.good) → (∀ x y, x ∈ l → y ∈ m → x ≠ y → g x y = true ∨ g y x = true) → l ≠ m → lexF g l m = true ∨ lexF g m l = true
 | [], [], _, _, _, h => absurd rfl h
 | [], _ :: _, h, _, _, _ => by simp at h
 | _ :: _, [], h, _, _, _ => by simp at h
 | x :: l, y :: m, hl, hg, ht, hne => by
  have gx := hg x (by simp)
  have gy := hg y (by simp)
  rw [lexF, lexF]
  by_cases e : x = y
  ·subst e
   rw [if_pos (same_refl x), if_pos (same_refl x)]
   refine lex_total l m (by simpa using hl) (fun t h => hg t (by simp at h ⊢; rcases h with h | h <;> simp [h])) (fun a b ha hb => ht a b (by simp [ha]) (by simp [hb])) (fun e => hne (by rw [e]))
  ·rw [if_neg (fun h => e ((same_iff gx gy).1 h)), if_neg (fun h => e ((same_iff gy gx).1 h).symm)]
   exact ht x y (by simp) (by simp) e
theorem gt_total {r : Int → Int} (hr : RankInj r) : ∀ (n : Nat) (a b : Tm), a.size + b.size ≤ n → a.good → b.good → a.ground → b.ground → a ≠ b → gt r a b = true ∨ gt r b a = true
 | 0, a, b, hn, _, _, _, _, _ => by have := Tm.size_pos a; have := Tm.size_pos b; omega
 | n + 1, a, b, hn, ha, hb, ga, gb, hne => by
  cases a with
  | var c => have := ga c; rw [occ_var] at this; simp at this
  | app s l =>
   cases b with
   | var c => have := gb c; rw [occ_var] at this; simp at this
   | app s' l' =>
    have e1 := Tm.size.eq_2 s l
    have e2 := Tm.size.eq_2 s' l'
    have hga := ha
    have hgb := hb
    rw [Tm.good] at hga hgb
    by_cases hA : ∃ t, t ∈ l ∧ (t = .app s' l' ∨ gt r t (.app s' l') = true)
    ·obtain ⟨t, ht, h⟩ := hA
     exact .inl (gt_part ha hb ht h)
    ·by_cases hB : ∃ t, t ∈ l' ∧ (t = .app s l ∨ gt r t (.app s l) = true)
     ·obtain ⟨t, ht, h⟩ := hB
      exact .inr (gt_part hb ha ht h)
     ·have h1 : ∀ u, u ∈ l' → gt r (.app s l) u = true := fun u hu => by
       rcases gt_total hr n (.app s l) u (by have := sizes_mem l' u hu; omega) ha (goods_mem hgb.2.2 hu) ga (ground_mem gb hu) (fun e => hB ⟨u, hu, .inl e.symm⟩) with h | h
       ·exact h
       ·exact absurd ⟨u, hu, .inr h⟩ hB
      have h2 : ∀ u, u ∈ l → gt r (.app s' l') u = true := fun u hu => by
       rcases gt_total hr n u (.app s' l') (by have := sizes_mem l u hu; omega) (goods_mem hga.2.2 hu) hb (ground_mem ga hu) gb (fun e => hA ⟨u, hu, .inl e⟩) with h | h
       ·exact absurd ⟨u, hu, .inr h⟩ hA
       ·exact h
      by_cases hs : s = s'
      ·subst hs
       have hll : l.length = l'.length := by omega
       rcases lex_total (g := gt r) l l' hll (fun t ht => by
         rcases List.mem_append.1 ht with ht | ht
         ·exact goods_mem hga.2.2 ht
         ·exact goods_mem hgb.2.2 ht) (fun x y hx hy hxy => gt_total hr n x y (by have := sizes_mem l x hx; have := sizes_mem l' y hy; omega) (goods_mem hga.2.2 hx) (goods_mem hgb.2.2 hy) (ground_mem ga hx) (ground_mem gb hy) hxy) (fun e => hne (by rw [e])) with h | h
       ·exact .inl ((gt_iff ha hb).2 (.inr ⟨by omega, h1, .inr ⟨rfl, h⟩⟩))
       ·exact .inr ((gt_iff hb ha).2 (.inr ⟨by omega, h2, .inr ⟨rfl, h⟩⟩))
      ·by_cases hrr : r s > r s'
       ·exact .inr ((gt_iff hb ha).2 (.inr ⟨by omega, h2, .inl (fun e => hs e.symm)⟩))
       ·exact .inl ((gt_iff ha hb).2 (.inr ⟨hrr, h1, .inl hs⟩))
end Go.Proofs.YtaafeallcaiooaaGreat.Pr
-- indented by one
/- short cuts a string; awake holds. -/
/- the path order is stable: under substitutions, and in larger terms. -/
namespace Go.Proofs.YtaafeallcaiooaaGreat.Pr
open Go.RowKit
set_option linter.unusedVariables false
set_option linter.unusedSimpArgs false
theorem sub_app (σ : Sub) (s : Int) (l : List Tm) : (Tm.app s l).sub σ = .app s (l.map (Tm.sub σ)) := by rw [Tm.sub, subL_map]
theorem lex_map {r : Int → Int} {f : Tm → Tm} : ∀ (l m : List Tm), (∀ t, t ∈ l ++ m → t.good ∧ (f t).good) → (∀ x y, x ∈ l → y ∈ m → gt r x y = true → gt r (f x) (f y) = true) → lexF (gt r) l m = true → lexF (gt r) (l.map f) (m.map f) = true
 | [], _, _, _, h => by rw [lexF] at h; cases h; (intros; simp_all)
 | _ :: _, [], _, _, h => by rw [lexF] at h; cases h; (intros; simp_all)
 | x :: l, y :: m, hg, ht, h => by
  have gx := hg x (by simp)
  have gy := hg y (by simp)
  rw [List.map_cons, List.map_cons, lexF]
  rw [lexF] at h
  by_cases e : x = y
  ·subst e
   rw [if_pos (same_refl x)] at h
   rw [if_pos (same_refl _)]
   exact lex_map l m (fun t h => hg t (by simp at h ⊢; rcases h with h | h <;> simp [h])) (fun a b ha hb => ht a b (by simp [ha]) (by simp [hb])) h
  ·rw [if_neg (fun h => e ((same_iff gx.1 gy.1).1 h))] at h
   have h2 := ht x y (by simp) (by simp) h
   rw [if_neg (fun h3 => by
    have h4 := (same_iff gx.2 gy.2).1 h3
    rw [h4, gt_irrefl gy.2] at h2
    cases h2)]
   exact h2
theorem gt_subv {r : Int → Int} {σ : Sub} (hσ : ∀ c u, σ c = some u → u.good) (v : Int) (hv : (Tm.var v).good) : ∀ (n : Nat) (s : Int) (l : List Tm), (Tm.app s l).size ≤ n → (Tm.app s l).good → occT v (.app s l) = true → gt r ((Tm.app s l).sub σ) ((Tm.var v).sub σ) = true
 | 0, s, l, hn, _, _ => by have := Tm.size_pos (.app s l); omega
 | n + 1, s, l, hn, hg, h => by
  have e1 := Tm.size.eq_2 s l
  have hga := hg
  rw [Tm.good] at hga
  rw [occ_app] at h
  obtain ⟨t, ht, h2⟩ := List.any_eq_true.1 h
  have h3 := sub_good σ hσ _ hg
  rw [sub_app] at h3 ⊢
  refine gt_part h3 (sub_good σ hσ _ hv) (List.mem_map.2 ⟨t, ht, rfl⟩) ?_
  cases t with
  | var c =>
   rw [occ_var, decide_eq_true_iff] at h2
   subst h2
   exact .inl rfl
  | app s' l' => exact .inr (gt_subv hσ v hv n s' l' (by have := sizes_mem l _ ht; omega) (goods_mem hga.2.2 ht) h2)
theorem gt_stab {r : Int → Int} {σ : Sub} (hσ : ∀ c u, σ c = some u → u.good) : ∀ (n : Nat) (a b : Tm), a.size + b.size ≤ n → a.good → b.good → gt r a b = true → gt r (a.sub σ) (b.sub σ) = true
 | 0, a, b, hn, _, _, _ => by have := Tm.size_pos a; have := Tm.size_pos b; omega
 | n + 1, a, b, hn, ha, hb, h => by
  obtain ⟨s, l, rfl⟩ := gt_isApp h
  have e1 := Tm.size.eq_2 s l
  have hga := ha
  rw [Tm.good] at hga
  cases b with
  | var v =>
   rw [gt_v] at h
   exact gt_subv hσ v hb _ s l (Int.self_le_toNat _) ha h
  | app s' l' =>
   have e2 := Tm.size.eq_2 s' l'
   have hgb := hb
   rw [Tm.good] at hgb
   have h3 := sub_good σ hσ _ ha
   have h4 := sub_good σ hσ _ hb
   rcases (gt_iff ha hb).1 h with ⟨t, ht, h2⟩ | ⟨h1, h2, h5⟩
   ·rw [sub_app] at h3 ⊢
    refine gt_part h3 h4 (List.mem_map.2 ⟨t, ht, rfl⟩) ?_
    rcases h2 with rfl | h2
    ·exact .inl rfl
    ·exact .inr (gt_stab hσ n t _ (by have := sizes_mem l t ht; omega) (goods_mem hga.2.2 ht) hb h2)
   ·rw [sub_app] at h3 h4
    have hS := fun u hu => gt_stab (r := r) hσ n (.app s l) u (by have := sizes_mem l' u hu; omega) ha (goods_mem hgb.2.2 hu) (h2 u hu)
    rw [sub_app, sub_app]
    refine (gt_iff h3 h4).2 (.inr ⟨h1, fun u hu => ?_, ?_⟩)
    ·obtain ⟨w, hw, rfl⟩ := List.mem_map.1 hu
     have := hS w hw
     rwa [sub_app] at this
    ·rcases h5 with h5 | ⟨h5, h6⟩
     ·exact .inl h5
     ·refine .inr ⟨h5, lex_map l l' (fun t ht => ?_) (fun x y hx hy => gt_stab hσ n x y (by have := sizes_mem l x hx; have := sizes_mem l' y hy; omega) (goods_mem hga.2.2 hx) (goods_mem hgb.2.2 hy)) h6⟩
      have hg : t.good := by
       rcases List.mem_append.1 ht with ht | ht
       ·exact goods_mem hga.2.2 ht
       ·exact goods_mem hgb.2.2 ht
      exact ⟨hg, sub_good σ hσ _ hg⟩
theorem lex_ctx {g : Tm → Tm → Bool} {x y : Tm} {post : List Tm} (hne : sameB x y = false) : ∀ pre : List Tm, lexF g (pre ++ x :: post) (pre ++ y :: post) = g x y
 | [] => by rw [List.nil_append, List.nil_append, lexF, if_neg (by rw [hne]; simp)]
 | t :: pre => by rw [List.cons_append, List.cons_append, lexF, if_pos (same_refl t)]; exact lex_ctx hne pre
end Go.Proofs.YtaafeallcaiooaaGreat.Pr
-- indented by one
/- Apply on texts of terms; terms without variables; Greater on texts. -/
/- awake holds. -/
namespace Go.Proofs.YtaafeallcaiooaaGreat.Pr
open Go.RowKit Go.Proofs.YtaafeallcaiooaaGreatW.PrintWords Go.Proofs.YtaafeallcaiooaaGreatW.PrintLast Go.Proofs.YtaafeallcaiooaaGreatW.PrintMore
theorem t1 : nextsT [⟨⟨#[101, 40, 120, 44, 121, 41]⟩, ⟨#[101, 40, 121, 44, 120, 41]⟩⟩] ⟨#[101, 40, 97, 44, 98, 41]⟩ = (0, [⟨#[101, 40, 98, 44, 97, 41]⟩]) := by kernel_rfl
theorem t2 : (valT [[0], [1], [1, 1], [0, 1], [0, 1, 1], [0, 1, 2]] ⟨#[102, 40, 99, 40, 98, 41, 44, 120, 41]⟩).1 = 0 := by kernel_rfl
theorem t3 : orientT [⟨⟨#[99, 40, 100, 40, 120, 41, 41]⟩, ⟨#[100, 40, 99, 40, 120, 41, 41]⟩⟩] = (0, ⟨#[97, 98, 99, 100, 101, 102]⟩) := by kernel_rfl
theorem awake_true : numnahlaw08_awake.f 20 = some true := by kernel_rfl
end Go.Proofs.YtaafeallcaiooaaGreat.Pr
/- Greater. -/
namespace Go.Proofs.YtaafeallcaiooaaGreat.Pr
open Go.RowKit Go.Maps Go.Proofs.YtaafeallcaiooaaGreatW.PrintWords Go.Proofs.YtaafeallcaiooaaGreatW.PrintLast Go.Proofs.YtaafeallcaiooaaGreatW.PrintMore
set_option linter.unusedVariables false
set_option linter.unusedSimpArgs false
end Go.Proofs.YtaafeallcaiooaaGreat.Pr
namespace Go.Proofs.YtaafeallcaiooaaGreat.Pr
open Go.RowKit Go.Proofs.YtaafeallcaiooaaGreatW.PrintWords Go.Proofs.YtaafeallcaiooaaGreatW.PrintLast Go.Proofs.YtaafeallcaiooaaGreatW.PrintMore
set_option linter.unusedVariables false
set_option linter.unusedSimpArgs false
theorem applyL_app (s0 s1 s2 a b : List UInt8) : applyL s0 s1 s2 (a ++ b) = applyL s0 s1 s2 a ++ applyL s0 s1 s2 b := by unfold applyL; rw [List.flatMap_append]
theorem applyL_cons (s0 s1 s2 : List UInt8) (c : UInt8) (b : List UInt8) : applyL s0 s1 s2 (c :: b) = applyC s0 s1 s2 c ++ applyL s0 s1 s2 b := by unfold applyL; rw [List.flatMap_cons]
theorem applyC_no (s0 s1 s2 : List UInt8) {c : UInt8} (h : c.toNat < 120 ∨ 122 < c.toNat) : applyC s0 s1 s2 c = [c] := by
  unfold applyC
  rw [if_neg (fun e => by subst e; revert h; decide), if_neg (fun e => by subst e; revert h; decide), if_neg (fun e => by subst e; revert h; decide)]
theorem ch_nat {c : Int} (h : 0 ≤ c ∧ c ≤ 255) : (ch c).toNat = c.toNat := by have := ch_toNat h; omega
theorem applyM (s0 s1 s2 : List UInt8) (f : Tm → Tm) : ∀ (l : List Tm) (i : Nat), (∀ t, t ∈ l → applyL s0 s1 s2 t.tx = (f t).tx) → applyL s0 s1 s2 (txM i l) = txM i (l.map f)
  | [], i, _ => rfl
  | t :: l, i, h => by
    rw [txM, List.map_cons, txM, applyL_cons, applyL_app, h t (by simp), applyM s0 s1 s2 f l (i + 1) (fun u hu => h u (by simp [hu])), applyC_no s0 s1 s2 (by
      have := mark_nat i
      unfold mark at this ⊢
      split
      · left; decide
      · left; decide)]
    rfl
/-! ### terms without variables -/
/-! ### Greater on texts -/
theorem awake_mono : ∀ n, numnahlaw08_awake.f (20 + n) = some true
  | 0 => awake_true
  | n + 1 => numnahlaw08_awake.mono (20 + n) true (awake_mono n)
theorem awakeE : Evt (fun k => numnahlaw08_awake.f k) true := ⟨20, fun k hk => by
  have := awake_mono (k - 20)
  rwa [show 20 + (k - 20) = k by omega] at this⟩
end Go.Proofs.YtaafeallcaiooaaGreat.Pr
namespace Go.Proofs.YtaafeallcaiooaaGreat.Pr
open Go.RowKit Go.Proofs.YtaafeallcaiooaaGreatW.PrintWords Go.Proofs.YtaafeallcaiooaaGreatW.PrintLast Go.Proofs.YtaafeallcaiooaaGreatW.PrintMore
set_option linter.unusedVariables false
set_option linter.unusedSimpArgs false
theorem short_ev (s : ByteArray) : ∃ t : ByteArray, numnahlaw08_short.f s = some t ∧ t.size ≤ 400 := by
  unfold numnahlaw08_short.f
  have h : 0 ≤ mn (s.size : Int) 400 ∧ mn (s.size : Int) 400 ≤ (s.size : Int) ∧ mn (s.size : Int) 400 ≤ 400 := by unfold mn; split <;> omega
  rw [if_pos h.1, if_pos h.2.1]
  refine ⟨_, rfl, ?_⟩
  rw [ByteArray.size_extract]
  omega
theorem awakeF : Evt (fun k => (numnahlaw08_awake.f k).bind fun t => some t) true := Evt.bind awakeE (Evt.all fun _ => rfl)
end Go.Proofs.YtaafeallcaiooaaGreat.Pr
namespace Go.Proofs.YtaafeallcaiooaaGreat.Pr
open Go.RowKit Go.Proofs.YtaafeallcaiooaaGreatW.PrintWords Go.Proofs.YtaafeallcaiooaaGreatW.PrintLast Go.Proofs.YtaafeallcaiooaaGreatW.PrintMore
set_option linter.unusedVariables false
set_option linter.unusedSimpArgs false
def hasB (c : Int) (l : List UInt8) : Bool := l.any (fun b => decide ((b.toNat : Int) = c))
theorem hasB_app (c : Int) (a b : List UInt8) : hasB c (a ++ b) = (hasB c a || hasB c b) := List.any_append
theorem hasB_cons (c : Int) (a : UInt8) (b : List UInt8) : hasB c (a :: b) = (decide ((a.toNat : Int) = c) || hasB c b) := List.any_cons
theorem occ_tx (c : Int) (hc : 120 ≤ c ∧ c ≤ 122) : ∀ t : Tm, t.good → hasB c t.tx = occT c t := by
 have hM : ∀ (l : List Tm) (i : Nat), (∀ x, x ∈ l → hasB c x.tx = occT c x) → hasB c (txM i l) = l.any (occT c) := by
  intro l
  induction l with
  | nil => intro i _; rfl
  | cons x l ih =>
   intro i h
   have hm : decide ((((UInt8.ofNat (mark i).toNat).toNat : Nat) : Int) = c) = false := by
    rw [mark_nat]
    unfold mark
    split <;> exact decide_eq_false (by omega)
   rw [txM, hasB_cons, hm, Bool.false_or, hasB_app, h x (by simp), ih (i + 1) (fun y hy => h y (by simp [hy])), List.any_cons]
 refine Tm.ind (fun d hg => ?_) (fun s l ih hg => ?_)
 ·rw [Tm.good] at hg
  have hd := ch_toNat (c := d) (by omega)
  rw [Tm.tx, hasB_cons, hd, occ_var, show hasB c [] = false from rfl, Bool.or_false]
  by_cases h : d = c
  ·rw [decide_eq_true h, decide_eq_true h.symm]
  ·rw [decide_eq_false h, decide_eq_false (fun e => h e.symm)]
 ·have hl2 := good_len hg
  rw [Tm.good] at hg
  have hs := ch_toNat (c := s) (by omega)
  rw [tx_app2 s l hl2, hasB_cons, hs, decide_eq_false (by omega), Bool.false_or, occ_app]
  by_cases h0 : l.length = 0
  ·rw [if_pos h0, List.length_eq_zero_iff.1 h0]; rfl
  ·rw [if_neg h0, hasB_app, hM l 0 (fun x hx => ih x hx (goods_mem hg.2.2 hx)), hasB_cons, decide_eq_false (show ¬ ((41 : UInt8).toNat : Int) = c by have : ((41 : UInt8).toNat : Int) = 41 := rfl; omega)]
   show (_ || (false || false)) = _
   rw [Bool.or_false, Bool.or_false]
theorem occursL (c : Int) (s : ByteArray) (hs : s.size ≤ 140737488351232) : ∀ (n i : Nat), s.size - i ≤ n → i ≤ s.size → Evt (fun k => numnahref08_occurs.l0 k c s (i : Int)) (hasB c (s.data.toList.drop i)) := by
 intro n
 induction n with
 | zero =>
  intro i h1 h2
  refine Evt.now fun k => ?_
  rw [numnahref08_occurs.l0, if_neg (by omega), List.drop_eq_nil_of_le (by simp; omega)]
  rfl
 | succ n ih =>
  intro i h1 h2
  by_cases hi : i < s.size
  ·obtain ⟨d, hd, hb⟩ := at_get s i hi
   have hw := wrN s hs (i := i) (by omega)
   rw [hd, hasB_cons]
   by_cases hc : (d.toNat : Int) = c
   ·rw [decide_eq_true hc, Bool.true_or]
    refine Evt.now fun k => ?_
    rw [numnahref08_occurs.l0, if_pos (by omega), if_pos (by omega), hb, if_pos hc]
   ·rw [decide_eq_false hc, Bool.false_or]
    refine Evt.step (fun k => ?_) (ih (i + 1) (by omega) (by omega))
    rw [numnahref08_occurs.l0, if_pos (by omega), if_pos (by omega), hb, if_neg hc, hw]
  ·exact ih i (by omega) h2
theorem occursE (c : Int) (s : ByteArray) (hs : s.size ≤ 140737488351232) : Evt (fun k => numnahref08_occurs.f k c s) (hasB c s.data.toList) := by
 have := occursL c s hs s.size 0 (by omega) (by omega)
 rw [List.drop_zero] at this
 exact this
def isVarB (c : Int) : Bool := decide (120 ≤ c) && decide (c ≤ 122)
theorem variable_eq (c : Int) : numnahref08_Variable.f c = some (isVarB c) := by
 unfold numnahref08_Variable.f isVarB
 by_cases h : c ≥ 120
 ·rw [if_pos h, decide_eq_true (show 120 ≤ c from h), Bool.true_and]
 ·rw [if_neg h, decide_eq_false (show ¬ 120 ≤ c from h), Bool.false_and]
/-- the variables of a text occur in another one -/
def varsIn (L : List UInt8) (R : List UInt8) : Bool := R.all (fun b => !isVarB (b.toNat : Int) || hasB (b.toNat : Int) L)
theorem rules_l1 (rs : List S94) (x3 : Int) (L R : ByteArray) (hL : L.size ≤ 140737488351232) (hR : R.size ≤ 140737488351232) (b : Bool) (hr : Evt (fun k => numnahref08_Rules.l0 k rs (wrap64 (x3 + 1))) b) : ∀ (n i : Nat), R.size - i ≤ n → i ≤ R.size → Evt (fun k => numnahref08_Rules.l1 k rs x3 L R (i : Int)) (varsIn L.data.toList (R.data.toList.drop i) && b) := by
 intro n
 induction n with
 | zero =>
  intro i h1 h2
  rw [List.drop_eq_nil_of_le (by simp; omega)]
  refine Evt.step (fun k => ?_) hr
  rw [numnahref08_Rules.l1, if_neg (by omega)]
 | succ n ih =>
  intro i h1 h2
  by_cases hi : i < R.size
  ·obtain ⟨d, hd, hb⟩ := at_get R i hi
   have hw := wrN R hR (i := i) (by omega)
   have ih' := ih (i + 1) (by omega) (by omega)
   have hv : varsIn L.data.toList (d :: R.data.toList.drop (i + 1)) = ((!isVarB (d.toNat : Int) || hasB (d.toNat : Int) L.data.toList) && varsIn L.data.toList (R.data.toList.drop (i + 1))) := List.all_cons
   rw [hd, hv, Bool.and_assoc]
   refine Evt.step (g' := fun k => if isVarB (d.toNat : Int) = true then ((numnahref08_occurs.f k (d.toNat : Int) L).bind fun t224 => (if t224 = true then (numnahref08_Rules.l1 k rs x3 L R ((i + 1 : Nat) : Int)) else (some false))) else (numnahref08_Rules.l1 k rs x3 L R ((i + 1 : Nat) : Int))) (fun k => ?_) ?_
   ·rw [numnahref08_Rules.l1, if_pos (by omega), if_pos (by omega), hb, variable_eq, Option.bind_some, hw]
   ·cases hB : isVarB (d.toNat : Int) with
    | false => exact Evt.neg (by simp) ih'
    | true =>
     refine Evt.pos rfl (Evt.bind (occursE _ L hL) ?_)
     cases hasB (d.toNat : Int) L.data.toList with
     | true => exact Evt.pos rfl ih'
     | false => exact Evt.neg (by simp) (Evt.all fun _ => rfl)
  ·exact ih i (by omega) h2
theorem isVarB_iff {c : Int} : isVarB c = true ↔ c = 120 ∨ c = 121 ∨ c = 122 := by
 unfold isVarB
 rw [Bool.and_eq_true, decide_eq_true_eq, decide_eq_true_eq]
 omega
theorem hasB_iff {c : Int} {l : List UInt8} : hasB c l = true ↔ ∃ b ∈ l, (b.toNat : Int) = c := by
 unfold hasB
 rw [List.any_eq_true]
 simp
theorem varsIn_eq {a b : Tm} (ha : a.good) (hb : b.good) : varsIn a.tx b.tx = (okVar a b 120 && (okVar a b 121 && okVar a b 122)) := by
 have key : ∀ c : Int, 120 ≤ c ∧ c ≤ 122 → (okVar a b c = true ↔ (hasB c b.tx = true → hasB c a.tx = true)) := fun c hc => by
  unfold okVar
  rw [occ_tx c hc a ha, occ_tx c hc b hb]
  cases occT c b <;> cases occT c a <;> simp
 rw [Bool.eq_iff_iff, Bool.and_eq_true, Bool.and_eq_true, key 120 (by omega), key 121 (by omega), key 122 (by omega)]
 unfold varsIn
 rw [List.all_eq_true]
 constructor
 ·intro h
  have g : ∀ c : Int, (c = 120 ∨ c = 121 ∨ c = 122) → hasB c b.tx = true → hasB c a.tx = true := fun c hc hh => by
   obtain ⟨x, hx, rfl⟩ := hasB_iff.1 hh
   have := h x hx
   rw [isVarB_iff.2 hc, Bool.not_true, Bool.false_or] at this
   exact this
  exact ⟨g 120 (by omega), g 121 (by omega), g 122 (by omega)⟩
 ·rintro ⟨h0, h1, h2⟩ x hx
  cases hv : isVarB (x.toNat : Int) with
  | false => rfl
  | true =>
   have hb : hasB (x.toNat : Int) b.tx = true := hasB_iff.2 ⟨x, hx, rfl⟩
   rw [Bool.not_true, Bool.false_or]
   rcases isVarB_iff.1 hv with e | e | e <;> rw [e] at hb ⊢
   ·exact h0 hb
   ·exact h1 hb
   ·exact h2 hb
theorem rd94_at (xs : List S94) (i : Nat) (h : i < xs.length) : rd_T94 xs (i : Int) = xs[i] := by
 unfold rd_T94
 rw [Int.toNat_natCast, List.getD_eq_getElem?_getD, List.getElem?_eq_getElem h]
 rfl
theorem text_data (t : Tm) : t.text.data.toList = t.tx := B8_list _
theorem sizeTE {s : ByteArray} {T : Tm} (hs : s.size ≤ 140737488351232) (h : readT s = some T) : Evt (fun k => numnahref08_Size.f k s) T.size := by
 have hsz := sizeE' s hs
 have hT := readT_iff.1 h
 have hcn : (cnt s.data.toList : Int) = T.size := by
  rw [hT.2.2, text_data]
  exact cnt_tx T hT.1
 rw [hcn] at hsz
 exact hsz
theorem tx_first (U : Tm) (h : U.good) : ∃ (d : UInt8) (l : List UInt8), U.tx = d :: l ∧ (d.toNat : Int) = (match U with | .var c => c | .app s _ => s) := by
 cases U with
 | var c =>
  rw [Tm.good] at h
  exact ⟨ch c, [], by rw [Tm.tx], ch_toNat (by omega)⟩
 | app s l =>
  have hl2 := good_len h
  rw [Tm.good] at h
  exact ⟨ch s, _, tx_app2 s l hl2, ch_toNat (by omega)⟩
theorem head_var {T : Tm} (h : T.good) : 0 < T.text.size ∧ isVarB (bt T.text 0) = isV T := by
 obtain ⟨d, l, h1, h2⟩ := tx_first T h
 have h3 : T.text.data.toList.drop 0 = d :: l := by rw [List.drop_zero, text_data, h1]
 obtain ⟨h4, h5, _⟩ := at_cons h3
 refine ⟨h4, ?_⟩
 have h5' : bt T.text 0 = (d.toNat : Int) := h5
 rw [h5', h2]
 cases T with
 | var c => rw [Tm.good] at h; show isVarB c = true; exact isVarB_iff.2 (by omega)
 | app s l => rw [Tm.good] at h; show isVarB s = false; rw [← Bool.not_eq_true, isVarB_iff]; omega
theorem rules_one (rs : List S94) (i : Nat) (h : i < rs.length) (hL : rs[i].f0.size ≤ 140737488351232) (hR : rs[i].f1.size ≤ 140737488351232) (b : Bool) (hr : Evt (fun k => numnahref08_Rules.l0 k rs (wrap64 ((i : Int) + 1))) b) :
  Evt (fun k => numnahref08_Rules.l0 k rs (i : Int)) ((lawT rs[i]).isSome && b) := by
 obtain ⟨L, hLe⟩ : ∃ L, L = rs[i].f0 := ⟨_, rfl⟩
 obtain ⟨R, hRe⟩ : ∃ R, R = rs[i].f1 := ⟨_, rfl⟩
 have hj : Evt (fun k => numnahref08_Rules.j1 k rs (i : Int) L R true) false := Evt.now fun k => by rw [numnahref08_Rules.j1, if_pos rfl]
 refine Evt.step (g' := fun k => (numnahref08_Term.f k L).bind fun t218 => (if t218 = true then ((numnahref08_Term.f k R).bind fun t219 => (if t219 = true then ((numnahref08_Size.f k L).bind fun t220 => (if t220 > 12 then (numnahref08_Rules.j1 k rs (i : Int) L R true) else ((numnahref08_Size.f k R).bind fun t221 => (if t221 > 12 then (numnahref08_Rules.j1 k rs (i : Int) L R true) else (if 0 < ((L).size : Int) then ((numnahref08_Variable.f (bt L 0)).bind fun t222 => (numnahref08_Rules.j1 k rs (i : Int) L R t222)) else (none)))))) else (numnahref08_Rules.j1 k rs (i : Int) L R true))) else (numnahref08_Rules.j1 k rs (i : Int) L R true))) (fun k => ?_) ?_
 ·rw [numnahref08_Rules.l0, if_pos (by omega), if_pos (by omega), rd94_at rs i h, ← hLe, ← hRe]
 rw [← hLe] at hL
 rw [← hRe] at hR
 have hlaw : lawT rs[i] = ((readT L).bind fun a => (readT R).map fun b => (a, b)).bind fun r => if okLaw r.1 r.2 then some r else none := by rw [hLe, hRe]; rfl
 rw [hlaw]
 refine Evt.bind (termRE L hL) ?_
 cases hA : readT L with
 | none => exact Evt.neg (by simp) hj
 | some A =>
  refine Evt.pos rfl (Evt.bind (termRE R hR) ?_)
  cases hB : readT R with
  | none => exact Evt.neg (by simp) hj
  | some B =>
   have gA := readT_iff.1 hA
   have gB := readT_iff.1 hB
   rw [Option.bind_some, Option.map_some, Option.bind_some]
   dsimp only
   unfold okLaw
   refine Evt.pos rfl (Evt.bind (sizeTE hL hA) ?_)
   by_cases h1 : A.size > 12
   ·rw [decide_eq_false (show ¬ A.size ≤ 12 by omega), Bool.false_and, Bool.and_false, if_neg (by simp)]
    exact Evt.pos h1 hj
   ·refine Evt.neg h1 (Evt.bind (sizeTE hR hB) ?_)
    rw [decide_eq_true (show A.size ≤ 12 by omega), Bool.true_and]
    by_cases h2 : B.size > 12
    ·rw [decide_eq_false (show ¬ B.size ≤ 12 by omega), Bool.false_and, Bool.and_false, if_neg (by simp)]
     exact Evt.pos h2 hj
    ·have hv := head_var gA.1
     rw [← gA.2.2] at hv
     refine Evt.neg h2 (Evt.pos (by omega) ?_)
     rw [decide_eq_true (show B.size ≤ 12 by omega), Bool.true_and, variable_eq, hv.2]
     cases hV : isV A with
     | true =>
      rw [Bool.not_true, Bool.false_and, if_neg (by simp)]
      exact hj
     | false =>
      have h3 := rules_l1 rs (i : Int) L R hL hR b hr R.size 0 (by omega) (by omega)
      rw [List.drop_zero, gA.2.2, gB.2.2, text_data, text_data, varsIn_eq gA.1 gB.1, ← gA.2.2, ← gB.2.2] at h3
      rw [Bool.not_false, Bool.true_and]
      refine Evt.step (g' := fun k => numnahref08_Rules.l1 k rs (i : Int) L R ((0 : Nat) : Int)) (fun k => ?_) (h3.val ?_)
      ·rw [Option.bind_some, numnahref08_Rules.j1, if_neg (by simp)]; rfl
      ·cases (okVar A B 120 && (okVar A B 121 && okVar A B 122)) <;> rfl
theorem rules_l0 (rs : List S94) (hl : rs.length ≤ 1000) (hz : ∀ x, x ∈ rs → x.f0.size ≤ 1000 ∧ x.f1.size ≤ 1000) : ∀ (n i : Nat), i + n = rs.length → Evt (fun k => numnahref08_Rules.l0 k rs (i : Int)) ((lawsT (rs.drop i)).isSome && decide ((rs.length : Int) ≤ 6))
 | 0, i, hi => by
  rw [List.drop_of_length_le (by omega), lawsT]
  refine Evt.now fun k => ?_
  rw [numnahref08_Rules.l0, if_neg (by omega)]
  rfl
 | n + 1, i, hi => by
  have hlt : i < rs.length := by omega
  have hz' := hz rs[i] (List.getElem_mem hlt)
  have ih := rules_l0 rs hl hz n (i + 1) (by omega)
  have hw : wrap64 ((i : Int) + 1) = ((i + 1 : Nat) : Int) := (wr (by omega) (by omega)).trans (by omega)
  rw [← hw] at ih
  refine (rules_one rs i hlt (by omega) (by omega) _ ih).val ?_
  rw [List.drop_eq_getElem_cons hlt, lawsT]
  cases lawT rs[i] with
  | none => rfl
  | some x => cases lawsT (rs.drop (i + 1)) <;> rfl
theorem rulesRE (rs : List S94) (hl : rs.length ≤ 1000) (hz : ∀ x, x ∈ rs → x.f0.size ≤ 1000 ∧ x.f1.size ≤ 1000) : Evt (fun k => numnahref08_Rules.f k rs) (newLawsT rs).isSome := by
 refine (rules_l0 rs hl hz rs.length 0 (by omega)).val ?_
 rw [List.drop_zero]
 unfold newLawsT
 by_cases h : rs.length ≤ 6
 ·rw [if_pos h, decide_eq_true (by omega), Bool.and_true]
 ·rw [if_neg h, decide_eq_false (by omega), Bool.and_false]; rfl
/-! ### laws, few -/
def okL (rs : List S94) : Prop := rs.length ≤ 7 ∧ ∀ x, x ∈ rs → x.f0.size ≤ 80 ∧ x.f1.size ≤ 80
theorem mn80 (n : Nat) : 0 ≤ mn (n : Int) 80 ∧ mn (n : Int) 80 ≤ (n : Int) ∧ mn (n : Int) 80 ≤ 80 := by unfold mn; split <;> omega
theorem lawsL (l : List S94) : ∀ (n i : Nat) (acc : List S94), i + n = 7 → i ≤ l.length → acc.length = i → (∀ x, x ∈ acc → x.f0.size ≤ 80 ∧ x.f1.size ≤ 80) → ∃ r, okL r ∧ Evt (fun k => numnahlaw08_laws.l0 k l acc (i : Int)) r
 | 0, i, acc, hi, hx, ha, hz => by
  refine ⟨acc, ⟨by omega, hz⟩, Evt.now fun k => ?_⟩
  rw [numnahlaw08_laws.l0, if_neg (show ¬ (i : Int) ≤ 6 by omega)]
  split <;> rfl
 | n + 1, i, acc, hi, hx, ha, hz => by
  by_cases hlt : i < l.length
  ·have hw : wrap64 ((i : Int) + 1) = ((i + 1 : Nat) : Int) := (wr (by omega) (by omega)).trans (by omega)
   have m0 := mn80 l[i].f0.size
   have m1 := mn80 l[i].f1.size
   obtain ⟨r, hr, hE⟩ := lawsL l n (i + 1) (acc ++ [⟨l[i].f0.extract 0 (mn (l[i].f0.size : Int) 80).toNat, l[i].f1.extract 0 (mn (l[i].f1.size : Int) 80).toNat⟩]) (by omega) (by omega) (by simp [ha]) (fun x hx => by
    rcases List.mem_append.1 hx with hx | hx
    ·exact hz x hx
    ·obtain rfl := List.mem_singleton.1 hx
     dsimp only
     rw [ByteArray.size_extract, ByteArray.size_extract]
     omega)
   refine ⟨r, hr, Evt.step (fun k => ?_) hE⟩
   rw [numnahlaw08_laws.l0, if_pos (by omega), if_pos (by omega), if_pos (by omega), rd94_at l i hlt, if_pos m0.1, if_pos m0.2.1, if_pos m1.1, if_pos m1.2.1, if_pos (by omega), hw]
  ·refine ⟨acc, ⟨by omega, hz⟩, Evt.now fun k => ?_⟩
   rw [numnahlaw08_laws.l0, if_neg (by omega)]
theorem lawsE (l : List S94) : ∃ r, okL r ∧ Evt (fun k => numnahlaw08_laws.f k l) r := lawsL l 7 0 [] (by omega) (by omega) rfl (by simp)
def okF (l : List ByteArray) : Prop := l.length ≤ 21 ∧ ∀ x, x ∈ l → x.size ≤ 400
theorem rdOf_at (xs : List ByteArray) (i : Nat) (h : i < xs.length) : rdOf ByteArray.empty xs (i : Int) = xs[i] := by
 unfold rdOf
 rw [Int.toNat_natCast, List.getD_eq_getElem?_getD, List.getElem?_eq_getElem h]
 rfl
theorem fewL (l : List ByteArray) : ∀ (n i : Nat) (acc : List ByteArray), i + n = 21 → i ≤ l.length → acc.length = i → (∀ x, x ∈ acc → x.size ≤ 400) → ∃ r, okF r ∧ Evt (fun k => numnahlaw08_few.l0 k l acc (i : Int)) r
 | 0, i, acc, hi, hx, ha, hz => by
  refine ⟨acc, ⟨by omega, hz⟩, Evt.now fun k => ?_⟩
  rw [numnahlaw08_few.l0, if_neg (show ¬ (i : Int) ≤ 20 by omega)]
  split <;> rfl
 | n + 1, i, acc, hi, hx, ha, hz => by
  by_cases hlt : i < l.length
  ·have hw : wrap64 ((i : Int) + 1) = ((i + 1 : Nat) : Int) := (wr (by omega) (by omega)).trans (by omega)
   obtain ⟨t, ht, hts⟩ := short_ev l[i]
   obtain ⟨r, hr, hE⟩ := fewL l n (i + 1) (acc ++ [t]) (by omega) (by omega) (by simp [ha]) (fun x hx => by
    rcases List.mem_append.1 hx with hx | hx
    ·exact hz x hx
    ·obtain rfl := List.mem_singleton.1 hx
     exact hts)
   refine ⟨r, hr, Evt.step (fun k => ?_) hE⟩
   rw [numnahlaw08_few.l0, if_pos (by omega), if_pos (by omega), if_pos (by omega), rdOf_at l i hlt, ht, Option.bind_some, if_pos (by omega), hw]
  ·refine ⟨acc, ⟨by omega, hz⟩, Evt.now fun k => ?_⟩
   rw [numnahlaw08_few.l0, if_neg (by omega)]
theorem fewE (l : List ByteArray) : ∃ r, okF r ∧ Evt (fun k => numnahlaw08_few.f k l) r := fewL l 21 0 [] (by omega) (by omega) rfl (by simp)
end Go.Proofs.YtaafeallcaiooaaGreat.Pr
-- indented by one
