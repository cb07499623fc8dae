/- grow: terms made from strings. -/
import Derived.Test.YtaafeallcaiooaaGreatPr0
import Derived.Test.YtaafeallcaiooaaGreatHEv
import Derived.Test.YtaafeallcaiooaaGreatHPt
-- Laid by wip/tools/inj.py of this project, which drives the kit's printer. Lean checks it.
namespace Go.Proofs.YtaafeallcaiooaaGreat.Pr
open Go.RowKit Go.Proofs.YtaafeallcaiooaaGreatW.PrintWords Go.Proofs.YtaafeallcaiooaaGreatW.PrintLast Go.Proofs.YtaafeallcaiooaaGreatW.PrintMore
attribute [local go_sem] max2_int min2_int max_two min_two max_three min_three max_four min_four   -- for this text's walks alone
set_option linter.unusedVariables false
set_option linter.unusedSimpArgs false

/-! ### numnahlaw08_grow: function 83 -/
mutual
def numnahlaw08_grow.j0 : Nat → ByteArray → Int → Int → Int → Bool → Option (ByteArray × Int)
  | 0, _, _, _, _, _ => none
  | k + 1, x0, x1, x2, x8, x31 => if x31 = true then (if 0 ≤ (Int.tmod x8 5) then (if (Int.tmod x8 5) ≤ (wrap64 ((Int.tmod x8 5) + 1)) then (if (wrap64 ((Int.tmod x8 5) + 1)) ≤ 5 then (some ((⟨#[97, 98, 120, 121, 122]⟩ : ByteArray).extract ((Int.tmod x8 5) : Int).toNat ((wrap64 ((Int.tmod x8 5) + 1)) : Int).toNat, wrap64 (x1 + 1))) else (none)) else (none)) else (none)) else (if 0 ≤ (wrap64 (x8 - 5)) then (if (wrap64 (x8 - 5)) ≤ (wrap64 (x8 - 4)) then (if (wrap64 (x8 - 4)) ≤ 6 then (if x8 < 8 then (numnahlaw08_grow.j1 k x0 x1 x2 x8 ((⟨#[99, 99, 100, 101, 101, 102]⟩ : ByteArray).extract ((wrap64 (x8 - 5)) : Int).toNat ((wrap64 (x8 - 4)) : Int).toNat) true) else (numnahlaw08_grow.j1 k x0 x1 x2 x8 ((⟨#[99, 99, 100, 101, 101, 102]⟩ : ByteArray).extract ((wrap64 (x8 - 5)) : Int).toNat ((wrap64 (x8 - 4)) : Int).toNat) (decide (x2 < 3)))) else (none)) else (none)) else (none))
def numnahlaw08_grow.j1 : Nat → ByteArray → Int → Int → Int → ByteArray → Bool → Option (ByteArray × Int)
  | 0, _, _, _, _, _, _ => none
  | k + 1, x0, x1, x2, x8, x9, x50 => if x50 = true then ((numnahlaw08_grow.f k x0 (wrap64 (x1 + 1)) (wrap64 (x2 - 1))).bind fun bt307 => (if x8 ≥ 8 then (if 1 + 1 ≤ 9223372036854775807 then (if 1 + bt307.1.size ≤ 9223372036854775807 then (if (((⟨#[100]⟩ : ByteArray) ++ (⟨#[40]⟩ : ByteArray)) ++ bt307.1).size + 1 ≤ 9223372036854775807 then (some ((((⟨#[100]⟩ : ByteArray) ++ (⟨#[40]⟩ : ByteArray)) ++ bt307.1) ++ (⟨#[41]⟩ : ByteArray), bt307.2)) else (none)) else (none)) else (none)) else (if x9.size + 1 ≤ 9223372036854775807 then (if (x9 ++ (⟨#[40]⟩ : ByteArray)).size + bt307.1.size ≤ 9223372036854775807 then (if ((x9 ++ (⟨#[40]⟩ : ByteArray)) ++ bt307.1).size + 1 ≤ 9223372036854775807 then (some (((x9 ++ (⟨#[40]⟩ : ByteArray)) ++ bt307.1) ++ (⟨#[41]⟩ : ByteArray), bt307.2)) else (none)) else (none)) else (none)))) else ((numnahlaw08_grow.f k x0 (wrap64 (x1 + 1)) (wrap64 (Int.tdiv (wrap64 (x2 - 1)) 2))).bind fun bt309 => ((numnahlaw08_grow.f k x0 bt309.2 (wrap64 ((wrap64 (x2 - 1)) - (wrap64 (Int.tdiv (wrap64 (x2 - 1)) 2))))).bind fun bt311 => (if x9.size + 1 ≤ 9223372036854775807 then (if (x9 ++ (⟨#[40]⟩ : ByteArray)).size + bt309.1.size ≤ 9223372036854775807 then (if ((x9 ++ (⟨#[40]⟩ : ByteArray)) ++ bt309.1).size + 1 ≤ 9223372036854775807 then (if (((x9 ++ (⟨#[40]⟩ : ByteArray)) ++ bt309.1) ++ (⟨#[44]⟩ : ByteArray)).size + bt311.1.size ≤ 9223372036854775807 then (if ((((x9 ++ (⟨#[40]⟩ : ByteArray)) ++ bt309.1) ++ (⟨#[44]⟩ : ByteArray)) ++ bt311.1).size + 1 ≤ 9223372036854775807 then (some (((((x9 ++ (⟨#[40]⟩ : ByteArray)) ++ bt309.1) ++ (⟨#[44]⟩ : ByteArray)) ++ bt311.1) ++ (⟨#[41]⟩ : ByteArray), bt311.2)) else (none)) else (none)) else (none)) else (none)) else (none))))
def numnahlaw08_grow.f : Nat → ByteArray → Int → Int → Option (ByteArray × Int)
  | 0, _, _, _ => none
  | k + 1, a0, a1, a2 => if a1 ≥ (a0.size : Int) then (some ((⟨#[97]⟩ : ByteArray), a1)) else (if 0 ≤ a1 then (if a1 < (a0.size : Int) then (if a2 < 2 then (numnahlaw08_grow.j0 k a0 a1 a2 (Int.tmod (wrap64 (bt a0 a1)) 11) true) else (numnahlaw08_grow.j0 k a0 a1 a2 (Int.tmod (wrap64 (bt a0 a1)) 11) (decide ((Int.tmod (wrap64 (bt a0 a1)) 11) < 5)))) else (none)) else (none))
end
theorem numnahlaw08_grow.mono_l : ∀ k, (∀ y0 y1 y2, LeO (numnahlaw08_grow.f k y0 y1 y2) (numnahlaw08_grow.f (k + 1) y0 y1 y2)) ∧ (∀ y0 y1 y2 y3 y4, LeO (numnahlaw08_grow.j0 k y0 y1 y2 y3 y4) (numnahlaw08_grow.j0 (k + 1) y0 y1 y2 y3 y4)) ∧ (∀ y0 y1 y2 y3 y4 y5, LeO (numnahlaw08_grow.j1 k y0 y1 y2 y3 y4 y5) (numnahlaw08_grow.j1 (k + 1) y0 y1 y2 y3 y4 y5))
  | 0 => ⟨fun _ _ _ r h => by simp [numnahlaw08_grow.f] at h, fun _ _ _ _ _ r h => by simp [numnahlaw08_grow.j0] at h, fun _ _ _ _ _ _ r h => by simp [numnahlaw08_grow.j1] at h⟩
  | k + 1 => by
    obtain ⟨ih0, ih1, ih2⟩ := numnahlaw08_grow.mono_l k
    refine ⟨?_, ?_, ?_⟩
    · intro y0 y1 y2
      unfold numnahlaw08_grow.f
      repeat' first
      | (with_reducible exact ih0 _ _ _)
      | (with_reducible exact ih1 _ _ _ _ _)
      | (with_reducible exact ih2 _ _ _ _ _ _)
      | (with_reducible exact LeO.refl _)
      | (with_reducible exact LeO.none _)
      | (with_reducible refine LeO.ite ?_ ?_)
      | (with_reducible refine LeO.bind ?_ (fun _ => ?_))
      | exact ih0 _ _ _
      | exact ih1 _ _ _ _ _
      | exact ih2 _ _ _ _ _ _
      | exact LeO.none _
      | refine LeO.ite ?_ ?_
      | refine LeO.bind ?_ (fun _ => ?_)
    · intro y0 y1 y2 y3 y4
      unfold numnahlaw08_grow.j0
      repeat' first
      | (with_reducible exact ih0 _ _ _)
      | (with_reducible exact ih1 _ _ _ _ _)
      | (with_reducible exact ih2 _ _ _ _ _ _)
      | (with_reducible exact LeO.refl _)
      | (with_reducible exact LeO.none _)
      | (with_reducible refine LeO.ite ?_ ?_)
      | (with_reducible refine LeO.bind ?_ (fun _ => ?_))
      | exact ih0 _ _ _
      | exact ih1 _ _ _ _ _
      | exact ih2 _ _ _ _ _ _
      | exact LeO.none _
      | refine LeO.ite ?_ ?_
      | refine LeO.bind ?_ (fun _ => ?_)
    · intro y0 y1 y2 y3 y4 y5
      unfold numnahlaw08_grow.j1
      repeat' first
      | (with_reducible exact ih0 _ _ _)
      | (with_reducible exact ih1 _ _ _ _ _)
      | (with_reducible exact ih2 _ _ _ _ _ _)
      | (with_reducible exact LeO.refl _)
      | (with_reducible exact LeO.none _)
      | (with_reducible refine LeO.ite ?_ ?_)
      | (with_reducible refine LeO.bind ?_ (fun _ => ?_))
      | exact ih0 _ _ _
      | exact ih1 _ _ _ _ _
      | exact ih2 _ _ _ _ _ _
      | exact LeO.none _
      | refine LeO.ite ?_ ?_
      | refine LeO.bind ?_ (fun _ => ?_)
theorem numnahlaw08_grow.mono : ∀ a0 a1 a2 k, LeO (numnahlaw08_grow.f k a0 a1 a2) (numnahlaw08_grow.f (k + 1) a0 a1 a2) := by
  intro a0 a1 a2 k
  obtain ⟨ih0, ih1, ih2⟩ := numnahlaw08_grow.mono_l k
  exact ih0 a0 a1 a2
/-! ### numnahlaw08_term: function 33 -/
def numnahlaw08_term.f (k : Nat) (a0 : ByteArray) (a1 : Int) : Option (ByteArray) := (numnahlaw08_grow.f k a0 0 a1).bind fun bt313 => (some bt313.1)
theorem numnahlaw08_term.mono : ∀ a0 a1 k, LeO (numnahlaw08_term.f k a0 a1) (numnahlaw08_term.f (k + 1) a0 a1) := by
  intro a0 a1 k
  unfold numnahlaw08_term.f
  repeat' first
      | (with_reducible exact numnahlaw08_grow.mono _ _ _ _)
      | (with_reducible exact LeO.refl _)
      | (with_reducible exact LeO.none _)
      | (with_reducible refine LeO.ite ?_ ?_)
      | (with_reducible refine LeO.bind ?_ (fun _ => ?_))
      | exact numnahlaw08_grow.mono _ _ _ _
      | exact LeO.none _
      | refine LeO.ite ?_ ?_
      | refine LeO.bind ?_ (fun _ => ?_)
end Go.Proofs.YtaafeallcaiooaaGreat.Pr
namespace Go.Proofs.YtaafeallcaiooaaGreat.Pr
open Go.RowKit Go.Proofs.YtaafeallcaiooaaGreatW.PrintWords Go.Proofs.YtaafeallcaiooaaGreatW.PrintLast Go.Proofs.YtaafeallcaiooaaGreatW.PrintMore
set_option linter.unusedVariables false
set_option linter.unusedSimpArgs false
theorem B8_app' (a b : List UInt8) : B8 a ++ B8 b = B8 (a ++ b) := by
  apply ByteArray.ext
  simp [B8]
theorem text_size (t : Tm) : t.text.size = t.tx.length := by
  show (B8 t.tx).size = _
  exact B8_size _
theorem text_le {t : Tm} (h : t.size ≤ 1000) : t.text.size ≤ 4000 := by
  have := tx_le t
  rw [text_size]
  omega
theorem B8_one (c : UInt8) : (⟨#[c]⟩ : ByteArray) = B8 [c] := rfl
theorem text1 (c : UInt8) (t : Tm) : (⟨#[c]⟩ : ByteArray) ++ ⟨#[40]⟩ ++ t.text ++ ⟨#[41]⟩ = (Tm.app (c.toNat : Int) [t]).text := by
  show (⟨#[c]⟩ : ByteArray) ++ ⟨#[40]⟩ ++ B8 t.tx ++ ⟨#[41]⟩ = B8 _
  rw [B8_one, B8_one, B8_one, B8_app', B8_app', B8_app', tx_app, ch_of]
  rfl
theorem text2 (c : UInt8) (t u : Tm) : (⟨#[c]⟩ : ByteArray) ++ ⟨#[40]⟩ ++ t.text ++ ⟨#[44]⟩ ++ u.text ++ ⟨#[41]⟩ = (Tm.app (c.toNat : Int) [t, u]).text := by
  show (⟨#[c]⟩ : ByteArray) ++ ⟨#[40]⟩ ++ B8 t.tx ++ ⟨#[44]⟩ ++ B8 u.tx ++ ⟨#[41]⟩ = B8 _
  rw [B8_one, B8_one, B8_one, B8_one, B8_app', B8_app', B8_app', B8_app', B8_app', tx_app, ch_of]
  rfl
theorem app1_good {c : Int} {t : Tm} (hc : c = 99 ∨ c = 100) (h : t.good) : (Tm.app c [t]).good := by
  rw [Tm.good, Tm.goods, Tm.goods]
  rcases hc with rfl | rfl <;> exact ⟨by omega, by simp [nParts], h, trivial⟩
theorem app2_good {c : Int} {t u : Tm} (hc : c = 101 ∨ c = 102) (h : t.good) (h2 : u.good) : (Tm.app c [t, u]).good := by
  rw [Tm.good, Tm.goods, Tm.goods, Tm.goods]
  rcases hc with rfl | rfl <;> exact ⟨by omega, by simp [nParts], h, h2, trivial⟩
theorem size1 (c : Int) (t : Tm) : (Tm.app c [t]).size = 1 + t.size := by rw [Tm.size, Tm.sizes, Tm.sizes]; omega
theorem size2 (c : Int) (t u : Tm) : (Tm.app c [t, u]).size = 1 + t.size + u.size := by rw [Tm.size, Tm.sizes, Tm.sizes, Tm.sizes]; omega
/-- the letter alone -/
def ltT (x : Int) : Tm := if x % 5 = 0 then .app 97 [] else if x % 5 = 1 then .app 98 [] else if x % 5 = 2 then .var 120 else if x % 5 = 3 then .var 121 else .var 122
theorem ltT_good (x : Int) : (ltT x).good ∧ (ltT x).size = 1 := by
  unfold ltT
  split
  · exact ⟨by rw [Tm.good, Tm.goods]; exact ⟨by omega, by decide, trivial⟩, by rw [Tm.size, Tm.sizes]; rfl⟩
  · split
    · exact ⟨by rw [Tm.good, Tm.goods]; exact ⟨by omega, by decide, trivial⟩, by rw [Tm.size, Tm.sizes]; rfl⟩
    · split
      · exact ⟨by rw [Tm.good]; omega, by rw [Tm.size]⟩
      · split
        · exact ⟨by rw [Tm.good]; omega, by rw [Tm.size]⟩
        · exact ⟨by rw [Tm.good]; omega, by rw [Tm.size]⟩
theorem j0_l0 (s : ByteArray) (a1 a2 : Int) (k : Nat) : numnahlaw08_grow.j0 (k + 1) s a1 a2 0 true = some ((ltT 0).text, wrap64 (a1 + 1)) := by kernel_rfl
theorem j0_l1 (s : ByteArray) (a1 a2 : Int) (k : Nat) : numnahlaw08_grow.j0 (k + 1) s a1 a2 1 true = some ((ltT 1).text, wrap64 (a1 + 1)) := by kernel_rfl
theorem j0_l2 (s : ByteArray) (a1 a2 : Int) (k : Nat) : numnahlaw08_grow.j0 (k + 1) s a1 a2 2 true = some ((ltT 2).text, wrap64 (a1 + 1)) := by kernel_rfl
theorem j0_l3 (s : ByteArray) (a1 a2 : Int) (k : Nat) : numnahlaw08_grow.j0 (k + 1) s a1 a2 3 true = some ((ltT 3).text, wrap64 (a1 + 1)) := by kernel_rfl
theorem j0_l4 (s : ByteArray) (a1 a2 : Int) (k : Nat) : numnahlaw08_grow.j0 (k + 1) s a1 a2 4 true = some ((ltT 4).text, wrap64 (a1 + 1)) := by kernel_rfl
theorem j0_l5 (s : ByteArray) (a1 a2 : Int) (k : Nat) : numnahlaw08_grow.j0 (k + 1) s a1 a2 5 true = some ((ltT 5).text, wrap64 (a1 + 1)) := by kernel_rfl
theorem j0_l6 (s : ByteArray) (a1 a2 : Int) (k : Nat) : numnahlaw08_grow.j0 (k + 1) s a1 a2 6 true = some ((ltT 6).text, wrap64 (a1 + 1)) := by kernel_rfl
theorem j0_l7 (s : ByteArray) (a1 a2 : Int) (k : Nat) : numnahlaw08_grow.j0 (k + 1) s a1 a2 7 true = some ((ltT 7).text, wrap64 (a1 + 1)) := by kernel_rfl
theorem j0_l8 (s : ByteArray) (a1 a2 : Int) (k : Nat) : numnahlaw08_grow.j0 (k + 1) s a1 a2 8 true = some ((ltT 8).text, wrap64 (a1 + 1)) := by kernel_rfl
theorem j0_l9 (s : ByteArray) (a1 a2 : Int) (k : Nat) : numnahlaw08_grow.j0 (k + 1) s a1 a2 9 true = some ((ltT 9).text, wrap64 (a1 + 1)) := by kernel_rfl
theorem j0_l10 (s : ByteArray) (a1 a2 : Int) (k : Nat) : numnahlaw08_grow.j0 (k + 1) s a1 a2 10 true = some ((ltT 10).text, wrap64 (a1 + 1)) := by kernel_rfl
theorem j0_letter (s : ByteArray) (a1 a2 x : Int) (hx : 0 ≤ x ∧ x ≤ 10) (k : Nat) : numnahlaw08_grow.j0 (k + 1) s a1 a2 x true = some ((ltT x).text, wrap64 (a1 + 1)) := by
  have : x = 0 ∨ x = 1 ∨ x = 2 ∨ x = 3 ∨ x = 4 ∨ x = 5 ∨ x = 6 ∨ x = 7 ∨ x = 8 ∨ x = 9 ∨ x = 10 := by omega
  rcases this with rfl | rfl | rfl | rfl | rfl | rfl | rfl | rfl | rfl | rfl | rfl
  · exact j0_l0 s a1 a2 k
  · exact j0_l1 s a1 a2 k
  · exact j0_l2 s a1 a2 k
  · exact j0_l3 s a1 a2 k
  · exact j0_l4 s a1 a2 k
  · exact j0_l5 s a1 a2 k
  · exact j0_l6 s a1 a2 k
  · exact j0_l7 s a1 a2 k
  · exact j0_l8 s a1 a2 k
  · exact j0_l9 s a1 a2 k
  · exact j0_l10 s a1 a2 k
def headB (x : Int) : UInt8 := if x ≤ 6 then 99 else if x = 7 then 100 else if x ≤ 9 then 101 else 102
theorem j0_h5 (s : ByteArray) (a1 a2 : Int) (k : Nat) : numnahlaw08_grow.j0 (k + 1) s a1 a2 5 false = if (5 : Int) < 8 then numnahlaw08_grow.j1 k s a1 a2 5 ⟨#[headB 5]⟩ true else numnahlaw08_grow.j1 k s a1 a2 5 ⟨#[headB 5]⟩ (decide (a2 < 3)) := by kernel_rfl
theorem j0_h6 (s : ByteArray) (a1 a2 : Int) (k : Nat) : numnahlaw08_grow.j0 (k + 1) s a1 a2 6 false = if (6 : Int) < 8 then numnahlaw08_grow.j1 k s a1 a2 6 ⟨#[headB 6]⟩ true else numnahlaw08_grow.j1 k s a1 a2 6 ⟨#[headB 6]⟩ (decide (a2 < 3)) := by kernel_rfl
theorem j0_h7 (s : ByteArray) (a1 a2 : Int) (k : Nat) : numnahlaw08_grow.j0 (k + 1) s a1 a2 7 false = if (7 : Int) < 8 then numnahlaw08_grow.j1 k s a1 a2 7 ⟨#[headB 7]⟩ true else numnahlaw08_grow.j1 k s a1 a2 7 ⟨#[headB 7]⟩ (decide (a2 < 3)) := by kernel_rfl
theorem j0_h8 (s : ByteArray) (a1 a2 : Int) (k : Nat) : numnahlaw08_grow.j0 (k + 1) s a1 a2 8 false = if (8 : Int) < 8 then numnahlaw08_grow.j1 k s a1 a2 8 ⟨#[headB 8]⟩ true else numnahlaw08_grow.j1 k s a1 a2 8 ⟨#[headB 8]⟩ (decide (a2 < 3)) := by kernel_rfl
theorem j0_h9 (s : ByteArray) (a1 a2 : Int) (k : Nat) : numnahlaw08_grow.j0 (k + 1) s a1 a2 9 false = if (9 : Int) < 8 then numnahlaw08_grow.j1 k s a1 a2 9 ⟨#[headB 9]⟩ true else numnahlaw08_grow.j1 k s a1 a2 9 ⟨#[headB 9]⟩ (decide (a2 < 3)) := by kernel_rfl
theorem j0_h10 (s : ByteArray) (a1 a2 : Int) (k : Nat) : numnahlaw08_grow.j0 (k + 1) s a1 a2 10 false = if (10 : Int) < 8 then numnahlaw08_grow.j1 k s a1 a2 10 ⟨#[headB 10]⟩ true else numnahlaw08_grow.j1 k s a1 a2 10 ⟨#[headB 10]⟩ (decide (a2 < 3)) := by kernel_rfl
theorem j0_head (s : ByteArray) (a1 a2 x : Int) (hx : 5 ≤ x ∧ x ≤ 10) (k : Nat) : numnahlaw08_grow.j0 (k + 1) s a1 a2 x false = if x < 8 then numnahlaw08_grow.j1 k s a1 a2 x ⟨#[headB x]⟩ true else numnahlaw08_grow.j1 k s a1 a2 x ⟨#[headB x]⟩ (decide (a2 < 3)) := by
  have : x = 5 ∨ x = 6 ∨ x = 7 ∨ x = 8 ∨ x = 9 ∨ x = 10 := by omega
  rcases this with rfl | rfl | rfl | rfl | rfl | rfl
  · exact j0_h5 s a1 a2 k
  · exact j0_h6 s a1 a2 k
  · exact j0_h7 s a1 a2 k
  · exact j0_h8 s a1 a2 k
  · exact j0_h9 s a1 a2 k
  · exact j0_h10 s a1 a2 k
theorem j1_one {s : ByteArray} {a1 a2 x a' : Int} {h : UInt8} {t : Tm} (hE : Evt (fun k => numnahlaw08_grow.f k s (wrap64 (a1 + 1)) (wrap64 (a2 - 1))) (t.text, a')) (ht : t.size ≤ 1000) : Evt (fun k => numnahlaw08_grow.j1 k s a1 a2 x ⟨#[h]⟩ true) ((Tm.app (if x ≥ 8 then 100 else (h.toNat : Int)) [t]).text, a') := by
  have hsz := text_le ht
  have e1 : ∀ c : UInt8, (⟨#[c]⟩ : ByteArray).size = 1 := fun _ => rfl
  refine Evt.step (g' := fun k => (numnahlaw08_grow.f k s (wrap64 (a1 + 1)) (wrap64 (a2 - 1))).bind fun bt307 => _) (fun k => by rw [numnahlaw08_grow.j1, if_pos rfl]) (Evt.bind hE (Evt.all fun k => ?_))
  dsimp only
  by_cases hx : x ≥ 8
  · rw [if_pos hx, if_pos hx, if_pos (by decide), if_pos (by omega), if_pos (by rw [ByteArray.size_append, ByteArray.size_append, e1, e1]; omega)]
    rw [text1]
    rfl
  · rw [if_neg hx, if_neg hx, if_pos (by rw [e1]; decide), if_pos (by rw [ByteArray.size_append, e1, e1]; omega), if_pos (by rw [ByteArray.size_append, ByteArray.size_append, e1, e1]; omega)]
    rw [text1]
theorem j1_two {s : ByteArray} {a1 a2 x a' a'' : Int} {h : UInt8} {t u : Tm} (hE : Evt (fun k => numnahlaw08_grow.f k s (wrap64 (a1 + 1)) (wrap64 (Int.tdiv (wrap64 (a2 - 1)) 2))) (t.text, a')) (hE2 : Evt (fun k => numnahlaw08_grow.f k s a' (wrap64 ((wrap64 (a2 - 1)) - (wrap64 (Int.tdiv (wrap64 (a2 - 1)) 2))))) (u.text, a'')) (ht : t.size ≤ 1000) (hu : u.size ≤ 1000) : Evt (fun k => numnahlaw08_grow.j1 k s a1 a2 x ⟨#[h]⟩ false) ((Tm.app (h.toNat : Int) [t, u]).text, a'') := by
  have hsz := text_le ht
  have hsu := text_le hu
  have e1 : ∀ c : UInt8, (⟨#[c]⟩ : ByteArray).size = 1 := fun _ => rfl
  refine Evt.step (g' := fun k => (numnahlaw08_grow.f k s (wrap64 (a1 + 1)) (wrap64 (Int.tdiv (wrap64 (a2 - 1)) 2))).bind fun bt309 => ((numnahlaw08_grow.f k s bt309.2 (wrap64 ((wrap64 (a2 - 1)) - (wrap64 (Int.tdiv (wrap64 (a2 - 1)) 2))))).bind fun bt311 => _)) (fun k => by rw [numnahlaw08_grow.j1, if_neg (by simp)]) (Evt.bind hE (Evt.bind hE2 (Evt.all fun k => ?_)))
  dsimp only
  simp only [ByteArray.size_append, e1]
  rw [if_pos (by decide), if_pos (by omega), if_pos (by omega), if_pos (by omega), if_pos (by omega), text2]
theorem bt_range (s : ByteArray) (i : Int) : 0 ≤ bt s i ∧ bt s i ≤ 255 := by
  unfold bt
  split
  · have := (s[i.toNat]'(by assumption)).toNat_lt
    omega
  · omega
/-- grow makes a term of at most so many symbols -/
theorem growE (s : ByteArray) (hs : s.size ≤ 9223372036854775807) : ∀ (n : Nat) (a1 a2 : Int), 0 ≤ a1 → a1 ≤ 9223372036854775807 → 1 ≤ a2 → a2 ≤ n → n ≤ 1000 →
    ∃ (t : Tm) (a' : Int), Evt (fun k => numnahlaw08_grow.f k s a1 a2) (t.text, a') ∧ t.good ∧ t.size ≤ a2 ∧ 0 ≤ a' ∧ a' ≤ 9223372036854775807
  | 0, a1, a2, _, _, h3, h4, _ => by omega
  | n + 1, a1, a2, h1, h2, h3, h4, hn => by
    by_cases he : a1 ≥ (s.size : Int)
    · exact ⟨.app 97 [], a1, Evt.now fun k => by rw [numnahlaw08_grow.f, if_pos he]; rfl, by rw [Tm.good, Tm.goods]; exact ⟨by omega, by decide, trivial⟩, by rw [Tm.size, Tm.sizes]; omega, h1, h2⟩
    · obtain ⟨x, hx⟩ : ∃ x, x = Int.tmod (wrap64 (bt s a1)) 11 := ⟨_, rfl⟩
      have hb := bt_range s a1
      have hxr : 0 ≤ x ∧ x ≤ 10 := by
        rw [hx, wr (by omega) (by omega), Int.tmod_eq_emod_of_nonneg hb.1]
        omega
      have hw1 : wrap64 (a1 + 1) = a1 + 1 := wr (by omega) (by omega)
      have hw2 : wrap64 (a2 - 1) = a2 - 1 := wr (by omega) (by omega)
      have hf : ∀ k, numnahlaw08_grow.f (k + 1) s a1 a2 = if a2 < 2 then numnahlaw08_grow.j0 k s a1 a2 x true else numnahlaw08_grow.j0 k s a1 a2 x (decide (x < 5)) := fun k => by
        rw [numnahlaw08_grow.f, if_neg he, if_pos h1, if_pos (by omega), ← hx]
      have hlet : (a2 < 2 ∨ x < 5) → Evt (fun k => numnahlaw08_grow.f k s a1 a2) ((ltT x).text, a1 + 1) := fun hc => by
        refine Evt.step (g' := fun k => numnahlaw08_grow.j0 k s a1 a2 x true) (fun k => ?_) (Evt.now fun k => ?_)
        · rw [hf]
          by_cases h : a2 < 2
          · rw [if_pos h]
          · rw [if_neg h, decide_eq_true (hc.resolve_left h)]
        · rw [j0_letter s a1 a2 x hxr, hw1]
      by_cases hc : a2 < 2 ∨ x < 5
      · exact ⟨ltT x, a1 + 1, hlet hc, (ltT_good x).1, by rw [(ltT_good x).2]; omega, by omega, by omega⟩
      · have hc2 : ¬ a2 < 2 ∧ ¬ x < 5 := ⟨fun h => hc (.inl h), fun h => hc (.inr h)⟩
        have hstep : ∀ {b : Bool} {r : ByteArray × Int}, (x < 8 → b = true) → (¬ x < 8 → b = decide (a2 < 3)) → Evt (fun k => numnahlaw08_grow.j1 k s a1 a2 x ⟨#[headB x]⟩ b) r → Evt (fun k => numnahlaw08_grow.f k s a1 a2) r := fun {b r} hb1 hb2 hE => by
          refine Evt.step (g' := fun k => numnahlaw08_grow.j0 k s a1 a2 x false) (fun k => ?_) (Evt.step (g' := fun k => numnahlaw08_grow.j1 k s a1 a2 x ⟨#[headB x]⟩ b) (fun k => ?_) hE)
          · rw [hf, if_neg hc2.1, decide_eq_false hc2.2]
          · rw [j0_head s a1 a2 x (by omega)]
            by_cases h8 : x < 8
            · rw [if_pos h8, hb1 h8]
            · rw [if_neg h8, hb2 h8]
        by_cases ho : x < 8 ∨ a2 < 3
        · obtain ⟨t, a', hE, hg, hsz, h5, h6⟩ := growE s hs n (a1 + 1) (a2 - 1) (by omega) (by omega) (by omega) (by omega) (by omega)
          have hE' : Evt (fun k => numnahlaw08_grow.f k s (wrap64 (a1 + 1)) (wrap64 (a2 - 1))) (t.text, a') := by rw [hw1, hw2]; exact hE
          refine ⟨_, a', hstep (b := true) (fun _ => rfl) (fun h => (decide_eq_true (ho.resolve_left h)).symm) (j1_one (x := x) (h := headB x) hE' (by omega)), app1_good ?_ hg, by rw [size1]; omega, h5, h6⟩
          have : x = 5 ∨ x = 6 ∨ x = 7 ∨ x = 8 ∨ x = 9 ∨ x = 10 := by omega
          clear hx hf hlet hstep
          rcases this with rfl | rfl | rfl | rfl | rfl | rfl <;> decide
        · have ho2 : ¬ x < 8 ∧ ¬ a2 < 3 := ⟨fun h => ho (.inl h), fun h => ho (.inr h)⟩
          have hdv : Int.tdiv (a2 - 1) 2 = (a2 - 1) / 2 := Int.tdiv_eq_ediv_of_nonneg (by omega)
          obtain ⟨t, a', hE, hg, hsz, h5, h6⟩ := growE s hs n (a1 + 1) ((a2 - 1) / 2) (by omega) (by omega) (by omega) (by omega) (by omega)
          obtain ⟨u, a'', hE2, hg2, hsz2, h7, h8⟩ := growE s hs n a' (a2 - 1 - (a2 - 1) / 2) h5 h6 (by omega) (by omega) (by omega)
          have hw3 : wrap64 (Int.tdiv (wrap64 (a2 - 1)) 2) = (a2 - 1) / 2 := by rw [hw2, hdv]; exact wr (by omega) (by omega)
          have hw4 : wrap64 ((wrap64 (a2 - 1)) - (wrap64 (Int.tdiv (wrap64 (a2 - 1)) 2))) = a2 - 1 - (a2 - 1) / 2 := by rw [hw3, hw2]; exact wr (by omega) (by omega)
          have hE' : Evt (fun k => numnahlaw08_grow.f k s (wrap64 (a1 + 1)) (wrap64 (Int.tdiv (wrap64 (a2 - 1)) 2))) (t.text, a') := by rw [hw1, hw3]; exact hE
          have hE2' : Evt (fun k => numnahlaw08_grow.f k s a' (wrap64 ((wrap64 (a2 - 1)) - (wrap64 (Int.tdiv (wrap64 (a2 - 1)) 2))))) (u.text, a'') := by rw [hw4]; exact hE2
          refine ⟨_, a'', hstep (b := false) (fun h => absurd h ho2.1) (fun _ => (decide_eq_false ho2.2).symm) (j1_two (x := x) (h := headB x) hE' hE2' (by omega) (by omega)), app2_good ?_ hg hg2, by rw [size2]; omega, h7, h8⟩
          have : x = 8 ∨ x = 9 ∨ x = 10 := by omega
          clear hx hf hlet hstep
          rcases this with rfl | rfl | rfl <;> decide
end Go.Proofs.YtaafeallcaiooaaGreat.Pr
