/- grow: terms made from strings. -/
import Derived.Test.YtaafeallcaiooaaGreatPr0
import Derived.Test.YtaafeallcaiooaaGreatHPt
import Derived.Test.YtaafeallcaiooaaGreatPrA11
/- Tools of the plain laws: with enough rounds. -/
namespace Go.Proofs.YtaafeallcaiooaaGreat.Pr
open Go.RowKit Go.Proofs.YtaafeallcaiooaaGreatW.PrintWords Go.Proofs.YtaafeallcaiooaaGreatW.PrintLast Go.Proofs.YtaafeallcaiooaaGreatW.PrintMore
set_option linter.unusedVariables false
set_option linter.unusedSimpArgs false

/-- with enough rounds: this answer -/
def Evt {α : Type} (g : Nat → Option α) (r : α) : Prop := ∃ K, ∀ k, K ≤ k → g k = some r
theorem Evt.bind {α β : Type} {g : Nat → Option α} {h : Nat → α → Option β} {a : α} {b : β} (hg : Evt g a) (hh : Evt (fun k => h k a) b) : Evt (fun k => (g k).bind (h k)) b := by
  obtain ⟨K, h1⟩ := hg
  obtain ⟨K', h2⟩ := hh
  refine ⟨max K K', fun k hk => ?_⟩
  show (g k).bind (h k) = some b
  rw [h1 k (by omega), Option.bind_some]
  exact h2 k (by omega)
theorem Evt.ex {α : Type} {g : Nat → Option α} {r : α} (h : Evt g r) : ∃ k, g k = some r := by
  obtain ⟨K, h⟩ := h
  exact ⟨K, h K (Nat.le_refl _)⟩
theorem Evt.congr {α : Type} {g g' : Nat → Option α} {r : α} (h : Evt g r) (e : ∀ k, g' k = g k) : Evt g' r := by
  obtain ⟨K, h⟩ := h
  exact ⟨K, fun k hk => (e k).trans (h k hk)⟩
theorem Evt.val {α : Type} {g : Nat → Option α} {r r' : α} (h : Evt g r) (e : r = r') : Evt g r' := e ▸ h
/-- one round -/
theorem Evt.succ {α : Type} {g : Nat → Option α} {r : α} (h : Evt (fun k => g (k + 1)) r) : Evt g r := by
  obtain ⟨K, h⟩ := h
  refine ⟨K + 1, fun k hk => ?_⟩
  obtain ⟨m, rfl⟩ : ∃ m, k = m + 1 := ⟨k - 1, by omega⟩
  exact h m (by omega)
theorem Evt.step {α : Type} {g g' : Nat → Option α} {r : α} (e : ∀ k, g (k + 1) = g' k) (h : Evt g' r) : Evt g r := Evt.succ (h.congr e)
theorem Evt.now {α : Type} {g : Nat → Option α} {r : α} (e : ∀ k, g (k + 1) = some r) : Evt g r := Evt.succ ⟨0, fun k _ => e k⟩
theorem Evt.all {α : Type} {g : Nat → Option α} {r : α} (e : ∀ k, g k = some r) : Evt g r := ⟨0, fun k _ => e k⟩
end Go.Proofs.YtaafeallcaiooaaGreat.Pr
namespace Go.Proofs.YtaafeallcaiooaaGreat.Pr
open Go.RowKit Go.Proofs.YtaafeallcaiooaaGreatW.PrintWords Go.Proofs.YtaafeallcaiooaaGreatW.PrintLast Go.Proofs.YtaafeallcaiooaaGreatW.PrintMore
set_option linter.unusedVariables false
set_option linter.unusedSimpArgs false
theorem B8_app' (a b : List UInt8) : B8 a ++ B8 b = B8 (a ++ b) := by
  apply ByteArray.ext
  simp [B8]
theorem text_size (t : Tm) : t.text.size = t.tx.length := by
  show (B8 t.tx).size = _
  exact B8_size _
theorem text_le {t : Tm} (h : t.size ≤ 1000) : t.text.size ≤ 4000 := by
  have := tx_le t
  rw [text_size]
  omega
theorem B8_one (c : UInt8) : (⟨#[c]⟩ : ByteArray) = B8 [c] := rfl
theorem text1 (c : UInt8) (t : Tm) : (⟨#[c]⟩ : ByteArray) ++ ⟨#[40]⟩ ++ t.text ++ ⟨#[41]⟩ = (Tm.app (c.toNat : Int) [t]).text := by
  show (⟨#[c]⟩ : ByteArray) ++ ⟨#[40]⟩ ++ B8 t.tx ++ ⟨#[41]⟩ = B8 _
  rw [B8_one, B8_one, B8_one, B8_app', B8_app', B8_app', tx_app, ch_of]
  rfl
theorem text2 (c : UInt8) (t u : Tm) : (⟨#[c]⟩ : ByteArray) ++ ⟨#[40]⟩ ++ t.text ++ ⟨#[44]⟩ ++ u.text ++ ⟨#[41]⟩ = (Tm.app (c.toNat : Int) [t, u]).text := by
  show (⟨#[c]⟩ : ByteArray) ++ ⟨#[40]⟩ ++ B8 t.tx ++ ⟨#[44]⟩ ++ B8 u.tx ++ ⟨#[41]⟩ = B8 _
  rw [B8_one, B8_one, B8_one, B8_one, B8_app', B8_app', B8_app', B8_app', B8_app', tx_app, ch_of]
  rfl
theorem app1_good {c : Int} {t : Tm} (hc : c = 99 ∨ c = 100) (h : t.good) : (Tm.app c [t]).good := by
  rw [Tm.good, Tm.goods, Tm.goods]
  rcases hc with rfl | rfl <;> exact ⟨by omega, by simp [nParts], h, trivial⟩
theorem app2_good {c : Int} {t u : Tm} (hc : c = 101 ∨ c = 102) (h : t.good) (h2 : u.good) : (Tm.app c [t, u]).good := by
  rw [Tm.good, Tm.goods, Tm.goods, Tm.goods]
  rcases hc with rfl | rfl <;> exact ⟨by omega, by simp [nParts], h, h2, trivial⟩
theorem size1 (c : Int) (t : Tm) : (Tm.app c [t]).size = 1 + t.size := by rw [Tm.size, Tm.sizes, Tm.sizes]; omega
theorem size2 (c : Int) (t u : Tm) : (Tm.app c [t, u]).size = 1 + t.size + u.size := by rw [Tm.size, Tm.sizes, Tm.sizes, Tm.sizes]; omega
/-- the letter alone -/
def ltT (x : Int) : Tm := if x % 5 = 0 then .app 97 [] else if x % 5 = 1 then .app 98 [] else if x % 5 = 2 then .var 120 else if x % 5 = 3 then .var 121 else .var 122
theorem ltT_good (x : Int) : (ltT x).good ∧ (ltT x).size = 1 := by
  unfold ltT
  split
  · exact ⟨by rw [Tm.good, Tm.goods]; exact ⟨by omega, by decide, trivial⟩, by rw [Tm.size, Tm.sizes]; rfl⟩
  · split
    · exact ⟨by rw [Tm.good, Tm.goods]; exact ⟨by omega, by decide, trivial⟩, by rw [Tm.size, Tm.sizes]; rfl⟩
    · split
      · exact ⟨by rw [Tm.good]; omega, by rw [Tm.size]⟩
      · split
        · exact ⟨by rw [Tm.good]; omega, by rw [Tm.size]⟩
        · exact ⟨by rw [Tm.good]; omega, by rw [Tm.size]⟩
theorem j0_l0 (s : ByteArray) (a1 a2 : Int) (k : Nat) : numnahlaw08_grow.j0 (k + 1) s a1 a2 0 true = some ((ltT 0).text, wrap64 (a1 + 1)) := by kernel_rfl
theorem j0_l1 (s : ByteArray) (a1 a2 : Int) (k : Nat) : numnahlaw08_grow.j0 (k + 1) s a1 a2 1 true = some ((ltT 1).text, wrap64 (a1 + 1)) := by kernel_rfl
theorem j0_l2 (s : ByteArray) (a1 a2 : Int) (k : Nat) : numnahlaw08_grow.j0 (k + 1) s a1 a2 2 true = some ((ltT 2).text, wrap64 (a1 + 1)) := by kernel_rfl
theorem j0_l3 (s : ByteArray) (a1 a2 : Int) (k : Nat) : numnahlaw08_grow.j0 (k + 1) s a1 a2 3 true = some ((ltT 3).text, wrap64 (a1 + 1)) := by kernel_rfl
theorem j0_l4 (s : ByteArray) (a1 a2 : Int) (k : Nat) : numnahlaw08_grow.j0 (k + 1) s a1 a2 4 true = some ((ltT 4).text, wrap64 (a1 + 1)) := by kernel_rfl
theorem j0_l5 (s : ByteArray) (a1 a2 : Int) (k : Nat) : numnahlaw08_grow.j0 (k + 1) s a1 a2 5 true = some ((ltT 5).text, wrap64 (a1 + 1)) := by kernel_rfl
theorem j0_l6 (s : ByteArray) (a1 a2 : Int) (k : Nat) : numnahlaw08_grow.j0 (k + 1) s a1 a2 6 true = some ((ltT 6).text, wrap64 (a1 + 1)) := by kernel_rfl
theorem j0_l7 (s : ByteArray) (a1 a2 : Int) (k : Nat) : numnahlaw08_grow.j0 (k + 1) s a1 a2 7 true = some ((ltT 7).text, wrap64 (a1 + 1)) := by kernel_rfl
theorem j0_l8 (s : ByteArray) (a1 a2 : Int) (k : Nat) : numnahlaw08_grow.j0 (k + 1) s a1 a2 8 true = some ((ltT 8).text, wrap64 (a1 + 1)) := by kernel_rfl
theorem j0_l9 (s : ByteArray) (a1 a2 : Int) (k : Nat) : numnahlaw08_grow.j0 (k + 1) s a1 a2 9 true = some ((ltT 9).text, wrap64 (a1 + 1)) := by kernel_rfl
theorem j0_l10 (s : ByteArray) (a1 a2 : Int) (k : Nat) : numnahlaw08_grow.j0 (k + 1) s a1 a2 10 true = some ((ltT 10).text, wrap64 (a1 + 1)) := by kernel_rfl
theorem j0_letter (s : ByteArray) (a1 a2 x : Int) (hx : 0 ≤ x ∧ x ≤ 10) (k : Nat) : numnahlaw08_grow.j0 (k + 1) s a1 a2 x true = some ((ltT x).text, wrap64 (a1 + 1)) := by
  have : x = 0 ∨ x = 1 ∨ x = 2 ∨ x = 3 ∨ x = 4 ∨ x = 5 ∨ x = 6 ∨ x = 7 ∨ x = 8 ∨ x = 9 ∨ x = 10 := by omega
  rcases this with rfl | rfl | rfl | rfl | rfl | rfl | rfl | rfl | rfl | rfl | rfl
  · exact j0_l0 s a1 a2 k
  · exact j0_l1 s a1 a2 k
  · exact j0_l2 s a1 a2 k
  · exact j0_l3 s a1 a2 k
  · exact j0_l4 s a1 a2 k
  · exact j0_l5 s a1 a2 k
  · exact j0_l6 s a1 a2 k
  · exact j0_l7 s a1 a2 k
  · exact j0_l8 s a1 a2 k
  · exact j0_l9 s a1 a2 k
  · exact j0_l10 s a1 a2 k
def headB (x : Int) : UInt8 := if x ≤ 6 then 99 else if x = 7 then 100 else if x ≤ 9 then 101 else 102
theorem j0_h5 (s : ByteArray) (a1 a2 : Int) (k : Nat) : numnahlaw08_grow.j0 (k + 1) s a1 a2 5 false = if (5 : Int) < 8 then numnahlaw08_grow.j1 k s a1 a2 5 ⟨#[headB 5]⟩ true else numnahlaw08_grow.j1 k s a1 a2 5 ⟨#[headB 5]⟩ (decide (a2 < 3)) := by kernel_rfl
theorem j0_h6 (s : ByteArray) (a1 a2 : Int) (k : Nat) : numnahlaw08_grow.j0 (k + 1) s a1 a2 6 false = if (6 : Int) < 8 then numnahlaw08_grow.j1 k s a1 a2 6 ⟨#[headB 6]⟩ true else numnahlaw08_grow.j1 k s a1 a2 6 ⟨#[headB 6]⟩ (decide (a2 < 3)) := by kernel_rfl
theorem j0_h7 (s : ByteArray) (a1 a2 : Int) (k : Nat) : numnahlaw08_grow.j0 (k + 1) s a1 a2 7 false = if (7 : Int) < 8 then numnahlaw08_grow.j1 k s a1 a2 7 ⟨#[headB 7]⟩ true else numnahlaw08_grow.j1 k s a1 a2 7 ⟨#[headB 7]⟩ (decide (a2 < 3)) := by kernel_rfl
theorem j0_h8 (s : ByteArray) (a1 a2 : Int) (k : Nat) : numnahlaw08_grow.j0 (k + 1) s a1 a2 8 false = if (8 : Int) < 8 then numnahlaw08_grow.j1 k s a1 a2 8 ⟨#[headB 8]⟩ true else numnahlaw08_grow.j1 k s a1 a2 8 ⟨#[headB 8]⟩ (decide (a2 < 3)) := by kernel_rfl
theorem j0_h9 (s : ByteArray) (a1 a2 : Int) (k : Nat) : numnahlaw08_grow.j0 (k + 1) s a1 a2 9 false = if (9 : Int) < 8 then numnahlaw08_grow.j1 k s a1 a2 9 ⟨#[headB 9]⟩ true else numnahlaw08_grow.j1 k s a1 a2 9 ⟨#[headB 9]⟩ (decide (a2 < 3)) := by kernel_rfl
theorem j0_h10 (s : ByteArray) (a1 a2 : Int) (k : Nat) : numnahlaw08_grow.j0 (k + 1) s a1 a2 10 false = if (10 : Int) < 8 then numnahlaw08_grow.j1 k s a1 a2 10 ⟨#[headB 10]⟩ true else numnahlaw08_grow.j1 k s a1 a2 10 ⟨#[headB 10]⟩ (decide (a2 < 3)) := by kernel_rfl
theorem j0_head (s : ByteArray) (a1 a2 x : Int) (hx : 5 ≤ x ∧ x ≤ 10) (k : Nat) : numnahlaw08_grow.j0 (k + 1) s a1 a2 x false = if x < 8 then numnahlaw08_grow.j1 k s a1 a2 x ⟨#[headB x]⟩ true else numnahlaw08_grow.j1 k s a1 a2 x ⟨#[headB x]⟩ (decide (a2 < 3)) := by
  have : x = 5 ∨ x = 6 ∨ x = 7 ∨ x = 8 ∨ x = 9 ∨ x = 10 := by omega
  rcases this with rfl | rfl | rfl | rfl | rfl | rfl
  · exact j0_h5 s a1 a2 k
  · exact j0_h6 s a1 a2 k
  · exact j0_h7 s a1 a2 k
  · exact j0_h8 s a1 a2 k
  · exact j0_h9 s a1 a2 k
  · exact j0_h10 s a1 a2 k
theorem j1_one {s : ByteArray} {a1 a2 x a' : Int} {h : UInt8} {t : Tm} (hE : Evt (fun k => numnahlaw08_grow.f k s (wrap64 (a1 + 1)) (wrap64 (a2 - 1))) (t.text, a')) (ht : t.size ≤ 1000) : Evt (fun k => numnahlaw08_grow.j1 k s a1 a2 x ⟨#[h]⟩ true) ((Tm.app (if x ≥ 8 then 100 else (h.toNat : Int)) [t]).text, a') := by
  have hsz := text_le ht
  have e1 : ∀ c : UInt8, (⟨#[c]⟩ : ByteArray).size = 1 := fun _ => rfl
  refine Evt.step (g' := fun k => (numnahlaw08_grow.f k s (wrap64 (a1 + 1)) (wrap64 (a2 - 1))).bind fun bt307 => _) (fun k => by rw [numnahlaw08_grow.j1, if_pos rfl]) (Evt.bind hE (Evt.all fun k => ?_))
  dsimp only
  by_cases hx : x ≥ 8
  · rw [if_pos hx, if_pos hx, if_pos (by decide), if_pos (by omega), if_pos (by rw [ByteArray.size_append, ByteArray.size_append, e1, e1]; omega)]
    rw [text1]
    rfl
  · rw [if_neg hx, if_neg hx, if_pos (by rw [e1]; decide), if_pos (by rw [ByteArray.size_append, e1, e1]; omega), if_pos (by rw [ByteArray.size_append, ByteArray.size_append, e1, e1]; omega)]
    rw [text1]
theorem j1_two {s : ByteArray} {a1 a2 x a' a'' : Int} {h : UInt8} {t u : Tm} (hE : Evt (fun k => numnahlaw08_grow.f k s (wrap64 (a1 + 1)) (wrap64 (Int.tdiv (wrap64 (a2 - 1)) 2))) (t.text, a')) (hE2 : Evt (fun k => numnahlaw08_grow.f k s a' (wrap64 ((wrap64 (a2 - 1)) - (wrap64 (Int.tdiv (wrap64 (a2 - 1)) 2))))) (u.text, a'')) (ht : t.size ≤ 1000) (hu : u.size ≤ 1000) : Evt (fun k => numnahlaw08_grow.j1 k s a1 a2 x ⟨#[h]⟩ false) ((Tm.app (h.toNat : Int) [t, u]).text, a'') := by
  have hsz := text_le ht
  have hsu := text_le hu
  have e1 : ∀ c : UInt8, (⟨#[c]⟩ : ByteArray).size = 1 := fun _ => rfl
  refine Evt.step (g' := fun k => (numnahlaw08_grow.f k s (wrap64 (a1 + 1)) (wrap64 (Int.tdiv (wrap64 (a2 - 1)) 2))).bind fun bt309 => ((numnahlaw08_grow.f k s bt309.2 (wrap64 ((wrap64 (a2 - 1)) - (wrap64 (Int.tdiv (wrap64 (a2 - 1)) 2))))).bind fun bt311 => _)) (fun k => by rw [numnahlaw08_grow.j1, if_neg (by simp)]) (Evt.bind hE (Evt.bind hE2 (Evt.all fun k => ?_)))
  dsimp only
  simp only [ByteArray.size_append, e1]
  rw [if_pos (by decide), if_pos (by omega), if_pos (by omega), if_pos (by omega), if_pos (by omega), text2]
theorem bt_range (s : ByteArray) (i : Int) : 0 ≤ bt s i ∧ bt s i ≤ 255 := by
  unfold bt
  split
  · have := (s[i.toNat]'(by assumption)).toNat_lt
    omega
  · omega
/-- grow makes a term of at most so many symbols -/
theorem growE (s : ByteArray) (hs : s.size ≤ 9223372036854775807) : ∀ (n : Nat) (a1 a2 : Int), 0 ≤ a1 → a1 ≤ 9223372036854775807 → 1 ≤ a2 → a2 ≤ n → n ≤ 1000 →
    ∃ (t : Tm) (a' : Int), Evt (fun k => numnahlaw08_grow.f k s a1 a2) (t.text, a') ∧ t.good ∧ t.size ≤ a2 ∧ 0 ≤ a' ∧ a' ≤ 9223372036854775807
  | 0, a1, a2, _, _, h3, h4, _ => by omega
  | n + 1, a1, a2, h1, h2, h3, h4, hn => by
    by_cases he : a1 ≥ (s.size : Int)
    · exact ⟨.app 97 [], a1, Evt.now fun k => by rw [numnahlaw08_grow.f, if_pos he]; rfl, by rw [Tm.good, Tm.goods]; exact ⟨by omega, by decide, trivial⟩, by rw [Tm.size, Tm.sizes]; omega, h1, h2⟩
    · obtain ⟨x, hx⟩ : ∃ x, x = Int.tmod (wrap64 (bt s a1)) 11 := ⟨_, rfl⟩
      have hb := bt_range s a1
      have hxr : 0 ≤ x ∧ x ≤ 10 := by
        rw [hx, wr (by omega) (by omega), Int.tmod_eq_emod_of_nonneg hb.1]
        omega
      have hw1 : wrap64 (a1 + 1) = a1 + 1 := wr (by omega) (by omega)
      have hw2 : wrap64 (a2 - 1) = a2 - 1 := wr (by omega) (by omega)
      have hf : ∀ k, numnahlaw08_grow.f (k + 1) s a1 a2 = if a2 < 2 then numnahlaw08_grow.j0 k s a1 a2 x true else numnahlaw08_grow.j0 k s a1 a2 x (decide (x < 5)) := fun k => by
        rw [numnahlaw08_grow.f, if_neg he, if_pos h1, if_pos (by omega), ← hx]
      have hlet : (a2 < 2 ∨ x < 5) → Evt (fun k => numnahlaw08_grow.f k s a1 a2) ((ltT x).text, a1 + 1) := fun hc => by
        refine Evt.step (g' := fun k => numnahlaw08_grow.j0 k s a1 a2 x true) (fun k => ?_) (Evt.now fun k => ?_)
        · rw [hf]
          by_cases h : a2 < 2
          · rw [if_pos h]
          · rw [if_neg h, decide_eq_true (hc.resolve_left h)]
        · rw [j0_letter s a1 a2 x hxr, hw1]
      by_cases hc : a2 < 2 ∨ x < 5
      · exact ⟨ltT x, a1 + 1, hlet hc, (ltT_good x).1, by rw [(ltT_good x).2]; omega, by omega, by omega⟩
      · have hc2 : ¬ a2 < 2 ∧ ¬ x < 5 := ⟨fun h => hc (.inl h), fun h => hc (.inr h)⟩
        have hstep : ∀ {b : Bool} {r : ByteArray × Int}, (x < 8 → b = true) → (¬ x < 8 → b = decide (a2 < 3)) → Evt (fun k => numnahlaw08_grow.j1 k s a1 a2 x ⟨#[headB x]⟩ b) r → Evt (fun k => numnahlaw08_grow.f k s a1 a2) r := fun {b r} hb1 hb2 hE => by
          refine Evt.step (g' := fun k => numnahlaw08_grow.j0 k s a1 a2 x false) (fun k => ?_) (Evt.step (g' := fun k => numnahlaw08_grow.j1 k s a1 a2 x ⟨#[headB x]⟩ b) (fun k => ?_) hE)
          · rw [hf, if_neg hc2.1, decide_eq_false hc2.2]
          · rw [j0_head s a1 a2 x (by omega)]
            by_cases h8 : x < 8
            · rw [if_pos h8, hb1 h8]
            · rw [if_neg h8, hb2 h8]
        by_cases ho : x < 8 ∨ a2 < 3
        · obtain ⟨t, a', hE, hg, hsz, h5, h6⟩ := growE s hs n (a1 + 1) (a2 - 1) (by omega) (by omega) (by omega) (by omega) (by omega)
          have hE' : Evt (fun k => numnahlaw08_grow.f k s (wrap64 (a1 + 1)) (wrap64 (a2 - 1))) (t.text, a') := by rw [hw1, hw2]; exact hE
          refine ⟨_, a', hstep (b := true) (fun _ => rfl) (fun h => (decide_eq_true (ho.resolve_left h)).symm) (j1_one (x := x) (h := headB x) hE' (by omega)), app1_good ?_ hg, by rw [size1]; omega, h5, h6⟩
          have : x = 5 ∨ x = 6 ∨ x = 7 ∨ x = 8 ∨ x = 9 ∨ x = 10 := by omega
          clear hx hf hlet hstep
          rcases this with rfl | rfl | rfl | rfl | rfl | rfl <;> decide
        · have ho2 : ¬ x < 8 ∧ ¬ a2 < 3 := ⟨fun h => ho (.inl h), fun h => ho (.inr h)⟩
          have hdv : Int.tdiv (a2 - 1) 2 = (a2 - 1) / 2 := Int.tdiv_eq_ediv_of_nonneg (by omega)
          obtain ⟨t, a', hE, hg, hsz, h5, h6⟩ := growE s hs n (a1 + 1) ((a2 - 1) / 2) (by omega) (by omega) (by omega) (by omega) (by omega)
          obtain ⟨u, a'', hE2, hg2, hsz2, h7, h8⟩ := growE s hs n a' (a2 - 1 - (a2 - 1) / 2) h5 h6 (by omega) (by omega) (by omega)
          have hw3 : wrap64 (Int.tdiv (wrap64 (a2 - 1)) 2) = (a2 - 1) / 2 := by rw [hw2, hdv]; exact wr (by omega) (by omega)
          have hw4 : wrap64 ((wrap64 (a2 - 1)) - (wrap64 (Int.tdiv (wrap64 (a2 - 1)) 2))) = a2 - 1 - (a2 - 1) / 2 := by rw [hw3, hw2]; exact wr (by omega) (by omega)
          have hE' : Evt (fun k => numnahlaw08_grow.f k s (wrap64 (a1 + 1)) (wrap64 (Int.tdiv (wrap64 (a2 - 1)) 2))) (t.text, a') := by rw [hw1, hw3]; exact hE
          have hE2' : Evt (fun k => numnahlaw08_grow.f k s a' (wrap64 ((wrap64 (a2 - 1)) - (wrap64 (Int.tdiv (wrap64 (a2 - 1)) 2))))) (u.text, a'') := by rw [hw4]; exact hE2
          refine ⟨_, a'', hstep (b := false) (fun h => absurd h ho2.1) (fun _ => (decide_eq_false ho2.2).symm) (j1_two (x := x) (h := headB x) hE' hE2' (by omega) (by omega)), app2_good ?_ hg hg2, by rw [size2]; omega, h7, h8⟩
          have : x = 8 ∨ x = 9 ∨ x = 10 := by omega
          clear hx hf hlet hstep
          rcases this with rfl | rfl | rfl <;> decide
theorem termE (s : ByteArray) (hs : s.size ≤ 9223372036854775807) (room : Int) (h1 : 1 ≤ room) (h2 : room ≤ 1000) : ∃ t : Tm, Evt (fun k => numnahlaw08_term.f k s room) t.text ∧ t.good ∧ t.size ≤ room := by
  obtain ⟨t, a', hE, hg, hsz, _, _⟩ := growE s hs 1000 0 room (by omega) (by omega) h1 (by omega) (by omega)
  exact ⟨t, Evt.bind hE (Evt.all fun _ => rfl), hg, hsz⟩
end Go.Proofs.YtaafeallcaiooaaGreat.Pr
