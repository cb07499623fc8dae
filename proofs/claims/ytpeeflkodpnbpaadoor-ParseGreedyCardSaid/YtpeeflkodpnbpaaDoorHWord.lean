import Derived.Test.YtpeeflkodpnbpaaDoorSh
import Derived.Laws.RangeString
import Derived.WalkKit
import Derived.RowKit3
import Derived.KernelRfl
import Derived.Below
namespace Go.Proofs.YtpeeflkodpnbpaaDoor.Pr
open Go.RowKit Go.Shelf Go.Lib
set_option linter.unusedVariables false
set_option linter.unusedSimpArgs false

/-- a rune that no word holds -/
def badR (r : Nat) : Bool := decide (r < 97) || decide (100 < r)

theorem isWord1_pred (w : World) : PredAt Tryd.prog 90 #[] encR badR w := fun W r _ => by
  unfold FnGives
  by_cases h1 : r < 97 <;> by_cases h2 : 100 < r
  all_goals
    have z1 : (r : Int) < 97 ↔ r < 97 := by omega
    have z2 : (100 : Int) < (r : Int) ↔ 100 < r := by omega
    go_enter Tryd.func90, Tryd.ntmps90
    go_wp2
    all_goals first | (exfalso; omega) | (go_ret; exact ⟨by simp [badR, h1, h2], 0, rfl⟩)

/-- what isWord answers, as the code computes it -/
def isWordC (s : ByteArray) : Bool := decide ((s.size : Int) ≤ 160) && !decide (0 ≤ Lib.idxFunc badR true s)

theorem isWord_calls (s : ByteArray) (w : World) :
    Calls Tryd.prog 62 #[.string s] w fun e w' => e = .returned (.bool (isWordC s)) ∧ Below w.heap.size w w' := by
  have hC := fun W => Tryd.strings_ContainsFunc 90 #[] (enters_of Tryd.func90 (by kernel_rfl) rfl) badR s W (isWord1_pred W)
  by_cases h : (s.size : Int) ≤ 160
  · go_enter Tryd.func62, Tryd.ntmps62
    go_wp2_with (go_at_call 89; refine (hC _).mono ?_; rintro e w' ⟨rfl, hb⟩)
    go_ret
    exact ⟨by simp [isWordC, h], hb⟩
  · clear hC
    go_enter Tryd.func62, Tryd.ntmps62
    go_wp2
    go_ret
    exact ⟨by simp [isWordC]; intro; omega, Below.refl _ _⟩

/-! the plain law: a word is at most 160 bytes, each of them a, b, c or d -/
theorem decode_high (s : ByteArray) (p : Nat) (h : 128 ≤ (s.get! p).toNat) : 128 ≤ (Utf8.decode s p).1 := by
  have h0 : (s.get! (p + 0)).toNat = (s.get! p).toNat := rfl
  unfold Utf8.decode
  simp only [h0]
  have e : Utf8.runeError = 65533 := rfl
  repeat' split
  all_goals first | omega | (simp only [e]; omega) | (rename_i hh; simp only [Bool.and_eq_true, decide_eq_true_eq] at hh; dsimp only; omega)
theorem decode_low (s : ByteArray) (p : Nat) (h : (s.get! p).toNat < 128) : Utf8.decode s p = ((s.get! p).toNat, 1) := by
  have h0 : (s.get! (p + 0)).toNat = (s.get! p).toNat := rfl
  unfold Utf8.decode
  simp only [h0]
  rw [if_pos h]

def okAt (s : ByteArray) (i : Nat) : Prop := 97 ≤ (s.get! i).toNat ∧ (s.get! i).toNat ≤ 100

theorem idx_neg (s : ByteArray) : ∀ f pos, (∀ i, pos ≤ i → i < s.size → okAt s i) → Lib.idxFuncFrom badR true s f pos = -1
  | 0, pos, _ => rfl
  | f + 1, pos, h => by
    unfold Lib.idxFuncFrom
    by_cases hp : pos < s.size
    · have a := h pos (Nat.le_refl _) hp
      have d := decode_low s pos (by have := a.2; omega)
      have hb : badR (s.get! pos).toNat = false := by simp [badR]; exact ⟨a.1, a.2⟩
      rw [if_pos hp, d]
      simp only [hb]
      rw [if_neg (by simp)]
      exact idx_neg s f (pos + 1) fun i hi hs => h i (by omega) hs
    · rw [if_neg hp]
theorem idx_pos (s : ByteArray) : ∀ f pos, s.size ≤ pos + f → (∃ i, pos ≤ i ∧ i < s.size ∧ ¬ okAt s i) → 0 ≤ Lib.idxFuncFrom badR true s f pos
  | 0, pos, hf, ⟨i, h1, h2, _⟩ => by omega
  | f + 1, pos, hf, ⟨i, h1, h2, h3⟩ => by
    unfold Lib.idxFuncFrom
    have hp : pos < s.size := by omega
    rw [if_pos hp]
    by_cases hb : badR (Utf8.decode s pos).1 = true
    · rw [if_pos hb]; omega
    · rw [if_neg hb]
      have lo : (s.get! pos).toNat < 128 := by
        apply Decidable.byContradiction
        intro hc
        have := decode_high s pos (by omega)
        apply hb
        simp [badR]
        omega
      have d := decode_low s pos lo
      rw [d] at hb ⊢
      have ok : okAt s pos := by
        simp [badR] at hb
        exact ⟨hb.1, hb.2⟩
      have ne : i ≠ pos := fun e => h3 (e ▸ ok)
      exact idx_pos s f (pos + 1) (by omega) ⟨i, by omega, h2, h3⟩

/-- a word, plainly -/
def isWordP (s : ByteArray) : Prop := s.size ≤ 160 ∧ ∀ i, i < s.size → okAt s i
theorem isWordC_iff (s : ByteArray) : isWordC s = true ↔ isWordP s := by
  unfold isWordC isWordP
  by_cases h : s.size ≤ 160
  · have hI : (s.size : Int) ≤ 160 := by omega
    by_cases g : ∀ i, i < s.size → okAt s i
    · have := idx_neg s s.size 0 fun i _ hi => g i hi
      have e : Lib.idxFunc badR true s = -1 := this
      simp only [hI, e, h]
      simp
      exact g
    · have ⟨i, hi, hn⟩ : ∃ i, i < s.size ∧ ¬ okAt s i := by
        apply Classical.byContradiction
        intro hc
        apply g
        intro i hi
        apply Classical.byContradiction
        intro hk
        exact hc ⟨i, hi, hk⟩
      have := idx_pos s s.size 0 (by omega) ⟨i, by omega, hi, hn⟩
      have e : 0 ≤ Lib.idxFunc badR true s := this
      constructor
      · intro hh
        simp [hI, e] at hh
      · intro hh
        exact absurd hh.2 g
  · constructor
    · intro hh
      have : ¬ (s.size : Int) ≤ 160 := by omega
      simp [this] at hh
    · intro hh
      exact absurd hh.1 h

/-! for the printer -/
def parse_isWord.f (a0 : ByteArray) : Option Bool := some (isWordC a0)
theorem parse_isWord.calls (a0 : ByteArray) (r : Bool) (w : World) (h : parse_isWord.f a0 = some r) :
    Calls Tryd.prog 62 #[.string a0] w fun e w' => e = .returned (.bool r) ∧ Below w.heap.size w w' := by
  obtain rfl := Option.some.inj h
  exact isWord_calls a0 w
end Go.Proofs.YtpeeflkodpnbpaaDoor.Pr
