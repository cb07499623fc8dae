/- ParseThere, plainly: reading the copying parse gives the word back, and reading a cheapest plan does, too. -/
import Derived.Test.YtpeeflkodpnbpaaDoorHEv
import Derived.Test.YtpeeflkodpnbpaaDoorHKeys
import Derived.Test.YtpeeflkodpnbpaaDoorHSubs
import Derived.Test.YtpeeflkodpnbpaaDoorHUnt
import Derived.Test.YtpeeflkodpnbpaaDoorHCopy
import Derived.Test.YtpeeflkodpnbpaaDoorHLearn
import Derived.Test.YtpeeflkodpnbpaaDoorHRead
import Derived.Test.YtpeeflkodpnbpaaDoorHCheP
import Derived.Test.YtpeeflkodpnbpaaDoorPrA23
import Derived.Test.YtpeeflkodpnbpaaDoorHWord
import Derived.Test.YtpeeflkodpnbpaaDoorPrB19
import Derived.Test.YtpeeflkodpnbpaaDoorPrB21
/- The numbers of substrings, plainly. -/
namespace Go.Proofs.YtpeeflkodpnbpaaDoor.Pr
open Go.RowKit Go.WideMaps Go.Maps Go.Proofs.YtpeeflkodpnbpaaDoorW Go.Proofs.YtpeeflkodpnbpaaDoorW.PrintWords Go.Proofs.YtpeeflkodpnbpaaDoorW.PrintLast Go.Proofs.YtpeeflkodpnbpaaDoorW.PrintMore
set_option linter.unusedVariables false
set_option linter.unusedSimpArgs false

theorem insD_old {x : ByteArray} : ∀ {l : List ByteArray}, l.Pairwise ltS → x ∈ l → (insD x l).length = l.length
  | y :: l, h, hm => by
    have hy := List.pairwise_cons.1 h
    rw [insD]
    split
    · rename_i hlt
      have : x ∈ l := by
        rcases List.mem_cons.1 hm with rfl | hm
        · exact absurd rfl ((ltS_iff _ _).1 hlt).2
        · exact hm
      rw [List.length_cons, insD_old hy.2 this, List.length_cons]
    · split
      · rfl
      · rename_i hlt hne
        exfalso
        rcases List.mem_cons.1 hm with rfl | hm
        · exact hne rfl
        · exact hlt (hy.1 x hm)
theorem insD_new {x : ByteArray} : ∀ {l : List ByteArray}, x ∉ l → (insD x l).length = l.length + 1
  | [], _ => rfl
  | y :: l, hm => by
    rw [insD]
    split
    · rw [List.length_cons, insD_new (fun h => hm (List.mem_cons_of_mem _ h)), List.length_cons]
    · split
      · rename_i _ e
        exact absurd (e ▸ List.mem_cons_self) hm
      · rfl
theorem subG_tidy {H : Type} (s : ByteArray) (n : Nat) : ∀ k, Tidy (subG (H := H) s n k)
  | 0 => tidy_empty
  | k + 1 => (subG_tidy s n k).put (keyLit _) _
theorem size_up {H : Type} (s : ByteArray) (n : Nat) : ∀ k, Maps.size (subG (H := H) s n k) = (partsUp s n k).length
  | 0 => rfl
  | k + 1 => by
    rw [subG, size_put (subG_tidy s n k), partsUp, size_up s n k]
    by_cases h : Maps.has (subG (H := H) s n k) (keyS (subAt s n k)) = true
    · rw [if_pos h, insD_old (partsUp_sorted s n k) (mem_partsUp.2 ((subG_has s n _ k).1 h))]
    · rw [if_neg h, insD_new (fun hm => h ((subG_has s n _ k).2 (mem_partsUp.1 hm)))]
theorem subsF_eq (s : ByteArray) : ∀ m n l, subsF s m n l = l ++ (List.range m).map (fun i => (cntS s (n + i) : Int))
  | 0, n, l => by simp [subsF]
  | m + 1, n, l => by
    rw [subsF, subsF_eq s m (n + 1), List.range_succ_eq_map, List.map_cons, List.map_map, List.append_assoc]
    congr 1
    rw [List.singleton_append]
    congr 1
    apply List.map_congr_left
    intro a _
    show (cntS s (n + 1 + a) : Int) = cntS s (n + (a + 1))
    rw [show n + 1 + a = n + (a + 1) by omega]
/-! ### counting -/
theorem nodup_le {α : Type} : ∀ {l m : List α}, l.Nodup → (∀ x, x ∈ l → x ∈ m) → l.length ≤ m.length
  | [], _, _, _ => by simp
  | x :: l, m, hn, h => by
    obtain ⟨a, b, rfl⟩ := List.append_of_mem (h x List.mem_cons_self)
    have hn2 := List.nodup_cons.1 hn
    have := nodup_le (l := l) (m := a ++ b) hn2.2 (fun y hy => by
      have h1 := h y (List.mem_cons_of_mem _ hy)
      rcases List.mem_append.1 h1 with h1 | h1
      · exact List.mem_append_left _ h1
      · rcases List.mem_cons.1 h1 with e | h1
        · exact absurd (e ▸ hy) hn2.1
        · exact List.mem_append_right _ h1)
    simp only [List.length_append, List.length_cons] at this ⊢
    omega
/-! ### strings as lists of bytes -/
def bl (s : ByteArray) : List UInt8 := s.data.toList
theorem bl_inj {a b : ByteArray} (h : bl a = bl b) : a = b := Go.WideShapes.bytes_inj h
theorem bl_len (s : ByteArray) : (bl s).length = s.size := Array.length_toList
theorem bl_append (a b : ByteArray) : bl (a ++ b) = bl a ++ bl b := by unfold bl; rw [ByteArray.data_append, Array.toList_append]
theorem bl_extract (s : ByteArray) (i j : Nat) : bl (s.extract i j) = ((bl s).drop i).take (j - i) := by
  unfold bl; rw [ByteArray.data_extract, Array.toList_extract, List.extract_eq_take_drop]
theorem bl_sub (s : ByteArray) (n j : Nat) : bl (subAt s n j) = ((bl s).drop j).take n := by
  unfold subAt
  rw [bl_extract, show j + n - j = n by omega]
theorem bl_get (s : ByteArray) (i : Nat) (h : i < s.size) : (bl s)[i]'(by rw [bl_len]; exact h) = s.get! i := by
  cases s with
  | mk a =>
    have h' : i < a.size := h
    simp [bl, ByteArray.get!, h']
theorem ok_mem (s : ByteArray) (hw : isWordC s = true) : ∀ c, c ∈ bl s → c = 97 ∨ c = 98 ∨ c = 99 ∨ c = 100 := by
  intro c hc
  obtain ⟨i, hi, rfl⟩ := List.mem_iff_getElem.1 hc
  have hi2 : i < s.size := by rw [bl_len] at hi; exact hi
  have ok := ((isWordC_iff s).1 hw).2 i hi2
  rw [bl_get s i hi2]
  have h1 := ok.1
  have h2 := ok.2
  have : (s.get! i).toNat = 97 ∨ (s.get! i).toNat = 98 ∨ (s.get! i).toNat = 99 ∨ (s.get! i).toNat = 100 := by omega
  rcases this with h | h | h | h
  · exact .inl (UInt8.toNat_inj.1 h)
  · exact .inr (.inl (UInt8.toNat_inj.1 h))
  · exact .inr (.inr (.inl (UInt8.toNat_inj.1 h)))
  · exact .inr (.inr (.inr (UInt8.toNat_inj.1 h)))
theorem word_of_mem (s : ByteArray) (hs : s.size ≤ 160) (h : ∀ c, c ∈ bl s → c = 97 ∨ c = 98 ∨ c = 99 ∨ c = 100) : isWordC s = true := by
  refine (isWordC_iff s).2 ⟨hs, fun i hi => ?_⟩
  have := h _ (List.getElem_mem (show i < (bl s).length by rw [bl_len]; exact hi))
  rw [bl_get s i hi] at this
  unfold okAt
  rcases this with h | h | h | h <;> rw [h] <;> decide
/-! ### one more letter; one more place -/
def ext4 : List ByteArray → List ByteArray
  | [] => []
  | t :: l => t.push 97 :: t.push 98 :: t.push 99 :: t.push 100 :: ext4 l
theorem ext4_len : ∀ l, (ext4 l).length = 4 * l.length
  | [] => rfl
  | t :: l => by simp only [ext4, List.length_cons, ext4_len l]; omega
theorem mem_ext4 {t : ByteArray} {c : UInt8} (hc : c = 97 ∨ c = 98 ∨ c = 99 ∨ c = 100) : ∀ {l : List ByteArray}, t ∈ l → t.push c ∈ ext4 l
  | x :: l, h => by
    rw [ext4]
    rcases List.mem_cons.1 h with rfl | h
    · rcases hc with rfl | rfl | rfl | rfl <;> simp
    · have := mem_ext4 hc h
      simp [this]
end Go.Proofs.YtpeeflkodpnbpaaDoor.Pr

/- Sets that touch a word: what untF says, and how many substrings there are at most. -/
namespace Go.Proofs.YtpeeflkodpnbpaaDoor.Pr
open Go.RowKit Go.Proofs.YtpeeflkodpnbpaaDoorW.PrintWords Go.Proofs.YtpeeflkodpnbpaaDoorW.PrintLast Go.Proofs.YtpeeflkodpnbpaaDoorW.PrintMore
set_option linter.unusedVariables false
set_option linter.unusedSimpArgs false

theorem cntB_mono (set : List Int) (i : Nat) : ∀ n, cntB set i ≤ cntB set (i + n)
  | 0 => Int.le_refl _
  | n + 1 => by
    have := cntB_mono set i n
    rw [← Nat.add_assoc, cntB]
    split <;> omega
theorem cntB_lt (set : List Int) (i : Nat) : ∀ n, cntB set i < cntB set (i + n) ↔ ∃ p : Nat, (p : Int) ∈ set ∧ i ≤ p ∧ p < i + n
  | 0 => by
    constructor
    · intro h; exact absurd h (by rw [Nat.add_zero]; exact Int.lt_irrefl _)
    · rintro ⟨p, _, h1, h2⟩; omega
  | n + 1 => by
    have ih := cntB_lt set i n
    have mo := cntB_mono set i n
    rw [← Nat.add_assoc, cntB]
    by_cases c : memI ((i + n : Nat) : Int) set = true
    · rw [if_pos c]
      constructor
      · intro _; exact ⟨i + n, memI_iff.1 c, by omega, by omega⟩
      · intro _; omega
    · rw [if_neg c]
      constructor
      · intro h
        obtain ⟨p, h1, h2, h3⟩ := ih.1 (by omega)
        exact ⟨p, h1, h2, by omega⟩
      · rintro ⟨p, h1, h2, h3⟩
        have hne : p ≠ i + n := fun e => c (memI_iff.2 (e ▸ h1))
        have := ih.2 ⟨p, h1, h2, by omega⟩
        omega
theorem findU_none (s : ByteArray) (set : List Int) (n : Nat) : ∀ l, findU s set n l = none ↔ ∀ t, t ∈ l → (posS s n t).any (tchP set n) = true
  | [] => by simp [findU]
  | t :: l => by
    rw [findU]
    by_cases c : (posS s n t).any (tchP set n) = true
    · rw [if_pos c, findU_none s set n l]
      constructor
      · intro h x hx
        rcases List.mem_cons.1 hx with rfl | hx
        · exact c
        · exact h x hx
      · intro h x hx; exact h x (List.mem_cons_of_mem _ hx)
    · rw [if_neg c]
      constructor
      · intro h; cases h
      · intro h; exact absurd (h t List.mem_cons_self) c
theorem untF_iff (s : ByteArray) (set : List Int) : ∀ q n, (untF s set q n).2 = false ↔ ∀ k, n ≤ k → k < n + q → ∀ t, t ∈ partsS s k → (posS s k t).any (tchP set k) = true
  | 0, n => by
    rw [untF]
    exact ⟨fun _ k h1 h2 => by omega, fun _ => rfl⟩
  | q + 1, n => by
    rw [untF]
    cases h : findU s set n (partsS s n) with
    | some t =>
      constructor
      · intro h2; cases h2
      · intro h2
        have := (findU_none s set n (partsS s n)).2 (h2 n (Nat.le_refl _) (by omega))
        rw [h] at this; cases this
    | none =>
      show (untF s set q (n + 1)).2 = false ↔ _
      rw [untF_iff s set q (n + 1)]
      have h3 := (findU_none s set n (partsS s n)).1 h
      constructor
      · intro h2 k h4 h5
        by_cases e : k = n
        · subst e; exact h3
        · exact h2 k (by omega) (by omega)
      · intro h2 k h4 h5; exact h2 k (by omega) (by omega)
theorem untF_no (s : ByteArray) (set : List Int) : ∀ q n, (untF s set q n).2 = false → (untF s set q n).1 = emptyB
  | 0, n, _ => rfl
  | q + 1, n, h => by
    rw [untF] at h ⊢
    cases hf : findU s set n (partsS s n) with
    | some t => rw [hf] at h; cases h
    | none =>
      rw [hf] at h
      exact untF_no s set q (n + 1) h

/-! ### how many substrings -/
def cand (s : ByteArray) (k : Nat) : List Int → List ByteArray
  | [] => []
  | p :: l => (List.range k).map (fun o => subAt s k (p.toNat - o)) ++ cand s k l
theorem cand_len (s : ByteArray) (k : Nat) : ∀ l, (cand s k l).length = l.length * k
  | [] => by simp [cand]
  | p :: l => by rw [cand, List.length_append, cand_len s k l, List.length_map, List.length_range, List.length_cons, Nat.succ_mul, Nat.add_comm]
theorem mem_cand (s : ByteArray) (k : Nat) {p o : Nat} (ho : o < k) : ∀ {l : List Int}, (p : Int) ∈ l → subAt s k (p - o) ∈ cand s k l
  | q :: l, h => by
    rw [cand, List.mem_append]
    rcases List.mem_cons.1 h with h | h
    · refine .inl (List.mem_map.2 ⟨o, List.mem_range.2 ho, ?_⟩)
      rw [← h, Int.toNat_natCast]
    · exact .inr (mem_cand s k ho h)
end Go.Proofs.YtpeeflkodpnbpaaDoor.Pr

/- How far two strings go together, and the longest earlier string. -/
namespace Go.Proofs.YtpeeflkodpnbpaaDoor.Pr
open Go.RowKit Go.Proofs.YtpeeflkodpnbpaaDoorW.PrintWords Go.Proofs.YtpeeflkodpnbpaaDoorW.PrintLast Go.Proofs.YtpeeflkodpnbpaaDoorW.PrintMore
set_option linter.unusedVariables false
set_option linter.unusedSimpArgs false

def btL (l : List UInt8) (i : Nat) : Int := match l[i]? with
  | some c => (c.toNat : Int)
  | none => 0
theorem bt_btL (s : ByteArray) (i : Nat) : bt s (i : Int) = btL (bl s) i := by
  unfold bt btL bl
  rw [Array.getElem?_toList]
  by_cases h : i < s.data.size
  · rw [dif_pos (by rw [Int.toNat_natCast]; exact h), Array.getElem?_eq_getElem h]
    simp only [Int.toNat_natCast]
    rfl
  · rw [dif_neg (by rw [Int.toNat_natCast]; exact h), Array.getElem?_eq_none (by omega)]
theorem ext_spec (s : ByteArray) (j i : Nat) : ∀ q n, i + n ≤ s.size → s.size ≤ i + n + q →
    n ≤ ext s j i q n ∧ i + ext s j i q n ≤ s.size ∧ (∀ m, n ≤ m → m < ext s j i q n → bt s ((j + m : Nat) : Int) = bt s ((i + m : Nat) : Int)) ∧ (i + ext s j i q n = s.size ∨ bt s ((j + ext s j i q n : Nat) : Int) ≠ bt s ((i + ext s j i q n : Nat) : Int))
  | 0, n, h1, h2 => by
    rw [ext]
    exact ⟨Nat.le_refl _, h1, fun m a b => absurd b (by omega), .inl (by omega)⟩
  | q + 1, n, h1, h2 => by
    rw [ext]
    by_cases c : i + n < s.size
    · rw [if_pos c]
      by_cases e : bt s ((j + n : Nat) : Int) = bt s ((i + n : Nat) : Int)
      · rw [if_pos e]
        obtain ⟨a1, a2, a3, a4⟩ := ext_spec s j i q (n + 1) (by omega) (by omega)
        refine ⟨by omega, a2, fun m hm1 hm2 => ?_, a4⟩
        by_cases hmn : m = n
        · subst hmn; exact e
        · exact a3 m (by omega) hm2
      · rw [if_neg e]
        exact ⟨Nat.le_refl _, h1, fun m a b => absurd b (by omega), .inr e⟩
    · rw [if_neg c]
      exact ⟨Nat.le_refl _, h1, fun m a b => absurd b (by omega), .inl (by omega)⟩
theorem earlF_max (s : ByteArray) (i : Nat) : ∀ (m f : Nat) (b : Int × Int), 1 ≤ b.2 → b.2 ≤ (earlF s i m f b).2 ∧ ∀ j, f ≤ j → j < f + m → (ext s j i s.size 0 : Int) ≤ (earlF s i m f b).2
  | 0, f, b, h => ⟨by rw [earlF]; exact Int.le_refl _, fun j h1 h2 => by omega⟩
  | m + 1, f, b, h => by
    rw [earlF]
    have hp : 1 ≤ (pick9 f (ext s f i s.size 0) b).2 ∧ b.2 ≤ (pick9 f (ext s f i s.size 0) b).2 ∧ (ext s f i s.size 0 : Int) ≤ (pick9 f (ext s f i s.size 0) b).2 := by
      generalize ext s f i s.size 0 = e
      unfold pick9
      by_cases p : 0 < e ∧ (b = ((-1 : Int), (1 : Int)) ∨ b.2 < (e : Int))
      · rw [if_pos p]
        refine ⟨by show (1 : Int) ≤ (e : Int); omega, ?_, by show (e : Int) ≤ (e : Int); omega⟩
        show b.2 ≤ (e : Int)
        rcases p.2 with p2 | p2
        · have := congrArg Prod.snd p2
          have : b.2 = 1 := this
          omega
        · omega
      · rw [if_neg p]
        refine ⟨h, Int.le_refl _, ?_⟩
        apply Decidable.byContradiction
        intro hc
        exact p ⟨by omega, .inr (by omega)⟩
    obtain ⟨a1, a2⟩ := earlF_max s i m (f + 1) _ hp.1
    refine ⟨Int.le_trans hp.2.1 a1, fun j h1 h2 => ?_⟩
    by_cases e : j = f
    · subst e; exact Int.le_trans hp.2.2 a1
    · exact a2 j (by omega) (by omega)
end Go.Proofs.YtpeeflkodpnbpaaDoor.Pr

/- The ends of the factors of the copying parse touch the word; there are at most twice as many as factors of the learning parse. -/
namespace Go.Proofs.YtpeeflkodpnbpaaDoor.Pr
open Go.RowKit Go.Proofs.YtpeeflkodpnbpaaDoorW.PrintWords Go.Proofs.YtpeeflkodpnbpaaDoorW.PrintLast Go.Proofs.YtpeeflkodpnbpaaDoorW.PrintMore
set_option linter.unusedVariables false
set_option linter.unusedSimpArgs false

theorem bt_of_sub (s : ByteArray) (k i j : Nat) (hi : i + k ≤ s.size) (hj : j + k ≤ s.size) (h : subAt s k i = subAt s k j) (m : Nat) (hm : m < k) : bt s ((i + m : Nat) : Int) = bt s ((j + m : Nat) : Int) := by
  have h1 : i + m < (bl s).length := by rw [bl_len]; omega
  have h2 : j + m < (bl s).length := by rw [bl_len]; omega
  have e : (bl (subAt s k i))[m]? = (bl (subAt s k j))[m]? := by rw [h]
  rw [bl_sub, bl_sub, List.getElem?_take, List.getElem?_take, if_pos hm, if_pos hm, List.getElem?_drop, List.getElem?_drop] at e
  rw [bt_btL, bt_btL]
  unfold btL
  rw [e]
/-- a factor is one letter, or a copy -/
def factIs (s : ByteArray) (i : Nat) (b : Int × Int) : Prop := b = (-1, 1) ∨ ∃ j, j < i ∧ 0 < ext s j i s.size 0 ∧ b = ((j : Int), (ext s j i s.size 0 : Int))
theorem earlF_is (s : ByteArray) (i : Nat) : ∀ m f b, f + m = i → factIs s i b → factIs s i (earlF s i m f b)
  | 0, _, _, _, h => h
  | m + 1, f, b, hf, h => by
    rw [earlF]
    refine earlF_is s i m (f + 1) _ (by omega) ?_
    unfold pick9
    split
    · rename_i hc
      exact .inr ⟨f, by omega, hc.1, rfl⟩
    · exact h
theorem fact_is (s : ByteArray) (i : Nat) : ((factS s i).f0, (factS s i).f1) = ((-1 : Int), (1 : Int)) ∨ ∃ j, j < i ∧ 0 < ext s j i s.size 0 ∧ (factS s i).f0 = j ∧ (factS s i).f1 = ext s j i s.size 0 := by
  rcases earlF_is s i i 0 (-1, 1) (by omega) (.inl rfl) with h | ⟨j, h1, h2, h3⟩
  · exact .inl h
  · exact .inr ⟨j, h1, h2, congrArg Prod.fst h3, congrArg Prod.snd h3⟩
theorem fact_ok (s : ByteArray) (i : Nat) (hi : i < s.size) : 1 ≤ (factS s i).f1 ∧ (i : Int) + (factS s i).f1 ≤ s.size ∧ -1 ≤ (factS s i).f0 ∧ (factS s i).f0 < i := earl_ok s i hi
theorem fact_max (s : ByteArray) (i j : Nat) (h : j < i) : (ext s j i s.size 0 : Int) ≤ (factS s i).f1 := by
  obtain ⟨_, hm⟩ := earlF_max s i i 0 (-1, 1) (by decide)
  exact hm j (by omega) (by omega)
theorem ext_ge (s : ByteArray) (j i k : Nat) (hi : i + k ≤ s.size) (h : ∀ m, m < k → bt s ((j + m : Nat) : Int) = bt s ((i + m : Nat) : Int)) : k ≤ ext s j i s.size 0 := by
  obtain ⟨_, h2, _, h4⟩ := ext_spec s j i s.size 0 (by omega) (by omega)
  apply Decidable.byContradiction
  intro hn
  rcases h4 with h4 | h4
  · omega
  · exact h4 (h _ (by omega))
/-- where the factors end -/
def endsF (s : ByteArray) : Nat → Nat → List Int
  | 0, _ => []
  | q + 1, i => if i < s.size then ((i : Int) + (factS s i).f1 - 1) :: endsF s q (i + (factS s i).f1.toNat) else []
theorem endsF_len (s : ByteArray) : ∀ q i, (endsF s q i).length = (copF s q i).length
  | 0, _ => rfl
  | q + 1, i => by
    rw [endsF, copF]
    split
    · rw [List.length_cons, List.length_cons, endsF_len s q]
    · rfl
theorem endsF_range (s : ByteArray) : ∀ q i x, x ∈ endsF s q i → (i : Int) ≤ x ∧ x < s.size
  | 0, _, x, h => by simp [endsF] at h
  | q + 1, i, x, h => by
    rw [endsF] at h
    by_cases c : i < s.size
    · rw [if_pos c] at h
      have ok := fact_ok s i c
      rcases List.mem_cons.1 h with rfl | h
      · omega
      · have := endsF_range s q _ x h
        omega
    · rw [if_neg c] at h; simp at h
theorem endsF_sorted (s : ByteArray) : ∀ q i, (endsF s q i).Pairwise (fun x y => x < y)
  | 0, _ => .nil
  | q + 1, i => by
    rw [endsF]
    by_cases c : i < s.size
    · rw [if_pos c]
      have ok := fact_ok s i c
      refine List.pairwise_cons.2 ⟨fun x hx => ?_, endsF_sorted s q _⟩
      have := endsF_range s q _ x hx
      omega
    · rw [if_neg c]; exact .nil
theorem fact_in (s : ByteArray) : ∀ q i j, s.size ≤ i + q → i ≤ j → j < s.size → ∃ a : Nat, a < s.size ∧ a ≤ j ∧ (j : Int) < a + (factS s a).f1 ∧ ((a : Int) + (factS s a).f1 - 1) ∈ endsF s q i
  | 0, i, j, hq, h1, h2 => by omega
  | q + 1, i, j, hq, h1, h2 => by
    have ci : i < s.size := by omega
    have ok := fact_ok s i ci
    rw [endsF, if_pos ci]
    by_cases c : (j : Int) < i + (factS s i).f1
    · exact ⟨i, ci, h1, c, List.mem_cons_self⟩
    · obtain ⟨a, a1, a2, a3, a4⟩ := fact_in s q (i + (factS s i).f1.toNat) j (by omega) (by omega) h2
      exact ⟨a, a1, a2, a3, List.mem_cons_of_mem _ a4⟩
/-! ### at most twice as many -/
theorem extL_known (s : ByteArray) (known : List ByteArray) (i : Nat) : ∀ q n, (n = 1 ∨ subAt s (n - 1) i ∈ known) → (extL s known i q n = 1 ∨ subAt s (extL s known i q n - 1) i ∈ known)
  | 0, n, h => h
  | q + 1, n, h => by
    rw [extL]
    split
    · rename_i hc
      exact extL_known s known i q (n + 1) (.inr (by rw [Nat.add_sub_cancel]; exact memB_iff.1 hc.2))
    · exact h
theorem cop_step (s : ByteArray) (Q p : Nat) : ∃ Q', (copF s Q p).length ≤ 1 + (copF s Q' (p + (factS s p).f1.toNat)).length := by
  cases Q with
  | zero => exact ⟨0, by simp [copF]⟩
  | succ q =>
    refine ⟨q, ?_⟩
    rw [copF]
    split
    · rw [List.length_cons]; omega
    · simp
theorem cop_two (s : ByteArray) (i n : Nat) (h1 : 1 ≤ n) (h2 : i + n ≤ s.size) (hk : n = 1 ∨ ∃ j, j < i ∧ j + (n - 1) ≤ s.size ∧ subAt s (n - 1) j = subAt s (n - 1) i) (p Q : Nat) (hp : i ≤ p) :
    ∃ p' Q', i + n ≤ p' ∧ (copF s Q p).length ≤ 2 + (copF s Q' p').length := by
  by_cases c : i + n ≤ p
  · exact ⟨p, Q, c, by omega⟩
  · have hone : ∀ Q, ∃ p' Q', i + n ≤ p' ∧ (copF s Q (i + n - 1)).length ≤ 1 + (copF s Q' p').length := by
      intro Q
      obtain ⟨Q', h⟩ := cop_step s Q (i + n - 1)
      have ok := fact_ok s (i + n - 1) (by omega)
      exact ⟨_, Q', by omega, h⟩
    by_cases c2 : p = i + n - 1
    · obtain ⟨p', Q', a, b⟩ := hone Q
      rw [← c2] at b
      exact ⟨p', Q', a, by omega⟩
    · obtain ⟨j, j1, j2, j3⟩ := hk.resolve_left (by omega)
      obtain ⟨Q', h⟩ := cop_step s Q p
      have ok := fact_ok s p (by omega)
      have hl : i + n - 1 - p ≤ ext s (j + (p - i)) p s.size 0 := by
        refine ext_ge s _ p _ (by omega) (fun m hm => ?_)
        have := bt_of_sub s (n - 1) j i j2 (by omega) j3 (p - i + m) (by omega)
        rw [show j + (p - i) + m = j + (p - i + m) by omega, this]
        congr 2
        omega
      have hm := fact_max s p (j + (p - i)) (by omega)
      by_cases c3 : i + n ≤ p + (factS s p).f1.toNat
      · exact ⟨_, Q', c3, by omega⟩
      · have e : p + (factS s p).f1.toNat = i + n - 1 := by omega
        rw [e] at h
        obtain ⟨p', Q2, a, b⟩ := hone Q'
        exact ⟨p', Q2, a, by omega⟩
theorem cop_learn (s : ByteArray) : ∀ q i known out p Q, i ≤ p → s.size ≤ i + q → (∀ x, x ∈ known → ∃ j, j < i ∧ j + x.size ≤ s.size ∧ subAt s x.size j = x) → (copF s Q p).length + 2 * out.length ≤ 2 * (learnF s q i known out).length
  | 0, i, known, out, p, Q, hp, hq, hk => by
    rw [copF_stop (by omega), learnF]; simp
  | q + 1, i, known, out, p, Q, hp, hq, hk => by
    rw [learnF]
    by_cases c : i < s.size
    · rw [if_pos c]
      have g1 := extL_ge s known i s.size 1
      have g2 := extL_le s known i s.size 1 (by omega)
      have g3 := extL_known s known i s.size 1 (.inl rfl)
      generalize extL s known i s.size 1 = n at *
      obtain ⟨p', Q', a, b⟩ := cop_two s i n g1 g2 (by
        rcases g3 with g3 | g3
        · exact .inl g3
        · obtain ⟨j, j1, j2, j3⟩ := hk _ g3
          rw [subAt_size s (n - 1) i (by omega)] at j2 j3
          exact .inr ⟨j, j1, j2, j3⟩) p Q hp
      have := cop_learn s q (i + n) (known ++ [subAt s n i]) (out ++ [⟨numK (subAt s (n - 1) i) known 0, (n : Int)⟩]) p' Q' a (by omega) (fun x hx => by
        rcases List.mem_append.1 hx with hx | hx
        · obtain ⟨j, j1, j2, j3⟩ := hk x hx
          exact ⟨j, by omega, j2, j3⟩
        · rw [List.mem_singleton] at hx
          subst hx
          have hz := subAt_size s n i g2
          exact ⟨i, by omega, by omega, by rw [hz]⟩)
      rw [List.length_append, List.length_singleton] at this
      omega
    · rw [if_neg c, copF_stop (by omega)]; simp
end Go.Proofs.YtpeeflkodpnbpaaDoor.Pr

/- Plans: the letters of a plan, and what reading it gives. -/
namespace Go.Proofs.YtpeeflkodpnbpaaDoor.Pr
open Go.RowKit Go.Proofs.YtpeeflkodpnbpaaDoorW.PrintWords Go.Proofs.YtpeeflkodpnbpaaDoorW.PrintLast Go.Proofs.YtpeeflkodpnbpaaDoorW.PrintMore
set_option linter.unusedVariables false
set_option linter.unusedSimpArgs false

/-- a copy agrees with the word -/
def agr (s : ByteArray) (f a n : Nat) : Prop := ∀ k, k < n → bt s ((f + k : Nat) : Int) = bt s ((a + k : Nat) : Int)
instance (s : ByteArray) (f a n : Nat) : Decidable (agr s f a n) := by unfold agr; infer_instance
/-- from position a on, these are factors of a plan -/
def plnOk (s : ByteArray) : List S63 → Nat → Prop
  | [], a => a = s.size
  | x :: l, a => (1 ≤ x.f1 ∧ (a : Int) + x.f1 ≤ s.size ∧ -1 ≤ x.f0 ∧ x.f0 < a ∧ (x.f0 < 0 → x.f1 = 1) ∧ (0 ≤ x.f0 → agr s x.f0.toNat a x.f1.toNat)) ∧ plnOk s l (a + x.f1.toNat)
instance plnOk_dec (s : ByteArray) : (l : List S63) → (a : Nat) → Decidable (plnOk s l a)
  | [], a => by unfold plnOk; infer_instance
  | x :: l, a => by
    unfold plnOk
    have := plnOk_dec s l (a + x.f1.toNat)
    infer_instance
theorem plnOk_okP (s : ByteArray) (hs : s.size ≤ 160) : ∀ l a, plnOk s l a → okP l a
  | [], _, _ => trivial
  | x :: l, a, h => by
    rw [plnOk] at h
    rw [okP]
    obtain ⟨⟨h1, h2, h3, h4, h5, _⟩, h6⟩ := h
    exact ⟨h1, by omega, h3, h4, h5, plnOk_okP s hs l _ h6⟩
/-! ### the letters of a plan -/
def ltrF (s : ByteArray) : List S63 → Nat → ByteArray
  | [], _ => ⟨#[]⟩
  | x :: l, a => (if x.f0 = -1 then s.extract a (a + 1) else ⟨#[]⟩) ++ ltrF s l (a + x.f1.toNat)
theorem mnmxP (x n : Int) (h1 : 1 ≤ x) (h2 : x ≤ n) : mn (mx x 1) n = x := by unfold mn mx; split <;> split <;> omega
theorem app_emp (a : ByteArray) : a ++ (⟨#[]⟩ : ByteArray) = a := by
  apply bl_inj
  rw [bl_append]; simp [bl]
theorem emp_app (a : ByteArray) : (⟨#[]⟩ : ByteArray) ++ a = a := by
  apply bl_inj
  rw [bl_append]; simp [bl]
theorem app_assoc (a b c : ByteArray) : a ++ b ++ c = a ++ (b ++ c) := by
  apply bl_inj
  simp only [bl_append, List.append_assoc]
theorem letters_l0 (s : ByteArray) (hs : s.size ≤ 160) (all : List S63) (hall : all.length ≤ 1000) : ∀ (l : List S63) (i a : Nat) (acc : ByteArray), all.drop i = l → a ≤ s.size → acc.size ≤ a → plnOk s l a → Evt (fun k => numnahlaw09_letters.l0 k s all acc (a : Int) (i : Int)) (acc ++ ltrF s l a)
  | [], i, a, acc, hi, ha, hz, hok => by
    have : all.length ≤ i := List.drop_eq_nil_iff.1 hi
    rw [ltrF, app_emp]
    refine Evt.step (g' := fun k => numnahlaw09_letters.j1 k s all acc (a : Int) (i : Int) false) (fun k => by rw [numnahlaw09_letters.l0, if_neg (by omega)]) (Evt.now fun k => ?_)
    rw [numnahlaw09_letters.j1, if_neg (by decide)]
  | x :: l, i, a, acc, hi, ha, hz, hok => by
    have hlt : i < all.length := by
      apply Decidable.byContradiction
      intro hn
      rw [List.drop_eq_nil_of_le (by omega)] at hi
      cases hi
    have hd := List.drop_eq_getElem_cons hlt
    rw [hi] at hd
    injection hd with h1 h2
    have e : rd_T63 all (i : Int) = x := by rw [h1]; simp [rd_T63, hlt]
    rw [plnOk] at hok
    obtain ⟨⟨o1, o2, o3, o4, o5, o7⟩, o6⟩ := hok
    have hm := mnmxP x.f1 s.size o1 (by omega)
    have w1 : Aside0 (wrap64 ((a : Int) + x.f1) = ((a + x.f1.toNat : Nat) : Int)) := ⟨(wr (by omega) (by omega)).trans (by omega)⟩
    have w2 : Aside0 (wrap64 ((i : Int) + 1) = ((i + 1 : Nat) : Int)) := ⟨(wr (by omega) (by omega)).trans (by omega)⟩
    have w3 : Aside0 (wrap64 ((a : Int) + 1) = ((a + 1 : Nat) : Int)) := ⟨(wr (by omega) (by omega)).trans (by omega)⟩
    have hxz : (s.extract a (a + 1)).size = 1 := by rw [ByteArray.size_extract]; omega
    refine Evt.step (g' := fun k => numnahlaw09_letters.j1 k s all acc (a : Int) (i : Int) true) (fun k => by rw [numnahlaw09_letters.l0, if_pos (by omega), if_pos (by omega), decide_eq_true (by omega)]) ?_
    rw [ltrF]
    by_cases c : x.f0 = -1
    · rw [if_pos c]
      have ih := letters_l0 s hs all hall l (i + 1) (a + x.f1.toNat) (acc ++ s.extract a (a + 1)) h2.symm (by omega) (by rw [ByteArray.size_append, hxz]; omega) o6
      rw [app_assoc] at ih
      refine Evt.step (fun k => ?_) ih
      rw [numnahlaw09_letters.j1, if_pos rfl, if_pos (by omega), if_pos (by omega), e, if_pos c, w3.out, if_pos (by omega), if_pos (by omega), if_pos (by omega), Int.toNat_natCast, Int.toNat_natCast, if_pos (by rw [hxz]; omega), hm, w1.out, w2.out]
    · rw [if_neg c, emp_app]
      refine Evt.step (fun k => ?_) (letters_l0 s hs all hall l (i + 1) (a + x.f1.toNat) acc h2.symm (by omega) (by omega) o6)
      rw [numnahlaw09_letters.j1, if_pos rfl, if_pos (by omega), if_pos (by omega), e, if_neg c, hm, w1.out, w2.out]
theorem letters_ev (s : ByteArray) (hs : s.size ≤ 160) (l : List S63) (hl : l.length ≤ 1000) (h : plnOk s l 0) : Evt (fun k => numnahlaw09_letters.f k s l) (ltrF s l 0) := by
  have := letters_l0 s hs l hl l 0 0 ⟨#[]⟩ rfl (by omega) (by simp [ByteArray.size]) h
  rwa [emp_app] at this
theorem ltrF_size (s : ByteArray) (hs : s.size ≤ 160) : ∀ l a, plnOk s l a → (ltrF s l a).size = sgl l
  | [], _, _ => rfl
  | x :: l, a, h => by
    rw [plnOk] at h
    obtain ⟨⟨o1, o2, o3, o4, o5, o7⟩, o6⟩ := h
    have ih := ltrF_size s hs l _ o6
    rw [ltrF, ByteArray.size_append, ih, sgl]
    by_cases c : x.f0 = -1
    · rw [if_pos c, if_pos (by omega), ByteArray.size_extract]; omega
    · rw [if_neg c, if_neg (by omega)]; rfl
theorem ltrF_mem (s : ByteArray) : ∀ l a c, c ∈ bl (ltrF s l a) → c ∈ bl s
  | [], _, c, h => by simp [ltrF, bl] at h
  | x :: l, a, c, h => by
    rw [ltrF, bl_append, List.mem_append] at h
    rcases h with h | h
    · split at h
      · rw [bl_extract] at h
        exact List.mem_of_mem_drop (List.mem_of_mem_take h)
      · simp [bl] at h
    · exact ltrF_mem s l _ c h

/-! ### reading a plan of a word gives the word -/
def nb (s : ByteArray) (a : Nat) : List Int := (List.range a).map (fun i : Nat => bt s (i : Int))
theorem nb_succ (s : ByteArray) (a : Nat) : nb s (a + 1) = nb s a ++ [bt s (a : Int)] := by unfold nb; rw [List.range_succ, List.map_append]; rfl
theorem nb_rd (s : ByteArray) (a i : Nat) (h : i < a) : rd (nb s a) (i : Int) = bt s (i : Int) := by simp [rd, nb, h]
theorem spkC_nb (s : ByteArray) (f a : Nat) (hf : f < a) : ∀ (q k : Nat), (∀ j, k ≤ j → j < k + q → bt s ((f + j : Nat) : Int) = bt s ((a + j : Nat) : Int)) → spkC q (nb s (a + k)) (f : Int) k = nb s (a + k + q)
  | 0, k, h => rfl
  | q + 1, k, h => by
    have e := h k (Nat.le_refl _) (by omega)
    have e2 : rd (nb s (a + k)) ((f : Int) + (k : Int)) = bt s ((a + k : Nat) : Int) := by
      rw [show (f : Int) + (k : Int) = ((f + k : Nat) : Int) by omega, nb_rd s _ _ (by omega), e]
    rw [spkC, e2, ← nb_succ]
    have := spkC_nb s f a hf q (k + 1) (fun j h1 h2 => h j (by omega) (by omega))
    rw [show a + k + (q + 1) = a + (k + 1) + q by omega]
    exact this
theorem bt_one (s : ByteArray) (a : Nat) (h : a < s.size) : bt (s.extract a (a + 1)) 0 = bt s (a : Int) := by
  have := bt_btL (s.extract a (a + 1)) 0
  rw [show ((0 : Nat) : Int) = 0 from rfl] at this
  rw [this, bt_btL]
  unfold btL
  rw [bl_extract, List.getElem?_take, if_pos (by omega), List.getElem?_drop, Nat.add_zero]
theorem bt_app_l (a b : ByteArray) (i : Nat) (h : i < a.size) : bt (a ++ b) (i : Int) = bt a (i : Int) := by
  rw [bt_btL, bt_btL]
  unfold btL
  rw [bl_append, List.getElem?_append_left (by rw [bl_len]; exact h)]
theorem bt_app_r (a b : ByteArray) (i : Nat) : bt (a ++ b) ((a.size + i : Nat) : Int) = bt b (i : Int) := by
  rw [bt_btL, bt_btL]
  unfold btL
  rw [bl_append, List.getElem?_append_right (by rw [bl_len]; omega), bl_len, Nat.add_sub_cancel_left]
theorem spk_nb (s : ByteArray) (hs : s.size ≤ 160) : ∀ (l : List S63) (a : Nat) (pre : ByteArray), plnOk s l a → (spk (pre ++ ltrF s l a) l (nb s a) pre.size).1 = nb s s.size
  | [], a, pre, h => by
    rw [plnOk] at h
    rw [spk, h]
  | x :: l, a, pre, h => by
    rw [plnOk] at h
    obtain ⟨⟨o1, o2, o3, o4, o5, o7⟩, o6⟩ := h
    rw [spk, ltrF]
    by_cases c : x.f0 < 0
    · have c2 : x.f0 = -1 := by omega
      have c3 := o5 c
      rw [if_pos c, if_pos c2]
      have hxz : (s.extract a (a + 1)).size = 1 := by rw [ByteArray.size_extract]; omega
      have e : bt (pre ++ (s.extract a (a + 1) ++ ltrF s l (a + x.f1.toNat))) (pre.size : Int) = bt s (a : Int) := by
        have := bt_app_r pre (s.extract a (a + 1) ++ ltrF s l (a + x.f1.toNat)) 0
        have this : bt (pre ++ (s.extract a (a + 1) ++ ltrF s l (a + x.f1.toNat))) (pre.size : Int) = bt (s.extract a (a + 1) ++ ltrF s l (a + x.f1.toNat)) ((0 : Nat) : Int) := this
        rw [this, bt_app_l _ _ 0 (by omega)]
        exact bt_one s a (by omega)
      have ih := spk_nb s hs l (a + x.f1.toNat) (pre ++ s.extract a (a + 1)) o6
      rw [ByteArray.size_append, hxz, app_assoc] at ih
      rw [e, ← nb_succ]
      rw [show a + x.f1.toNat = a + 1 by omega] at ih ⊢
      exact ih
    · have c2 : ¬ x.f0 = -1 := by omega
      rw [if_neg c, if_neg c2, emp_app]
      obtain ⟨f, hf⟩ : ∃ f : Nat, x.f0 = (f : Int) := ⟨x.f0.toNat, by omega⟩
      have hag := o7 (by omega)
      rw [hf, Int.toNat_natCast] at hag
      have := spkC_nb s f a (by omega) x.f1.toNat 0 (fun j h1 h2 => hag j (by omega))
      rw [Nat.add_zero] at this
      rw [hf, this]
      exact spk_nb s hs l (a + x.f1.toNat) pre o6
theorem str_nb (s : ByteArray) : strOfNums (nb s s.size) = s := by
  apply bl_inj
  show (nb s s.size).map (fun n => UInt8.ofNat n.toNat) = bl s
  unfold nb
  rw [List.map_map]
  apply List.ext_getElem?
  intro i
  rw [List.getElem?_map]
  by_cases h : i < s.size
  · have h2 : i < (bl s).length := by rw [bl_len]; exact h
    rw [List.getElem?_range h, List.getElem?_eq_getElem h2]
    show some (UInt8.ofNat (bt s (i : Int)).toNat) = _
    rw [bt_btL]
    unfold btL
    rw [List.getElem?_eq_getElem h2]
    simp
  · rw [List.getElem?_eq_none (by simp; omega), List.getElem?_eq_none (by rw [bl_len]; omega)]; rfl
theorem read_plan (s : ByteArray) (hw : isWordC s = true) (l : List S63) (h : plnOk s l 0) : readF l (ltrF s l 0) = (s, 0) := by
  have hs := ((isWordC_iff s).1 hw).1
  have hz := ltrF_size s hs l 0 h
  have hsg : ∀ l a, plnOk s l a → sgl l + a ≤ s.size := by
    intro l
    induction l with
    | nil => intro a h; rw [plnOk] at h; simp [sgl]; omega
    | cons x l ih =>
      intro a h
      rw [plnOk] at h
      have := ih _ h.2
      have h1 := h.1.1
      rw [sgl]
      split <;> omega
  have := hsg l 0 h
  have hwl : isWordC (ltrF s l 0) = true := word_of_mem _ (by omega) (fun c hc => ok_mem s hw c (ltrF_mem s l 0 c hc))
  unfold readF
  rw [if_pos ⟨hwl, plnOk_okP s hs l 0 h, hz.symm⟩]
  have e := spk_nb s hs l 0 ⟨#[]⟩ h
  rw [emp_app] at e
  have e2 : (spk (ltrF s l 0) l [] 0).1 = nb s s.size := e
  rw [e2, str_nb]
/-- the copying parse is a plan -/
theorem cop_plan (s : ByteArray) : ∀ q i, i ≤ s.size → s.size ≤ i + q → plnOk s (copF s q i) i
  | 0, i, h1, h2 => by rw [copF, plnOk]; omega
  | q + 1, i, h1, h2 => by
    rw [copF]
    by_cases c : i < s.size
    · rw [if_pos c, plnOk]
      have ok := fact_ok s i c
      refine ⟨⟨ok.1, ok.2.1, ok.2.2.1, ok.2.2.2, ?_, ?_⟩, cop_plan s q _ (by omega) (by omega)⟩
      · intro hn
        rcases fact_is s i with h | ⟨f, f1, f2, f3, f4⟩
        · exact congrArg Prod.snd h
        · omega
      · intro hp
        rcases fact_is s i with h | ⟨f, f1, f2, f3, f4⟩
        · have : (factS s i).f0 = -1 := congrArg Prod.fst h
          omega
        · obtain ⟨_, e2, e3, _⟩ := ext_spec s f i s.size 0 (by omega) (by omega)
          intro k hk
          have := e3 k (by omega) (by omega)
          rw [f3, Int.toNat_natCast]
          exact this
    · rw [if_neg c, plnOk]; omega
theorem copF_leq (s : ByteArray) : ∀ q i, (copF s q i).length ≤ q
  | 0, _ => by simp [copF]
  | q + 1, i => by
    rw [copF]
    split
    · rw [List.length_cons]; have := copF_leq s q (i + (factS s i).f1.toNat); omega
    · simp
end Go.Proofs.YtpeeflkodpnbpaaDoor.Pr

/- Cheapest's plan is a plan, its cost is the one told, and no plan is cheaper. -/
namespace Go.Proofs.YtpeeflkodpnbpaaDoor.Pr
open Go.RowKit Go.Proofs.YtpeeflkodpnbpaaDoorW.PrintWords Go.Proofs.YtpeeflkodpnbpaaDoorW.PrintLast Go.Proofs.YtpeeflkodpnbpaaDoorW.PrintMore
set_option linter.unusedVariables false
set_option linter.unusedSimpArgs false

/-- how long a copy at a may be -/
def lenC (s : ByteArray) (a : Nat) : Nat := if (factS s a).f0 < 0 then 0 else (factS s a).f1.toNat
theorem earlF_none (s : ByteArray) (i : Nat) : ∀ m f b, 1 ≤ b.2 → (earlF s i m f b).1 < 0 → b.1 < 0 ∧ (b = (-1, 1) → ∀ j, f ≤ j → j < f + m → ext s j i s.size 0 = 0)
  | 0, f, b, h1, h => ⟨h, fun _ j h1 h2 => by omega⟩
  | m + 1, f, b, hb, h => by
    rw [earlF] at h
    have hb2 : 1 ≤ (pick9 f (ext s f i s.size 0) b).2 := by
      unfold pick9
      split
      · rename_i hc
        show (1 : Int) ≤ (ext s f i s.size 0 : Int)
        omega
      · exact hb
    obtain ⟨g1, g2⟩ := earlF_none s i m (f + 1) _ hb2 h
    unfold pick9 at g1 g2
    by_cases p : 0 < ext s f i s.size 0 ∧ (b = ((-1 : Int), (1 : Int)) ∨ b.2 < (ext s f i s.size 0 : Int))
    · rw [if_pos p] at g1
      have : (f : Int) < 0 := g1
      omega
    · rw [if_neg p] at g1 g2
      refine ⟨g1, fun e j h1 h2 => ?_⟩
      by_cases c : j = f
      · subst c
        apply Decidable.byContradiction
        intro hn
        exact p ⟨by omega, .inl e⟩
      · exact g2 e j (by omega) (by omega)
theorem lenC_max (s : ByteArray) (a j : Nat) (h : j < a) : ext s j a s.size 0 ≤ lenC s a := by
  unfold lenC
  by_cases c : (factS s a).f0 < 0
  · rw [if_pos c]
    have := (earlF_none s a a 0 (-1, 1) (by decide) c).2 rfl j (by omega) (by omega)
    omega
  · rw [if_neg c]
    have := fact_max s a j h
    omega
theorem lenC_is (s : ByteArray) (a : Nat) : lenC s a = 0 ∨ ∃ j, j < a ∧ ext s j a s.size 0 = lenC s a ∧ (factS s a).f0 = j := by
  unfold lenC
  by_cases c : (factS s a).f0 < 0
  · exact .inl (if_pos c)
  · rw [if_neg c]
    rcases fact_is s a with h | ⟨f, f1, f2, f3, f4⟩
    · have : (factS s a).f0 = -1 := congrArg Prod.fst h
      omega
    · exact .inr ⟨f, f1, by omega, f3⟩
theorem inn_is (q F : Int) (T : List (Int × S63)) (L : Nat) (c0 : Int × S63) : ∀ r n cur, n + r ≤ L → (cur = c0 ∨ ∃ i : Nat, i < L ∧ cur = (q + (T.getD i (0, z63)).1, ⟨F, (i : Int) + 1⟩)) →
    (inn q F T r n cur = c0 ∨ ∃ i : Nat, i < L ∧ inn q F T r n cur = (q + (T.getD i (0, z63)).1, ⟨F, (i : Int) + 1⟩))
  | 0, _, cur, _, h => h
  | r + 1, n, cur, hn, h => by
    rw [inn]
    refine inn_is q F T L c0 r (n + 1) _ (by omega) ?_
    split
    · exact .inr ⟨n, by omega, rfl⟩
    · exact h
theorem inn_min (q F : Int) (T : List (Int × S63)) : ∀ r n cur i, n ≤ i → i < n + r → (inn q F T r n cur).1 ≤ q + (T.getD i (0, z63)).1
  | 0, n, cur, i, h1, h2 => by omega
  | r + 1, n, cur, i, h1, h2 => by
    rw [inn]
    by_cases e : i = n
    · subst e
      refine Int.le_trans (inn_le q F T r (i + 1) _) ?_
      split
      · exact Int.le_refl _
      · omega
    · exact inn_min q F T r (n + 1) _ i (by omega) (by omega)
/-- cost from position a on -/
def C (s : ByteArray) (p q : Int) (a : Nat) : Int := ((chp s p q s.size).getD a (0, z63)).1
def X (s : ByteArray) (p q : Int) (a : Nat) : S63 := ((chp s p q s.size).getD a (0, z63)).2
theorem C_end (s : ByteArray) (p q : Int) : C s p q s.size = 0 := by
  unfold C
  rw [chp_at s p q s.size s.size (Nat.le_refl _), Nat.sub_self]; rfl
/-- the recursion -/
theorem C_rec (s : ByteArray) (p q : Int) (a : Nat) (ha : a < s.size) : ((C s p q a = p + C s p q (a + 1) ∧ X s p q a = ⟨-1, 1⟩) ∨ ∃ n : Nat, n < lenC s a ∧ C s p q a = q + C s p q (a + n + 1) ∧ X s p q a = ⟨(factS s a).f0, (n : Int) + 1⟩) ∧
    C s p q a ≤ p + C s p q (a + 1) ∧ ∀ n, n < lenC s a → C s p q a ≤ q + C s p q (a + n + 1) := by
  obtain ⟨m, hm⟩ : ∃ m, s.size - a = m + 1 := ⟨s.size - a - 1, by omega⟩
  have ea : s.size - (m + 1) = a := by omega
  have hrest : ∀ n, a + n + 1 ≤ s.size → C s p q (a + n + 1) = ((chp s p q m).getD n (0, z63)).1 := by
    intro n hn
    unfold C
    rw [chp_at s p q s.size (a + n + 1) hn, chp_at s p q m n (by omega), show s.size - (a + n + 1) = m - n by omega]
  have hr0 := hrest 0 (by omega)
  have ok := fact_ok s a ha
  have hL : a + lenC s a ≤ s.size := by
    unfold lenC
    split <;> omega
  have hC : (chp s p q s.size).getD a (0, z63) = (if (factS s a).f0 < 0 then (p + ((chp s p q m).getD 0 (0, z63)).1, (⟨-1, 1⟩ : S63)) else inn q (factS s a).f0 (chp s p q m) (factS s a).f1.toNat 0 (p + ((chp s p q m).getD 0 (0, z63)).1, ⟨-1, 1⟩)) := by
    rw [chp_at s p q s.size a (by omega), hm, chp, getD_cons0, ea]
  have hc1 : C s p q a = ((chp s p q s.size).getD a (0, z63)).1 := rfl
  have hx1 : X s p q a = ((chp s p q s.size).getD a (0, z63)).2 := rfl
  rw [Nat.add_zero] at hr0
  by_cases c : (factS s a).f0 < 0
  · have hl0 : lenC s a = 0 := if_pos c
    rw [if_pos c] at hC
    rw [hc1, hx1, hC, hr0]
    refine ⟨.inl ⟨rfl, rfl⟩, Int.le_refl _, fun n hn => by omega⟩
  · have hl1 : lenC s a = (factS s a).f1.toNat := if_neg c
    rw [if_neg c] at hC
    rw [hc1, hx1, hC, hr0]
    rw [hl1] at hL ⊢
    refine ⟨?_, inn_le q _ _ _ _ (p + ((chp s p q m).getD 0 (0, z63)).1, ⟨-1, 1⟩), fun n hn => ?_⟩
    · rcases inn_is q (factS s a).f0 (chp s p q m) (factS s a).f1.toNat (p + ((chp s p q m).getD 0 (0, z63)).1, ⟨-1, 1⟩) (factS s a).f1.toNat 0 _ (by omega) (.inl rfl) with h | ⟨i, h1, h2⟩
      · rw [h]; exact .inl ⟨rfl, rfl⟩
      · rw [h2]
        exact .inr ⟨i, h1, by rw [hrest i (by omega)], rfl⟩
    · rw [hrest n (by omega)]
      exact inn_min q _ _ _ 0 _ n (by omega) (by omega)
/-! ### the plan -/
theorem pln_ok (s : ByteArray) (p q : Int) : ∀ k a, a ≤ s.size → s.size ≤ a + k → plnOk s (plnF (chp s p q s.size) s.size k a) a
  | 0, a, h1, h2 => by rw [plnF, plnOk]; omega
  | k + 1, a, h1, h2 => by
    rw [plnF]
    by_cases c : a < s.size
    · rw [if_pos c, plnOk]
      have fit := chp_fit s p q a c
      refine ⟨⟨fit.1, fit.2.1, fit.2.2.1, fit.2.2.2, ?_, ?_⟩, pln_ok s p q k _ (by omega) (by omega)⟩
      · intro hn
        have hn : (X s p q a).f0 < 0 := hn
        rcases (C_rec s p q a c).1 with ⟨_, h⟩ | ⟨n, h1, _, h⟩
        · show (X s p q a).f1 = 1
          rw [h]
        · rw [h] at hn
          rcases lenC_is s a with h3 | ⟨j, j1, j2, j3⟩
          · omega
          · have : (factS s a).f0 < 0 := hn
            omega
      · intro hp
        have hp : 0 ≤ (X s p q a).f0 := hp
        show agr s (X s p q a).f0.toNat a (X s p q a).f1.toNat
        rcases (C_rec s p q a c).1 with ⟨_, h⟩ | ⟨n, h1, _, h⟩
        · rw [h] at hp
          exact absurd hp (by decide)
        · rcases lenC_is s a with h3 | ⟨j, j1, j2, j3⟩
          · omega
          · obtain ⟨_, e2, e3, _⟩ := ext_spec s j a s.size 0 (by omega) (by omega)
            rw [h]
            intro i hi
            have hi : i < ((n : Int) + 1).toNat := hi
            have := e3 i (by omega) (by omega)
            show bt s (((factS s a).f0.toNat + i : Nat) : Int) = _
            rw [j3, Int.toNat_natCast]
            exact this
    · rw [if_neg c, plnOk]; omega
def costL (p q : Int) : List S63 → Int
  | [] => 0
  | x :: l => (if x.f0 < 0 then p else q) + costL p q l
theorem pln_cost (s : ByteArray) (p q : Int) : ∀ k a, a ≤ s.size → s.size ≤ a + k → costL p q (plnF (chp s p q s.size) s.size k a) = C s p q a
  | 0, a, h1, h2 => by
    rw [plnF, costL, show a = s.size by omega, C_end]
  | k + 1, a, h1, h2 => by
    rw [plnF]
    by_cases c : a < s.size
    · rw [if_pos c, costL]
      have fit := chp_fit s p q a c
      rw [pln_cost s p q k _ (by omega) (by omega)]
      have hx : ((chp s p q s.size).getD a (0, z63)).2 = X s p q a := rfl
      rw [hx]
      rcases (C_rec s p q a c).1 with ⟨h3, h⟩ | ⟨n, h3, h4, h⟩
      · rw [h, h3]
        rfl
      · rcases lenC_is s a with h5 | ⟨j, j1, j2, j3⟩
        · omega
        · rw [h, h4]
          show (if (factS s a).f0 < 0 then p else q) + C s p q (a + ((n : Int) + 1).toNat) = _
          rw [if_neg (by omega), show a + ((n : Int) + 1).toNat = a + n + 1 by omega]
    · rw [if_neg c, costL, show a = s.size by omega, C_end]
/-- no plan is cheaper -/
theorem C_least (s : ByteArray) (p q : Int) : ∀ (l : List S63) (a : Nat), plnOk s l a → C s p q a ≤ costL p q l
  | [], a, h => by
    rw [plnOk] at h
    rw [h, C_end]; exact Int.le_refl _
  | x :: l, a, h => by
    rw [plnOk] at h
    obtain ⟨⟨o1, o2, o3, o4, o5, o7⟩, o6⟩ := h
    have ih := C_least s p q l _ o6
    have hr := C_rec s p q a (by omega)
    rw [costL]
    by_cases c : x.f0 < 0
    · have h1 := o5 c
      rw [if_pos c]
      rw [h1] at ih
      have := hr.2.1
      have e : a + (1 : Int).toNat = a + 1 := rfl
      rw [e] at ih
      omega
    · rw [if_neg c]
      have hag := o7 (by omega)
      have he := ext_ge s x.f0.toNat a x.f1.toNat (by omega) hag
      have hm := lenC_max s a x.f0.toNat (by omega)
      have := hr.2.2 (x.f1.toNat - 1) (by omega)
      rw [show a + (x.f1.toNat - 1) + 1 = a + x.f1.toNat by omega] at this
      omega
theorem pln_len (s : ByteArray) (p q : Int) : ∀ k a, (plnF (chp s p q s.size) s.size k a).length ≤ k
  | 0, _ => by simp [plnF]
  | k + 1, a => by
    rw [plnF]
    split
    · rw [List.length_cons]; have := pln_len s p q k (a + ((chp s p q s.size).getD a (0, z63)).2.f1.toNat); omega
    · simp
end Go.Proofs.YtpeeflkodpnbpaaDoor.Pr

/- tame(s, most) is a word of at most that many letters. -/
namespace Go.Proofs.YtpeeflkodpnbpaaDoor.Pr
open Go.RowKit Go.Proofs.YtpeeflkodpnbpaaDoorW.PrintWords Go.Proofs.YtpeeflkodpnbpaaDoorW.PrintLast Go.Proofs.YtpeeflkodpnbpaaDoorW.PrintMore
set_option linter.unusedVariables false
set_option linter.unusedSimpArgs false

theorem ok_nums (l : List Int) (h : ∀ x, x ∈ l → 97 ≤ x ∧ x ≤ 100) : ∀ i, i < (strOfNums l).size → okAt (strOfNums l) i := by
  intro i hi
  rw [strOfNums_size] at hi
  have e : (strOfNums l).get! i = UInt8.ofNat (l[i]).toNat := by
    have : ((strOfNums l).data[i]?) = some (UInt8.ofNat (l[i]).toNat) := by
      rw [← Array.getElem?_toList, strOfNums_data]
      simp [hi]
    show (strOfNums l).data[i]! = _
    rw [getElem!_def, this]
  have := h _ (List.getElem_mem hi)
  unfold okAt
  rw [e]
  have e2 : (UInt8.ofNat (l[i]).toNat).toNat = (l[i]).toNat := by
    rw [UInt8.toNat_ofNat']
    omega
  rw [e2]
  omega
theorem tame_l0 (a0 : ByteArray) (hz : a0.size ≤ 140737488351232) (most : Nat) (hm : most ≤ 1000) : ∀ (q i : Nat) (l : List Int), i + q = most → i ≤ a0.size → l.length = i → (∀ x, x ∈ l → 97 ≤ x ∧ x ≤ 100) →
    ∃ s, s.size ≤ most ∧ (∀ i, i < s.size → okAt s i) ∧ Evt (fun k => numnahlaw09_tame.l0 k a0 (most : Int) l (i : Int)) s
  | 0, i, l, hi, hi2, hl, h => by
    refine ⟨strOfNums l, by rw [strOfNums_size]; omega, ok_nums l h, Evt.now fun k => ?_⟩
    rw [numnahlaw09_tame.l0]
    by_cases c : (i : Int) < (a0.size : Int)
    · rw [if_pos c, if_neg (by omega)]
    · rw [if_neg c]
  | q + 1, i, l, hi, hi2, hl, h => by
    by_cases c : i < a0.size
    · have hr := bt_range a0 (i : Int)
      obtain ⟨s, h1, h2, h3⟩ := tame_l0 a0 hz most hm q (i + 1) (l ++ [(97 + (Int.tmod (bt a0 (i : Int)) 4)) % 256]) (by omega) (by omega) (by rw [List.length_append, hl]; rfl) (fun x hx => by
        rcases List.mem_append.1 hx with hx | hx
        · exact h x hx
        · rw [List.mem_singleton] at hx
          rw [hx, Int.tmod_eq_emod_of_nonneg hr.1]
          omega)
      refine ⟨s, h1, h2, Evt.step (fun k => ?_) h3⟩
      rw [numnahlaw09_tame.l0, if_pos (by omega), if_pos (by omega), if_pos (by omega), if_pos (by omega), wr (by omega) (by omega)]
      rfl
    · refine ⟨strOfNums l, by rw [strOfNums_size]; omega, ok_nums l h, Evt.now fun k => ?_⟩
      rw [numnahlaw09_tame.l0, if_neg (by omega)]
theorem tame_ev (a0 : ByteArray) (hz : a0.size ≤ 140737488351232) (most : Nat) (hm : most ≤ 160) : ∃ s, s.size ≤ most ∧ isWordC s = true ∧ Evt (fun k => numnahlaw09_tame.f k a0 (most : Int)) s := by
  obtain ⟨s, h1, h2, h3⟩ := tame_l0 a0 hz most (by omega) most 0 [] (by omega) (by omega) rfl (by simp)
  exact ⟨s, h1, (isWordC_iff s).2 ⟨by omega, h2⟩, h3⟩
theorem mod_some (x : Int) (n : Nat) (h1 : 1 ≤ n) (h2 : n ≤ 1000000) : ∃ r : Nat, r < n ∧ numnahlaw09_mod.f x (n : Int) = some (r : Int) := by
  have e : IntKind.u64.wrap (n : Int) = n := wu (by omega) (by omega)
  have h0 : 0 ≤ IntKind.u64.wrap x := by
    simp only [IntKind.wrap, IntKind.bits, IntKind.signed]
    simp
    omega
  refine ⟨(IntKind.u64.wrap x % n).toNat, ?_, ?_⟩
  · have := Int.emod_lt_of_pos (IntKind.u64.wrap x) (show (0 : Int) < n by omega)
    have := Int.emod_nonneg (IntKind.u64.wrap x) (show (n : Int) ≠ 0 by omega)
    omega
  · have := Int.emod_lt_of_pos (IntKind.u64.wrap x) (show (0 : Int) < n by omega)
    have h3 := Int.emod_nonneg (IntKind.u64.wrap x) (show (n : Int) ≠ 0 by omega)
    rw [numnahlaw09_mod.f, e, if_neg (by omega), Int.tmod_eq_emod_of_nonneg h0, wr (by omega) (by omega), Int.toNat_of_nonneg h3]
end Go.Proofs.YtpeeflkodpnbpaaDoor.Pr

/- awake() answers true. -/
namespace Go.Proofs.YtpeeflkodpnbpaaDoor.Pr
open Go.RowKit Go.Proofs.YtpeeflkodpnbpaaDoorW.PrintWords Go.Proofs.YtpeeflkodpnbpaaDoorW.PrintLast Go.Proofs.YtpeeflkodpnbpaaDoorW.PrintMore
set_option linter.unusedVariables false
set_option maxRecDepth 1000000 in
theorem awake_run : numnahlaw09_awake.f 200 = some true := by kernel_rfl
theorem awake_ev : Evt (fun k => numnahlaw09_awake.f k) true := ⟨200, fun k hk => at_rounds (fun k => numnahlaw09_awake.mono k) hk awake_run⟩
theorem awake_bind : Evt (fun k => (numnahlaw09_awake.f k).bind fun t => some t) true := Evt.congr awake_ev (fun k => by cases numnahlaw09_awake.f k <;> rfl)
end Go.Proofs.YtpeeflkodpnbpaaDoor.Pr

namespace Go.Proofs.YtpeeflkodpnbpaaDoor.Pure
open Go.RowKit Go.Proofs.YtpeeflkodpnbpaaDoor.Pr Go.Proofs.YtpeeflkodpnbpaaDoorW.PrintWords Go.Proofs.YtpeeflkodpnbpaaDoorW.PrintLast
set_option linter.unusedVariables false
set_option linter.unusedSimpArgs false

theorem ParseThere : numnahlaw09_ParseThere.Pure := by
  intro a0 a1 a2 h0
  intros
  apply Evt.ex
  obtain ⟨s, hs, hw, ht⟩ := tame_ev a0 h0 160 (by omega)
  show Evt (fun k => numnahlaw09_ParseThere.f k a0 a1 a2) true
  unfold numnahlaw09_ParseThere.f
  obtain ⟨f, hf, hm⟩ := mod_some a1 100 (by omega) (by omega)
  obtain ⟨g, hg, hm2⟩ := mod_some a2 100 (by omega) (by omega)
  have hm : numnahlaw09_mod.f a1 100 = some (f : Int) := hm
  have hm2 : numnahlaw09_mod.f a2 100 = some (g : Int) := hm2
  have w1 : Aside0 (wrap64 (1 + (f : Int)) = 1 + (f : Int)) := ⟨wr (by omega) (by omega)⟩
  have w2 : Aside0 (wrap64 (1 + (g : Int)) = 1 + (g : Int)) := ⟨wr (by omega) (by omega)⟩
  have hp : priceB (1 + (f : Int)) (1 + (g : Int)) = true := by
    simp only [priceB, Bool.and_eq_true, decide_eq_true_eq]; omega
  have e1 : parse_Copying.f s = some (copF s s.size 0, 0) := by rw [parse_Copying.f, if_pos hw]
  have e2 : parse_Cheapest.f s (wrap64 (1 + (f : Int))) (wrap64 (1 + (g : Int))) = some (plnF (chp s (1 + (f : Int)) (1 + (g : Int)) s.size) s.size s.size 0, C s (1 + (f : Int)) (1 + (g : Int)) 0, 0) := by
    rw [w1.out, w2.out, parse_Cheapest.f, cheapR, if_pos ⟨hw, hp⟩]; rfl
  have p1 := cop_plan s s.size 0 (by omega) (by omega)
  have p2 := pln_ok s (1 + (f : Int)) (1 + (g : Int)) s.size 0 (by omega) (by omega)
  have l1 := copF_leq s s.size 0
  have l2 := pln_len s (1 + (f : Int)) (1 + (g : Int)) s.size 0
  generalize plnF (chp s (1 + (f : Int)) (1 + (g : Int)) s.size) s.size s.size 0 = pl at *
  generalize C s (1 + (f : Int)) (1 + (g : Int)) 0 = c at *
  generalize copF s s.size 0 = cl at *
  have r1 : parse_Read.f cl (ltrF s cl 0) = some (s, 0) := by rw [parse_Read.f, if_pos (by omega), read_plan s hw cl p1]
  have r2 : parse_Read.f pl (ltrF s pl 0) = some (s, 0) := by rw [parse_Read.f, if_pos (by omega), read_plan s hw pl p2]
  refine Evt.bind ht (Evt.bind (Evt.all (fun _ => e1)) (Evt.bind (Evt.all (fun _ => hm)) (Evt.bind (Evt.all (fun _ => hm2)) (Evt.bind (Evt.all (fun _ => e2)) (Evt.bind (letters_ev s hs cl (by omega) p1) (Evt.bind (Evt.all (fun _ => r1)) (Evt.bind (letters_ev s hs pl (by omega) p2) (Evt.bind (Evt.all (fun _ => r2)) ?_))))))))
  exact Evt.pos rfl (Evt.pos rfl (Evt.pos rfl (Evt.pos rfl (Evt.pos rfl (Evt.pos rfl awake_bind)))))
end Go.Proofs.YtpeeflkodpnbpaaDoor.Pure
