/- ParseOwn, plainly: what Copying, Fewest and Substrings hand back is new each time: writes into it change nothing that is told later. -/
import Derived.Test.YtpeeflkodpnbpaaDoorHKeys
import Derived.Test.YtpeeflkodpnbpaaDoorHSubs
import Derived.Test.YtpeeflkodpnbpaaDoorHUnt
import Derived.Test.YtpeeflkodpnbpaaDoorHCopy
import Derived.Test.YtpeeflkodpnbpaaDoorPrB18
import Derived.Test.YtpeeflkodpnbpaaDoorHAre
import Derived.Test.YtpeeflkodpnbpaaDoorPrA26
import Derived.Test.YtpeeflkodpnbpaaDoorHRead
import Derived.Test.YtpeeflkodpnbpaaDoorPrA27
import Derived.Test.YtpeeflkodpnbpaaDoorHFew
import Derived.Test.YtpeeflkodpnbpaaDoorPrB23
import Derived.Test.YtpeeflkodpnbpaaDoorPrA1
import Derived.Test.YtpeeflkodpnbpaaDoorHWord
import Derived.Test.YtpeeflkodpnbpaaDoorHSub
import Derived.Test.YtpeeflkodpnbpaaDoorPrA11
import Derived.Test.YtpeeflkodpnbpaaDoorPrA23
import Derived.Test.YtpeeflkodpnbpaaDoorPrA8
import Derived.Test.YtpeeflkodpnbpaaDoorPrB19
import Derived.Test.YtpeeflkodpnbpaaDoorPrB15
/- The numbers of substrings, plainly. -/
namespace Go.Proofs.YtpeeflkodpnbpaaDoor.Pr
open Go.RowKit Go.WideMaps Go.Maps Go.Proofs.YtpeeflkodpnbpaaDoorW Go.Proofs.YtpeeflkodpnbpaaDoorW.PrintWords Go.Proofs.YtpeeflkodpnbpaaDoorW.PrintLast Go.Proofs.YtpeeflkodpnbpaaDoorW.PrintMore
set_option linter.unusedVariables false
set_option linter.unusedSimpArgs false

theorem insD_old {x : ByteArray} : ∀ {l : List ByteArray}, l.Pairwise ltS → x ∈ l → (insD x l).length = l.length
  | y :: l, h, hm => by
    have hy := List.pairwise_cons.1 h
    rw [insD]
    split
    · rename_i hlt
      have : x ∈ l := by
        rcases List.mem_cons.1 hm with rfl | hm
        · exact absurd rfl ((ltS_iff _ _).1 hlt).2
        · exact hm
      rw [List.length_cons, insD_old hy.2 this, List.length_cons]
    · split
      · rfl
      · rename_i hlt hne
        exfalso
        rcases List.mem_cons.1 hm with rfl | hm
        · exact hne rfl
        · exact hlt (hy.1 x hm)
theorem insD_new {x : ByteArray} : ∀ {l : List ByteArray}, x ∉ l → (insD x l).length = l.length + 1
  | [], _ => rfl
  | y :: l, hm => by
    rw [insD]
    split
    · rw [List.length_cons, insD_new (fun h => hm (List.mem_cons_of_mem _ h)), List.length_cons]
    · split
      · rename_i _ e
        exact absurd (e ▸ List.mem_cons_self) hm
      · rfl
theorem subG_tidy {H : Type} (s : ByteArray) (n : Nat) : ∀ k, Tidy (subG (H := H) s n k)
  | 0 => tidy_empty
  | k + 1 => (subG_tidy s n k).put (keyLit _) _
theorem size_up {H : Type} (s : ByteArray) (n : Nat) : ∀ k, Maps.size (subG (H := H) s n k) = (partsUp s n k).length
  | 0 => rfl
  | k + 1 => by
    rw [subG, size_put (subG_tidy s n k), partsUp, size_up s n k]
    by_cases h : Maps.has (subG (H := H) s n k) (keyS (subAt s n k)) = true
    · rw [if_pos h, insD_old (partsUp_sorted s n k) (mem_partsUp.2 ((subG_has s n _ k).1 h))]
    · rw [if_neg h, insD_new (fun hm => h ((subG_has s n _ k).2 (mem_partsUp.1 hm)))]
theorem cntS_eq (s : ByteArray) (n : Nat) : cntS s n = (partsS s n).length := size_up s n _
theorem subsF_eq (s : ByteArray) : ∀ m n l, subsF s m n l = l ++ (List.range m).map (fun i => (cntS s (n + i) : Int))
  | 0, n, l => by simp [subsF]
  | m + 1, n, l => by
    rw [subsF, subsF_eq s m (n + 1), List.range_succ_eq_map, List.map_cons, List.map_map, List.append_assoc]
    congr 1
    rw [List.singleton_append]
    congr 1
    apply List.map_congr_left
    intro a _
    show (cntS s (n + 1 + a) : Int) = cntS s (n + (a + 1))
    rw [show n + 1 + a = n + (a + 1) by omega]
def subsL (s : ByteArray) : List Int := (List.range (s.size + 1)).map (fun i => (cntS s i : Int))
theorem subs_some (s : ByteArray) (h : isWordC s = true) : parse_Substrings.f s = some (subsL s, 0) := by
  rw [parse_Substrings.f, if_pos h, subsF_eq, List.nil_append]
  simp [subsL]
theorem subsL_len (s : ByteArray) : (subsL s).length = s.size + 1 := by simp [subsL]
/-! ### counting -/
theorem nodup_le {α : Type} : ∀ {l m : List α}, l.Nodup → (∀ x, x ∈ l → x ∈ m) → l.length ≤ m.length
  | [], _, _, _ => by simp
  | x :: l, m, hn, h => by
    obtain ⟨a, b, rfl⟩ := List.append_of_mem (h x List.mem_cons_self)
    have hn2 := List.nodup_cons.1 hn
    have := nodup_le (l := l) (m := a ++ b) hn2.2 (fun y hy => by
      have h1 := h y (List.mem_cons_of_mem _ hy)
      rcases List.mem_append.1 h1 with h1 | h1
      · exact List.mem_append_left _ h1
      · rcases List.mem_cons.1 h1 with e | h1
        · exact absurd (e ▸ hy) hn2.1
        · exact List.mem_append_right _ h1)
    simp only [List.length_append, List.length_cons] at this ⊢
    omega
/-- a substring occurs -/
def occ (s t : ByteArray) (n : Nat) : Prop := ∃ j, j + n ≤ s.size ∧ subAt s n j = t
theorem mem_parts {s t : ByteArray} {n : Nat} : t ∈ partsS s n ↔ occ s t n := by
  rw [mem_partsS]
  constructor
  · rintro ⟨j, hj, h⟩; exact ⟨j, by omega, h⟩
  · rintro ⟨j, hj, h⟩; exact ⟨j, by omega, h⟩
/-! ### strings as lists of bytes -/
def bl (s : ByteArray) : List UInt8 := s.data.toList
theorem bl_inj {a b : ByteArray} (h : bl a = bl b) : a = b := Go.WideShapes.bytes_inj h
theorem bl_len (s : ByteArray) : (bl s).length = s.size := Array.length_toList
theorem bl_append (a b : ByteArray) : bl (a ++ b) = bl a ++ bl b := by unfold bl; rw [ByteArray.data_append, Array.toList_append]
theorem bl_extract (s : ByteArray) (i j : Nat) : bl (s.extract i j) = ((bl s).drop i).take (j - i) := by
  unfold bl; rw [ByteArray.data_extract, Array.toList_extract, List.extract_eq_take_drop]
theorem bl_sub (s : ByteArray) (n j : Nat) : bl (subAt s n j) = ((bl s).drop j).take n := by
  unfold subAt
  rw [bl_extract, show j + n - j = n by omega]
/-! ### one more letter; one more place -/
def ext4 : List ByteArray → List ByteArray
  | [] => []
  | t :: l => t.push 97 :: t.push 98 :: t.push 99 :: t.push 100 :: ext4 l
theorem ext4_len : ∀ l, (ext4 l).length = 4 * l.length
  | [] => rfl
  | t :: l => by simp only [ext4, List.length_cons, ext4_len l]; omega
theorem mem_ext4 {t : ByteArray} {c : UInt8} (hc : c = 97 ∨ c = 98 ∨ c = 99 ∨ c = 100) : ∀ {l : List ByteArray}, t ∈ l → t.push c ∈ ext4 l
  | x :: l, h => by
    rw [ext4]
    rcases List.mem_cons.1 h with rfl | h
    · rcases hc with rfl | rfl | rfl | rfl <;> simp
    · have := mem_ext4 hc h
      simp [this]
end Go.Proofs.YtpeeflkodpnbpaaDoor.Pr

/- Sets that touch a word: what untF says, and how many substrings there are at most. -/
namespace Go.Proofs.YtpeeflkodpnbpaaDoor.Pr
open Go.RowKit Go.Proofs.YtpeeflkodpnbpaaDoorW.PrintWords Go.Proofs.YtpeeflkodpnbpaaDoorW.PrintLast Go.Proofs.YtpeeflkodpnbpaaDoorW.PrintMore
set_option linter.unusedVariables false
set_option linter.unusedSimpArgs false

/-- a set touches the word -/
def Tch (s : ByteArray) (set : List Int) : Prop := ∀ k j : Nat, 1 ≤ k → j + k ≤ s.size → ∃ j' p : Nat, j' + k ≤ s.size ∧ subAt s k j' = subAt s k j ∧ (p : Int) ∈ set ∧ j' ≤ p ∧ p < j' + k
theorem cntB_mono (set : List Int) (i : Nat) : ∀ n, cntB set i ≤ cntB set (i + n)
  | 0 => Int.le_refl _
  | n + 1 => by
    have := cntB_mono set i n
    rw [← Nat.add_assoc, cntB]
    split <;> omega
theorem cntB_lt (set : List Int) (i : Nat) : ∀ n, cntB set i < cntB set (i + n) ↔ ∃ p : Nat, (p : Int) ∈ set ∧ i ≤ p ∧ p < i + n
  | 0 => by
    constructor
    · intro h; exact absurd h (by rw [Nat.add_zero]; exact Int.lt_irrefl _)
    · rintro ⟨p, _, h1, h2⟩; omega
  | n + 1 => by
    have ih := cntB_lt set i n
    have mo := cntB_mono set i n
    rw [← Nat.add_assoc, cntB]
    by_cases c : memI ((i + n : Nat) : Int) set = true
    · rw [if_pos c]
      constructor
      · intro _; exact ⟨i + n, memI_iff.1 c, by omega, by omega⟩
      · intro _; omega
    · rw [if_neg c]
      constructor
      · intro h
        obtain ⟨p, h1, h2, h3⟩ := ih.1 (by omega)
        exact ⟨p, h1, h2, by omega⟩
      · rintro ⟨p, h1, h2, h3⟩
        have hne : p ≠ i + n := fun e => c (memI_iff.2 (e ▸ h1))
        have := ih.2 ⟨p, h1, h2, by omega⟩
        omega
theorem tch_any (s : ByteArray) (set : List Int) (n : Nat) (t : ByteArray) : (posS s n t).any (tchP set n) = true ↔ ∃ j p : Nat, j + n ≤ s.size ∧ subAt s n j = t ∧ (p : Int) ∈ set ∧ j ≤ p ∧ p < j + n := by
  rw [List.any_eq_true]
  constructor
  · rintro ⟨x, hx, h⟩
    obtain ⟨j, hj, rfl, hs⟩ := mem_posUp.1 hx
    unfold tchP at h
    rw [decide_eq_true_iff, Int.toNat_natCast, cntB_lt] at h
    obtain ⟨p, h1, h2, h3⟩ := h
    exact ⟨j, p, by omega, hs, h1, h2, h3⟩
  · rintro ⟨j, p, hj, hs, h1, h2, h3⟩
    refine ⟨(j : Int), mem_posUp.2 ⟨j, by omega, rfl, hs⟩, ?_⟩
    unfold tchP
    rw [decide_eq_true_iff, Int.toNat_natCast, cntB_lt]
    exact ⟨p, h1, h2, h3⟩
theorem findU_none (s : ByteArray) (set : List Int) (n : Nat) : ∀ l, findU s set n l = none ↔ ∀ t, t ∈ l → (posS s n t).any (tchP set n) = true
  | [] => by simp [findU]
  | t :: l => by
    rw [findU]
    by_cases c : (posS s n t).any (tchP set n) = true
    · rw [if_pos c, findU_none s set n l]
      constructor
      · intro h x hx
        rcases List.mem_cons.1 hx with rfl | hx
        · exact c
        · exact h x hx
      · intro h x hx; exact h x (List.mem_cons_of_mem _ hx)
    · rw [if_neg c]
      constructor
      · intro h; cases h
      · intro h; exact absurd (h t List.mem_cons_self) c
theorem untF_iff (s : ByteArray) (set : List Int) : ∀ q n, (untF s set q n).2 = false ↔ ∀ k, n ≤ k → k < n + q → ∀ t, t ∈ partsS s k → (posS s k t).any (tchP set k) = true
  | 0, n => by
    rw [untF]
    exact ⟨fun _ k h1 h2 => by omega, fun _ => rfl⟩
  | q + 1, n => by
    rw [untF]
    cases h : findU s set n (partsS s n) with
    | some t =>
      constructor
      · intro h2; cases h2
      · intro h2
        have := (findU_none s set n (partsS s n)).2 (h2 n (Nat.le_refl _) (by omega))
        rw [h] at this; cases this
    | none =>
      show (untF s set q (n + 1)).2 = false ↔ _
      rw [untF_iff s set q (n + 1)]
      have h3 := (findU_none s set n (partsS s n)).1 h
      constructor
      · intro h2 k h4 h5
        by_cases e : k = n
        · subst e; exact h3
        · exact h2 k (by omega) (by omega)
      · intro h2 k h4 h5; exact h2 k (by omega) (by omega)
theorem unt_tch (s : ByteArray) (set : List Int) : (untF s set s.size 1).2 = false ↔ Tch s set := by
  rw [untF_iff]
  constructor
  · intro h k j hk hj
    have := (tch_any s set k _).1 (h k hk (by omega) (subAt s k j) (mem_parts.2 ⟨j, hj, rfl⟩))
    obtain ⟨j', p, h1, h2, h3, h4, h5⟩ := this
    exact ⟨j', p, h1, h2, h3, h4, h5⟩
  · intro h k h1 h2 t ht
    obtain ⟨j, hj, rfl⟩ := mem_parts.1 ht
    obtain ⟨j', p, g1, g2, g3, g4, g5⟩ := h k j h1 hj
    exact (tch_any s set k _).2 ⟨j', p, g1, g2, g3, g4, g5⟩
theorem untF_no (s : ByteArray) (set : List Int) : ∀ q n, (untF s set q n).2 = false → (untF s set q n).1 = emptyB
  | 0, n, _ => rfl
  | q + 1, n, h => by
    rw [untF] at h ⊢
    cases hf : findU s set n (partsS s n) with
    | some t => rw [hf] at h; cases h
    | none =>
      rw [hf] at h
      exact untF_no s set q (n + 1) h

/-! ### how many substrings -/
def cand (s : ByteArray) (k : Nat) : List Int → List ByteArray
  | [] => []
  | p :: l => (List.range k).map (fun o => subAt s k (p.toNat - o)) ++ cand s k l
theorem cand_len (s : ByteArray) (k : Nat) : ∀ l, (cand s k l).length = l.length * k
  | [] => by simp [cand]
  | p :: l => by rw [cand, List.length_append, cand_len s k l, List.length_map, List.length_range, List.length_cons, Nat.succ_mul, Nat.add_comm]
theorem mem_cand (s : ByteArray) (k : Nat) {p o : Nat} (ho : o < k) : ∀ {l : List Int}, (p : Int) ∈ l → subAt s k (p - o) ∈ cand s k l
  | q :: l, h => by
    rw [cand, List.mem_append]
    rcases List.mem_cons.1 h with h | h
    · refine .inl (List.mem_map.2 ⟨o, List.mem_range.2 ho, ?_⟩)
      rw [← h, Int.toNat_natCast]
    · exact .inr (mem_cand s k ho h)
end Go.Proofs.YtpeeflkodpnbpaaDoor.Pr

/- How far two strings go together, and the longest earlier string. -/
namespace Go.Proofs.YtpeeflkodpnbpaaDoor.Pr
open Go.RowKit Go.Proofs.YtpeeflkodpnbpaaDoorW.PrintWords Go.Proofs.YtpeeflkodpnbpaaDoorW.PrintLast Go.Proofs.YtpeeflkodpnbpaaDoorW.PrintMore
set_option linter.unusedVariables false
set_option linter.unusedSimpArgs false

def btL (l : List UInt8) (i : Nat) : Int := match l[i]? with
  | some c => (c.toNat : Int)
  | none => 0
theorem bt_btL (s : ByteArray) (i : Nat) : bt s (i : Int) = btL (bl s) i := by
  unfold bt btL bl
  rw [Array.getElem?_toList]
  by_cases h : i < s.data.size
  · rw [dif_pos (by rw [Int.toNat_natCast]; exact h), Array.getElem?_eq_getElem h]
    simp only [Int.toNat_natCast]
    rfl
  · rw [dif_neg (by rw [Int.toNat_natCast]; exact h), Array.getElem?_eq_none (by omega)]
theorem ext_spec (s : ByteArray) (j i : Nat) : ∀ q n, i + n ≤ s.size → s.size ≤ i + n + q →
    n ≤ ext s j i q n ∧ i + ext s j i q n ≤ s.size ∧ (∀ m, n ≤ m → m < ext s j i q n → bt s ((j + m : Nat) : Int) = bt s ((i + m : Nat) : Int)) ∧ (i + ext s j i q n = s.size ∨ bt s ((j + ext s j i q n : Nat) : Int) ≠ bt s ((i + ext s j i q n : Nat) : Int))
  | 0, n, h1, h2 => by
    rw [ext]
    exact ⟨Nat.le_refl _, h1, fun m a b => absurd b (by omega), .inl (by omega)⟩
  | q + 1, n, h1, h2 => by
    rw [ext]
    by_cases c : i + n < s.size
    · rw [if_pos c]
      by_cases e : bt s ((j + n : Nat) : Int) = bt s ((i + n : Nat) : Int)
      · rw [if_pos e]
        obtain ⟨a1, a2, a3, a4⟩ := ext_spec s j i q (n + 1) (by omega) (by omega)
        refine ⟨by omega, a2, fun m hm1 hm2 => ?_, a4⟩
        by_cases hmn : m = n
        · subst hmn; exact e
        · exact a3 m (by omega) hm2
      · rw [if_neg e]
        exact ⟨Nat.le_refl _, h1, fun m a b => absurd b (by omega), .inr e⟩
    · rw [if_neg c]
      exact ⟨Nat.le_refl _, h1, fun m a b => absurd b (by omega), .inl (by omega)⟩
theorem earlF_max (s : ByteArray) (i : Nat) : ∀ (m f : Nat) (b : Int × Int), 1 ≤ b.2 → b.2 ≤ (earlF s i m f b).2 ∧ ∀ j, f ≤ j → j < f + m → (ext s j i s.size 0 : Int) ≤ (earlF s i m f b).2
  | 0, f, b, h => ⟨by rw [earlF]; exact Int.le_refl _, fun j h1 h2 => by omega⟩
  | m + 1, f, b, h => by
    rw [earlF]
    have hp : 1 ≤ (pick9 f (ext s f i s.size 0) b).2 ∧ b.2 ≤ (pick9 f (ext s f i s.size 0) b).2 ∧ (ext s f i s.size 0 : Int) ≤ (pick9 f (ext s f i s.size 0) b).2 := by
      generalize ext s f i s.size 0 = e
      unfold pick9
      by_cases p : 0 < e ∧ (b = ((-1 : Int), (1 : Int)) ∨ b.2 < (e : Int))
      · rw [if_pos p]
        refine ⟨by show (1 : Int) ≤ (e : Int); omega, ?_, by show (e : Int) ≤ (e : Int); omega⟩
        show b.2 ≤ (e : Int)
        rcases p.2 with p2 | p2
        · have := congrArg Prod.snd p2
          have : b.2 = 1 := this
          omega
        · omega
      · rw [if_neg p]
        refine ⟨h, Int.le_refl _, ?_⟩
        apply Decidable.byContradiction
        intro hc
        exact p ⟨by omega, .inr (by omega)⟩
    obtain ⟨a1, a2⟩ := earlF_max s i m (f + 1) _ hp.1
    refine ⟨Int.le_trans hp.2.1 a1, fun j h1 h2 => ?_⟩
    by_cases e : j = f
    · subst e; exact Int.le_trans hp.2.2 a1
    · exact a2 j (by omega) (by omega)
end Go.Proofs.YtpeeflkodpnbpaaDoor.Pr

/- The ends of the factors of the copying parse touch the word; there are at most twice as many as factors of the learning parse. -/
namespace Go.Proofs.YtpeeflkodpnbpaaDoor.Pr
open Go.RowKit Go.Proofs.YtpeeflkodpnbpaaDoorW.PrintWords Go.Proofs.YtpeeflkodpnbpaaDoorW.PrintLast Go.Proofs.YtpeeflkodpnbpaaDoorW.PrintMore
set_option linter.unusedVariables false
set_option linter.unusedSimpArgs false

theorem bt_of_sub (s : ByteArray) (k i j : Nat) (hi : i + k ≤ s.size) (hj : j + k ≤ s.size) (h : subAt s k i = subAt s k j) (m : Nat) (hm : m < k) : bt s ((i + m : Nat) : Int) = bt s ((j + m : Nat) : Int) := by
  have h1 : i + m < (bl s).length := by rw [bl_len]; omega
  have h2 : j + m < (bl s).length := by rw [bl_len]; omega
  have e : (bl (subAt s k i))[m]? = (bl (subAt s k j))[m]? := by rw [h]
  rw [bl_sub, bl_sub, List.getElem?_take, List.getElem?_take, if_pos hm, if_pos hm, List.getElem?_drop, List.getElem?_drop] at e
  rw [bt_btL, bt_btL]
  unfold btL
  rw [e]
/-- a factor is one letter, or a copy -/
def factIs (s : ByteArray) (i : Nat) (b : Int × Int) : Prop := b = (-1, 1) ∨ ∃ j, j < i ∧ 0 < ext s j i s.size 0 ∧ b = ((j : Int), (ext s j i s.size 0 : Int))
theorem earlF_is (s : ByteArray) (i : Nat) : ∀ m f b, f + m = i → factIs s i b → factIs s i (earlF s i m f b)
  | 0, _, _, _, h => h
  | m + 1, f, b, hf, h => by
    rw [earlF]
    refine earlF_is s i m (f + 1) _ (by omega) ?_
    unfold pick9
    split
    · rename_i hc
      exact .inr ⟨f, by omega, hc.1, rfl⟩
    · exact h
theorem fact_is (s : ByteArray) (i : Nat) : ((factS s i).f0, (factS s i).f1) = ((-1 : Int), (1 : Int)) ∨ ∃ j, j < i ∧ 0 < ext s j i s.size 0 ∧ (factS s i).f0 = j ∧ (factS s i).f1 = ext s j i s.size 0 := by
  rcases earlF_is s i i 0 (-1, 1) (by omega) (.inl rfl) with h | ⟨j, h1, h2, h3⟩
  · exact .inl h
  · exact .inr ⟨j, h1, h2, congrArg Prod.fst h3, congrArg Prod.snd h3⟩
theorem fact_ok (s : ByteArray) (i : Nat) (hi : i < s.size) : 1 ≤ (factS s i).f1 ∧ (i : Int) + (factS s i).f1 ≤ s.size ∧ -1 ≤ (factS s i).f0 ∧ (factS s i).f0 < i := earl_ok s i hi
theorem fact_max (s : ByteArray) (i j : Nat) (h : j < i) : (ext s j i s.size 0 : Int) ≤ (factS s i).f1 := by
  obtain ⟨_, hm⟩ := earlF_max s i i 0 (-1, 1) (by decide)
  exact hm j (by omega) (by omega)
theorem ext_ge (s : ByteArray) (j i k : Nat) (hi : i + k ≤ s.size) (h : ∀ m, m < k → bt s ((j + m : Nat) : Int) = bt s ((i + m : Nat) : Int)) : k ≤ ext s j i s.size 0 := by
  obtain ⟨_, h2, _, h4⟩ := ext_spec s j i s.size 0 (by omega) (by omega)
  apply Decidable.byContradiction
  intro hn
  rcases h4 with h4 | h4
  · omega
  · exact h4 (h _ (by omega))
/-- where the factors end -/
def endsF (s : ByteArray) : Nat → Nat → List Int
  | 0, _ => []
  | q + 1, i => if i < s.size then ((i : Int) + (factS s i).f1 - 1) :: endsF s q (i + (factS s i).f1.toNat) else []
theorem endsF_len (s : ByteArray) : ∀ q i, (endsF s q i).length = (copF s q i).length
  | 0, _ => rfl
  | q + 1, i => by
    rw [endsF, copF]
    split
    · rw [List.length_cons, List.length_cons, endsF_len s q]
    · rfl
theorem endsF_range (s : ByteArray) : ∀ q i x, x ∈ endsF s q i → (i : Int) ≤ x ∧ x < s.size
  | 0, _, x, h => by simp [endsF] at h
  | q + 1, i, x, h => by
    rw [endsF] at h
    by_cases c : i < s.size
    · rw [if_pos c] at h
      have ok := fact_ok s i c
      rcases List.mem_cons.1 h with rfl | h
      · omega
      · have := endsF_range s q _ x h
        omega
    · rw [if_neg c] at h; simp at h
theorem endsF_sorted (s : ByteArray) : ∀ q i, (endsF s q i).Pairwise (fun x y => x < y)
  | 0, _ => .nil
  | q + 1, i => by
    rw [endsF]
    by_cases c : i < s.size
    · rw [if_pos c]
      have ok := fact_ok s i c
      refine List.pairwise_cons.2 ⟨fun x hx => ?_, endsF_sorted s q _⟩
      have := endsF_range s q _ x hx
      omega
    · rw [if_neg c]; exact .nil
theorem fact_in (s : ByteArray) : ∀ q i j, s.size ≤ i + q → i ≤ j → j < s.size → ∃ a : Nat, a < s.size ∧ a ≤ j ∧ (j : Int) < a + (factS s a).f1 ∧ ((a : Int) + (factS s a).f1 - 1) ∈ endsF s q i
  | 0, i, j, hq, h1, h2 => by omega
  | q + 1, i, j, hq, h1, h2 => by
    have ci : i < s.size := by omega
    have ok := fact_ok s i ci
    rw [endsF, if_pos ci]
    by_cases c : (j : Int) < i + (factS s i).f1
    · exact ⟨i, ci, h1, c, List.mem_cons_self⟩
    · obtain ⟨a, a1, a2, a3, a4⟩ := fact_in s q (i + (factS s i).f1.toNat) j (by omega) (by omega) h2
      exact ⟨a, a1, a2, a3, List.mem_cons_of_mem _ a4⟩
/-! ### at most twice as many -/
theorem extL_known (s : ByteArray) (known : List ByteArray) (i : Nat) : ∀ q n, (n = 1 ∨ subAt s (n - 1) i ∈ known) → (extL s known i q n = 1 ∨ subAt s (extL s known i q n - 1) i ∈ known)
  | 0, n, h => h
  | q + 1, n, h => by
    rw [extL]
    split
    · rename_i hc
      exact extL_known s known i q (n + 1) (.inr (by rw [Nat.add_sub_cancel]; exact memB_iff.1 hc.2))
    · exact h
theorem cop_step (s : ByteArray) (Q p : Nat) : ∃ Q', (copF s Q p).length ≤ 1 + (copF s Q' (p + (factS s p).f1.toNat)).length := by
  cases Q with
  | zero => exact ⟨0, by simp [copF]⟩
  | succ q =>
    refine ⟨q, ?_⟩
    rw [copF]
    split
    · rw [List.length_cons]; omega
    · simp
theorem cop_two (s : ByteArray) (i n : Nat) (h1 : 1 ≤ n) (h2 : i + n ≤ s.size) (hk : n = 1 ∨ ∃ j, j < i ∧ j + (n - 1) ≤ s.size ∧ subAt s (n - 1) j = subAt s (n - 1) i) (p Q : Nat) (hp : i ≤ p) :
    ∃ p' Q', i + n ≤ p' ∧ (copF s Q p).length ≤ 2 + (copF s Q' p').length := by
  by_cases c : i + n ≤ p
  · exact ⟨p, Q, c, by omega⟩
  · have hone : ∀ Q, ∃ p' Q', i + n ≤ p' ∧ (copF s Q (i + n - 1)).length ≤ 1 + (copF s Q' p').length := by
      intro Q
      obtain ⟨Q', h⟩ := cop_step s Q (i + n - 1)
      have ok := fact_ok s (i + n - 1) (by omega)
      exact ⟨_, Q', by omega, h⟩
    by_cases c2 : p = i + n - 1
    · obtain ⟨p', Q', a, b⟩ := hone Q
      rw [← c2] at b
      exact ⟨p', Q', a, by omega⟩
    · obtain ⟨j, j1, j2, j3⟩ := hk.resolve_left (by omega)
      obtain ⟨Q', h⟩ := cop_step s Q p
      have ok := fact_ok s p (by omega)
      have hl : i + n - 1 - p ≤ ext s (j + (p - i)) p s.size 0 := by
        refine ext_ge s _ p _ (by omega) (fun m hm => ?_)
        have := bt_of_sub s (n - 1) j i j2 (by omega) j3 (p - i + m) (by omega)
        rw [show j + (p - i) + m = j + (p - i + m) by omega, this]
        congr 2
        omega
      have hm := fact_max s p (j + (p - i)) (by omega)
      by_cases c3 : i + n ≤ p + (factS s p).f1.toNat
      · exact ⟨_, Q', c3, by omega⟩
      · have e : p + (factS s p).f1.toNat = i + n - 1 := by omega
        rw [e] at h
        obtain ⟨p', Q2, a, b⟩ := hone Q'
        exact ⟨p', Q2, a, by omega⟩
theorem cop_learn (s : ByteArray) : ∀ q i known out p Q, i ≤ p → s.size ≤ i + q → (∀ x, x ∈ known → ∃ j, j < i ∧ j + x.size ≤ s.size ∧ subAt s x.size j = x) → (copF s Q p).length + 2 * out.length ≤ 2 * (learnF s q i known out).length
  | 0, i, known, out, p, Q, hp, hq, hk => by
    rw [copF_stop (by omega), learnF]; simp
  | q + 1, i, known, out, p, Q, hp, hq, hk => by
    rw [learnF]
    by_cases c : i < s.size
    · rw [if_pos c]
      have g1 := extL_ge s known i s.size 1
      have g2 := extL_le s known i s.size 1 (by omega)
      have g3 := extL_known s known i s.size 1 (.inl rfl)
      generalize extL s known i s.size 1 = n at *
      obtain ⟨p', Q', a, b⟩ := cop_two s i n g1 g2 (by
        rcases g3 with g3 | g3
        · exact .inl g3
        · obtain ⟨j, j1, j2, j3⟩ := hk _ g3
          rw [subAt_size s (n - 1) i (by omega)] at j2 j3
          exact .inr ⟨j, j1, j2, j3⟩) p Q hp
      have := cop_learn s q (i + n) (known ++ [subAt s n i]) (out ++ [⟨numK (subAt s (n - 1) i) known 0, (n : Int)⟩]) p' Q' a (by omega) (fun x hx => by
        rcases List.mem_append.1 hx with hx | hx
        · obtain ⟨j, j1, j2, j3⟩ := hk x hx
          exact ⟨j, by omega, j2, j3⟩
        · rw [List.mem_singleton] at hx
          subst hx
          have hz := subAt_size s n i g2
          exact ⟨i, by omega, by omega, by rw [hz]⟩)
      rw [List.length_append, List.length_singleton] at this
      omega
    · rw [if_neg c, copF_stop (by omega)]; simp
end Go.Proofs.YtpeeflkodpnbpaaDoor.Pr

/- Plans of a word. -/
namespace Go.Proofs.YtpeeflkodpnbpaaDoor.Pr
open Go.RowKit Go.Proofs.YtpeeflkodpnbpaaDoorW.PrintWords Go.Proofs.YtpeeflkodpnbpaaDoorW.PrintLast Go.Proofs.YtpeeflkodpnbpaaDoorW.PrintMore
set_option linter.unusedVariables false
set_option linter.unusedSimpArgs false

/-- a copy agrees with the word -/
def agr (s : ByteArray) (f a n : Nat) : Prop := ∀ k, k < n → bt s ((f + k : Nat) : Int) = bt s ((a + k : Nat) : Int)
instance (s : ByteArray) (f a n : Nat) : Decidable (agr s f a n) := by unfold agr; infer_instance
/-- from position a on, these are factors of a plan -/
def plnOk (s : ByteArray) : List S63 → Nat → Prop
  | [], a => a = s.size
  | x :: l, a => (1 ≤ x.f1 ∧ (a : Int) + x.f1 ≤ s.size ∧ -1 ≤ x.f0 ∧ x.f0 < a ∧ (x.f0 < 0 → x.f1 = 1) ∧ (0 ≤ x.f0 → agr s x.f0.toNat a x.f1.toNat)) ∧ plnOk s l (a + x.f1.toNat)
instance plnOk_dec (s : ByteArray) : (l : List S63) → (a : Nat) → Decidable (plnOk s l a)
  | [], a => by unfold plnOk; infer_instance
  | x :: l, a => by
    unfold plnOk
    have := plnOk_dec s l (a + x.f1.toNat)
    infer_instance
theorem plnOk_okP (s : ByteArray) (hs : s.size ≤ 160) : ∀ l a, plnOk s l a → okP l a
  | [], _, _ => trivial
  | x :: l, a, h => by
    rw [plnOk] at h
    rw [okP]
    obtain ⟨⟨h1, h2, h3, h4, h5, _⟩, h6⟩ := h
    exact ⟨h1, by omega, h3, h4, h5, plnOk_okP s hs l _ h6⟩
theorem agr_snoc (s : ByteArray) (f a n : Nat) : agr s f a (n + 1) ↔ agr s f a n ∧ bt s ((f + n : Nat) : Int) = bt s ((a + n : Nat) : Int) := by
  constructor
  · intro h; exact ⟨fun k hk => h k (by omega), h n (by omega)⟩
  · rintro ⟨h1, h2⟩ k hk
    by_cases e : k = n
    · subst e; exact h2
    · exact h1 k (by omega)
/-- the copying parse is a plan -/
theorem cop_plan (s : ByteArray) : ∀ q i, i ≤ s.size → s.size ≤ i + q → plnOk s (copF s q i) i
  | 0, i, h1, h2 => by rw [copF, plnOk]; omega
  | q + 1, i, h1, h2 => by
    rw [copF]
    by_cases c : i < s.size
    · rw [if_pos c, plnOk]
      have ok := fact_ok s i c
      refine ⟨⟨ok.1, ok.2.1, ok.2.2.1, ok.2.2.2, ?_, ?_⟩, cop_plan s q _ (by omega) (by omega)⟩
      · intro hn
        rcases fact_is s i with h | ⟨f, f1, f2, f3, f4⟩
        · exact congrArg Prod.snd h
        · omega
      · intro hp
        rcases fact_is s i with h | ⟨f, f1, f2, f3, f4⟩
        · have : (factS s i).f0 = -1 := congrArg Prod.fst h
          omega
        · obtain ⟨_, e2, e3, _⟩ := ext_spec s f i s.size 0 (by omega) (by omega)
          intro k hk
          have := e3 k (by omega) (by omega)
          rw [f3, Int.toNat_natCast]
          exact this
    · rw [if_neg c, plnOk]; omega
theorem copF_leq (s : ByteArray) : ∀ q i, (copF s q i).length ≤ q
  | 0, _ => by simp [copF]
  | q + 1, i => by
    rw [copF]
    split
    · rw [List.length_cons]; have := copF_leq s q (i + (factS s i).f1.toNat); omega
    · simp
end Go.Proofs.YtpeeflkodpnbpaaDoor.Pr

/- isPlan, plainly. -/
namespace Go.Proofs.YtpeeflkodpnbpaaDoor.Pr
open Go.RowKit Go.Proofs.YtpeeflkodpnbpaaDoorW.PrintWords Go.Proofs.YtpeeflkodpnbpaaDoorW.PrintLast Go.Proofs.YtpeeflkodpnbpaaDoorW.PrintMore
set_option linter.unusedVariables false
set_option linter.unusedSimpArgs false

/-- the walk over a copy -/
theorem isPl_l1 (s : ByteArray) (hs : s.size ≤ 160) (all : List S63) (i a n f : Nat) (ha : a + n ≤ s.size) (hf : f < a) (r : Bool) (h : Evt (fun k => parse_isPlan.l0 k s ((a + n : Nat) : Int) all (all.length : Int) (wrap64 ((i : Int) + 1))) r) (hno : ¬ agr s f a n → r = false) : ∀ (m k0 : Nat), k0 + m = n → agr s f a k0 →
    Evt (fun k => parse_isPlan.l1 k s (a : Int) all (all.length : Int) (i : Int) (n : Int) (k0 : Int) (f : Int) (n : Int)) r
  | 0, k0, hk, hag => by
    have w1 : Aside0 (wrap64 ((a : Int) + (n : Int)) = ((a + n : Nat) : Int)) := ⟨(wr (by omega) (by omega)).trans (by omega)⟩
    refine Evt.step (fun k => ?_) h
    rw [parse_isPlan.l1, if_neg (by omega), w1.out]
  | m + 1, k0, hk, hag => by
    have w1 : Aside0 (wrap64 ((f : Int) + (k0 : Int)) = ((f + k0 : Nat) : Int)) := ⟨(wr (by omega) (by omega)).trans (by omega)⟩
    have w2 : Aside0 (wrap64 ((a : Int) + (k0 : Int)) = ((a + k0 : Nat) : Int)) := ⟨(wr (by omega) (by omega)).trans (by omega)⟩
    have w3 : Aside0 (wrap64 ((k0 : Int) + 1) = ((k0 + 1 : Nat) : Int)) := ⟨(wr (by omega) (by omega)).trans (by omega)⟩
    by_cases c : bt s ((f + k0 : Nat) : Int) = bt s ((a + k0 : Nat) : Int)
    · refine Evt.step (fun k => ?_) (isPl_l1 s hs all i a n f ha hf r h hno m (k0 + 1) (by omega) ((agr_snoc s f a k0).2 ⟨hag, c⟩))
      rw [parse_isPlan.l1, if_pos (by omega), if_pos (by omega), w1.out, w2.out, if_pos (by omega), if_pos (by omega), if_pos (by omega), if_pos (by omega), if_pos c, w3.out]
    · have hr : r = false := hno (fun hh => c (hh k0 (by omega)))
      subst hr
      refine Evt.now fun k => ?_
      rw [parse_isPlan.l1, if_pos (by omega), if_pos (by omega), w1.out, w2.out, if_pos (by omega), if_pos (by omega), if_pos (by omega), if_pos (by omega), if_neg c]
theorem isPl_l0 (s : ByteArray) (hs : s.size ≤ 160) (all : List S63) (hall : all.length ≤ 1000) : ∀ (l : List S63) (i a : Nat), all.drop i = l → a ≤ s.size → okP l a → Evt (fun k => parse_isPlan.l0 k s (a : Int) all (all.length : Int) (i : Int)) (decide (plnOk s l a))
  | [], i, a, hi, ha, hok => by
    have : all.length ≤ i := List.drop_eq_nil_iff.1 hi
    refine Evt.now fun k => ?_
    rw [parse_isPlan.l0, if_neg (by omega)]
    congr 1
    by_cases c : a = s.size
    · rw [decide_eq_true (show plnOk s [] a from c)]; exact beq_iff_eq.2 (by omega)
    · rw [decide_eq_false (show ¬ plnOk s [] a from c)]; exact beq_eq_false_iff_ne.2 (by omega)
  | x :: l, i, a, hi, ha, hok => by
    have hlt : i < all.length := by
      apply Decidable.byContradiction
      intro hn
      rw [List.drop_eq_nil_of_le (by omega)] at hi
      cases hi
    have hd := List.drop_eq_getElem_cons hlt
    rw [hi] at hd
    injection hd with h1 h2
    have e : rd_T63 all (i : Int) = x := by rw [h1]; simp [rd_T63, hlt]
    rw [okP] at hok
    obtain ⟨o1, o2, o3, o4, o5, o6⟩ := hok
    have w1 : Aside0 (wrap64 ((a : Int) + x.f1) = (a : Int) + x.f1) := ⟨wr (by omega) (by omega)⟩
    have w2 : Aside0 (wrap64 ((i : Int) + 1) = ((i + 1 : Nat) : Int)) := ⟨(wr (by omega) (by omega)).trans (by omega)⟩
    by_cases c : (a : Int) + x.f1 > (s.size : Int)
    · refine Evt.val (Evt.now (r := false) fun k => ?_) ?_
      · rw [parse_isPlan.l0, if_pos (by omega), if_pos (by omega), if_pos (by omega), e, w1.out, if_pos c]
      · symm
        apply decide_eq_false
        rw [plnOk]
        exact fun h => by omega
    · obtain ⟨n, hn⟩ : ∃ n : Nat, x.f1 = (n : Int) := ⟨x.f1.toNat, by omega⟩
      have ih := isPl_l0 s hs all hall l (i + 1) (a + x.f1.toNat) h2.symm (by omega) o6
      have e2 : ((a + x.f1.toNat : Nat) : Int) = ((a + n : Nat) : Int) := by omega
      rw [e2] at ih
      refine Evt.step (g' := fun k => parse_isPlan.l1 k s (a : Int) all (all.length : Int) (i : Int) (n : Int) ((0 : Nat) : Int) x.f0 (n : Int)) (fun k => by rw [parse_isPlan.l0, if_pos (by omega), if_pos (by omega), if_pos (by omega), e, w1.out, if_neg c, hn]; rfl) ?_
      by_cases cf : 0 ≤ x.f0
      · obtain ⟨f, hf⟩ : ∃ f : Nat, x.f0 = (f : Int) := ⟨x.f0.toNat, by omega⟩
        rw [hf]
        by_cases hag : agr s f a n
        · refine isPl_l1 s hs all i a n f (by omega) (by omega) _ ?_ (fun hh => absurd hag hh) n 0 (by omega) (fun k hk => by omega)
          rw [w2.out]
          refine Evt.val ih ?_
          apply decide_eq_decide.2
          rw [plnOk]
          refine ⟨fun h => ⟨⟨o1, by omega, o3, o4, o5, fun _ => ?_⟩, h⟩, fun h => h.2⟩
          rw [hf, hn]; exact hag
        · have hr : decide (plnOk s (x :: l) a) = false := by
            apply decide_eq_false
            rw [plnOk]
            intro h
            have := h.1.2.2.2.2.2 cf
            rw [hf, hn] at this
            exact hag this
          rw [hr]
          have hne : ∃ k, k < n ∧ ¬ bt s ((f + k : Nat) : Int) = bt s ((a + k : Nat) : Int) := by
            apply Classical.byContradiction
            intro hc
            exact hag (fun k hk => Classical.byContradiction fun hx => hc ⟨k, hk, hx⟩)
          have key : ∀ (m k0 : Nat), k0 + m = n → (∃ k, k0 ≤ k ∧ k < n ∧ ¬ bt s ((f + k : Nat) : Int) = bt s ((a + k : Nat) : Int)) → Evt (fun k => parse_isPlan.l1 k s (a : Int) all (all.length : Int) (i : Int) (n : Int) (k0 : Int) (f : Int) (n : Int)) false := by
            intro m
            induction m with
            | zero => rintro k0 hk ⟨k, k1, k2, _⟩; omega
            | succ m ihm =>
              rintro k0 hk ⟨k, k1, k2, k3⟩
              have u1 : Aside0 (wrap64 ((f : Int) + (k0 : Int)) = ((f + k0 : Nat) : Int)) := ⟨(wr (by omega) (by omega)).trans (by omega)⟩
              have u2 : Aside0 (wrap64 ((a : Int) + (k0 : Int)) = ((a + k0 : Nat) : Int)) := ⟨(wr (by omega) (by omega)).trans (by omega)⟩
              have u3 : Aside0 (wrap64 ((k0 : Int) + 1) = ((k0 + 1 : Nat) : Int)) := ⟨(wr (by omega) (by omega)).trans (by omega)⟩
              by_cases c3 : bt s ((f + k0 : Nat) : Int) = bt s ((a + k0 : Nat) : Int)
              · have : k ≠ k0 := fun hh => k3 (by rw [hh]; exact c3)
                refine Evt.step (fun k => ?_) (ihm (k0 + 1) (by omega) ⟨k, by omega, k2, k3⟩)
                rw [parse_isPlan.l1, if_pos (by omega), if_pos (by omega), u1.out, u2.out, if_pos (by omega), if_pos (by omega), if_pos (by omega), if_pos (by omega), if_pos c3, u3.out]
              · refine Evt.now fun k => ?_
                rw [parse_isPlan.l1, if_pos (by omega), if_pos (by omega), u1.out, u2.out, if_pos (by omega), if_pos (by omega), if_pos (by omega), if_pos (by omega), if_neg c3]
          obtain ⟨k, k1, k2⟩ := hne
          exact key n 0 (by omega) ⟨k, by omega, k1, k2⟩
      · have hone : n = 1 := by have := o5 (by omega); omega
        have w5 : Aside0 (wrap64 ((a : Int) + (n : Int)) = ((a + n : Nat) : Int)) := ⟨(wr (by omega) (by omega)).trans (by omega)⟩
        have w6 : Aside0 (wrap64 (((0 : Nat) : Int) + 1) = (1 : Int)) := ⟨wr (by omega) (by omega)⟩
        refine Evt.val (Evt.step (g' := fun k => parse_isPlan.l1 k s (a : Int) all (all.length : Int) (i : Int) (n : Int) 1 x.f0 (n : Int)) (fun k => by rw [parse_isPlan.l1, if_pos (by omega), if_neg (by omega), w6.out]) (Evt.step (fun k => by rw [parse_isPlan.l1, if_neg (by omega), w5.out, w2.out]) ih)) ?_
        apply decide_eq_decide.2
        rw [plnOk]
        exact ⟨fun h => ⟨⟨o1, by omega, o3, o4, o5, fun hh => absurd hh cf⟩, h⟩, fun h => h.2⟩
theorem isPlan_ev (s : ByteArray) (hs : s.size ≤ 160) (l : List S63) (hl : l.length ≤ 1000) : Evt (fun k => parse_isPlan.f k s l) (decide (plnOk s l 0)) := by
  unfold parse_isPlan.f
  refine Evt.bind (areF_ev l hl) ?_
  by_cases c : okP l 0
  · exact Evt.pos (decide_eq_true c) (isPl_l0 s hs l hl l 0 0 rfl (by omega) c)
  · refine Evt.neg (by rw [decide_eq_false c]; decide) (Evt.all (fun _ => ?_))
    rw [decide_eq_false (fun h => c (plnOk_okP s hs l 0 h))]

end Go.Proofs.YtpeeflkodpnbpaaDoor.Pr

/- The letters of a plan, and what reading it gives. -/
namespace Go.Proofs.YtpeeflkodpnbpaaDoor.Pr
open Go.RowKit Go.Proofs.YtpeeflkodpnbpaaDoorW.PrintWords Go.Proofs.YtpeeflkodpnbpaaDoorW.PrintLast Go.Proofs.YtpeeflkodpnbpaaDoorW.PrintMore
set_option linter.unusedVariables false
set_option linter.unusedSimpArgs false

/-! ### the letters of a plan -/
def ltrF (s : ByteArray) : List S63 → Nat → ByteArray
  | [], _ => ⟨#[]⟩
  | x :: l, a => (if x.f0 = -1 then s.extract a (a + 1) else ⟨#[]⟩) ++ ltrF s l (a + x.f1.toNat)
theorem mnmxP (x n : Int) (h1 : 1 ≤ x) (h2 : x ≤ n) : mn (mx x 1) n = x := by unfold mn mx; split <;> split <;> omega
theorem app_emp (a : ByteArray) : a ++ (⟨#[]⟩ : ByteArray) = a := by
  apply bl_inj
  rw [bl_append]; simp [bl]
theorem emp_app (a : ByteArray) : (⟨#[]⟩ : ByteArray) ++ a = a := by
  apply bl_inj
  rw [bl_append]; simp [bl]
theorem app_assoc (a b c : ByteArray) : a ++ b ++ c = a ++ (b ++ c) := by
  apply bl_inj
  simp only [bl_append, List.append_assoc]
theorem letters_l0 (s : ByteArray) (hs : s.size ≤ 160) (all : List S63) (hall : all.length ≤ 1000) : ∀ (l : List S63) (i a : Nat) (acc : ByteArray), all.drop i = l → a ≤ s.size → acc.size ≤ a → plnOk s l a → Evt (fun k => numnahlaw09_letters.l0 k s all acc (a : Int) (i : Int)) (acc ++ ltrF s l a)
  | [], i, a, acc, hi, ha, hz, hok => by
    have : all.length ≤ i := List.drop_eq_nil_iff.1 hi
    rw [ltrF, app_emp]
    refine Evt.step (g' := fun k => numnahlaw09_letters.j1 k s all acc (a : Int) (i : Int) false) (fun k => by rw [numnahlaw09_letters.l0, if_neg (by omega)]) (Evt.now fun k => ?_)
    rw [numnahlaw09_letters.j1, if_neg (by decide)]
  | x :: l, i, a, acc, hi, ha, hz, hok => by
    have hlt : i < all.length := by
      apply Decidable.byContradiction
      intro hn
      rw [List.drop_eq_nil_of_le (by omega)] at hi
      cases hi
    have hd := List.drop_eq_getElem_cons hlt
    rw [hi] at hd
    injection hd with h1 h2
    have e : rd_T63 all (i : Int) = x := by rw [h1]; simp [rd_T63, hlt]
    rw [plnOk] at hok
    obtain ⟨⟨o1, o2, o3, o4, o5, o7⟩, o6⟩ := hok
    have hm := mnmxP x.f1 s.size o1 (by omega)
    have w1 : Aside0 (wrap64 ((a : Int) + x.f1) = ((a + x.f1.toNat : Nat) : Int)) := ⟨(wr (by omega) (by omega)).trans (by omega)⟩
    have w2 : Aside0 (wrap64 ((i : Int) + 1) = ((i + 1 : Nat) : Int)) := ⟨(wr (by omega) (by omega)).trans (by omega)⟩
    have w3 : Aside0 (wrap64 ((a : Int) + 1) = ((a + 1 : Nat) : Int)) := ⟨(wr (by omega) (by omega)).trans (by omega)⟩
    have hxz : (s.extract a (a + 1)).size = 1 := by rw [ByteArray.size_extract]; omega
    refine Evt.step (g' := fun k => numnahlaw09_letters.j1 k s all acc (a : Int) (i : Int) true) (fun k => by rw [numnahlaw09_letters.l0, if_pos (by omega), if_pos (by omega), decide_eq_true (by omega)]) ?_
    rw [ltrF]
    by_cases c : x.f0 = -1
    · rw [if_pos c]
      have ih := letters_l0 s hs all hall l (i + 1) (a + x.f1.toNat) (acc ++ s.extract a (a + 1)) h2.symm (by omega) (by rw [ByteArray.size_append, hxz]; omega) o6
      rw [app_assoc] at ih
      refine Evt.step (fun k => ?_) ih
      rw [numnahlaw09_letters.j1, if_pos rfl, if_pos (by omega), if_pos (by omega), e, if_pos c, w3.out, if_pos (by omega), if_pos (by omega), if_pos (by omega), Int.toNat_natCast, Int.toNat_natCast, if_pos (by rw [hxz]; omega), hm, w1.out, w2.out]
    · rw [if_neg c, emp_app]
      refine Evt.step (fun k => ?_) (letters_l0 s hs all hall l (i + 1) (a + x.f1.toNat) acc h2.symm (by omega) (by omega) o6)
      rw [numnahlaw09_letters.j1, if_pos rfl, if_pos (by omega), if_pos (by omega), e, if_neg c, hm, w1.out, w2.out]
theorem letters_ev (s : ByteArray) (hs : s.size ≤ 160) (l : List S63) (hl : l.length ≤ 1000) (h : plnOk s l 0) : Evt (fun k => numnahlaw09_letters.f k s l) (ltrF s l 0) := by
  have := letters_l0 s hs l hl l 0 0 ⟨#[]⟩ rfl (by omega) (by simp [ByteArray.size]) h
  rwa [emp_app] at this
theorem ltrF_size (s : ByteArray) (hs : s.size ≤ 160) : ∀ l a, plnOk s l a → (ltrF s l a).size = sgl l
  | [], _, _ => rfl
  | x :: l, a, h => by
    rw [plnOk] at h
    obtain ⟨⟨o1, o2, o3, o4, o5, o7⟩, o6⟩ := h
    have ih := ltrF_size s hs l _ o6
    rw [ltrF, ByteArray.size_append, ih, sgl]
    by_cases c : x.f0 = -1
    · rw [if_pos c, if_pos (by omega), ByteArray.size_extract]; omega
    · rw [if_neg c, if_neg (by omega)]; rfl
theorem ltrF_mem (s : ByteArray) : ∀ l a c, c ∈ bl (ltrF s l a) → c ∈ bl s
  | [], _, c, h => by simp [ltrF, bl] at h
  | x :: l, a, c, h => by
    rw [ltrF, bl_append, List.mem_append] at h
    rcases h with h | h
    · split at h
      · rw [bl_extract] at h
        exact List.mem_of_mem_drop (List.mem_of_mem_take h)
      · simp [bl] at h
    · exact ltrF_mem s l _ c h

/-! ### reading a plan of a word gives the word -/
def nb (s : ByteArray) (a : Nat) : List Int := (List.range a).map (fun i : Nat => bt s (i : Int))
theorem nb_succ (s : ByteArray) (a : Nat) : nb s (a + 1) = nb s a ++ [bt s (a : Int)] := by unfold nb; rw [List.range_succ, List.map_append]; rfl
theorem nb_rd (s : ByteArray) (a i : Nat) (h : i < a) : rd (nb s a) (i : Int) = bt s (i : Int) := by simp [rd, nb, h]
theorem spkC_nb (s : ByteArray) (f a : Nat) (hf : f < a) : ∀ (q k : Nat), (∀ j, k ≤ j → j < k + q → bt s ((f + j : Nat) : Int) = bt s ((a + j : Nat) : Int)) → spkC q (nb s (a + k)) (f : Int) k = nb s (a + k + q)
  | 0, k, h => rfl
  | q + 1, k, h => by
    have e := h k (Nat.le_refl _) (by omega)
    have e2 : rd (nb s (a + k)) ((f : Int) + (k : Int)) = bt s ((a + k : Nat) : Int) := by
      rw [show (f : Int) + (k : Int) = ((f + k : Nat) : Int) by omega, nb_rd s _ _ (by omega), e]
    rw [spkC, e2, ← nb_succ]
    have := spkC_nb s f a hf q (k + 1) (fun j h1 h2 => h j (by omega) (by omega))
    rw [show a + k + (q + 1) = a + (k + 1) + q by omega]
    exact this
theorem bt_one (s : ByteArray) (a : Nat) (h : a < s.size) : bt (s.extract a (a + 1)) 0 = bt s (a : Int) := by
  have := bt_btL (s.extract a (a + 1)) 0
  rw [show ((0 : Nat) : Int) = 0 from rfl] at this
  rw [this, bt_btL]
  unfold btL
  rw [bl_extract, List.getElem?_take, if_pos (by omega), List.getElem?_drop, Nat.add_zero]
theorem bt_app_l (a b : ByteArray) (i : Nat) (h : i < a.size) : bt (a ++ b) (i : Int) = bt a (i : Int) := by
  rw [bt_btL, bt_btL]
  unfold btL
  rw [bl_append, List.getElem?_append_left (by rw [bl_len]; exact h)]
theorem bt_app_r (a b : ByteArray) (i : Nat) : bt (a ++ b) ((a.size + i : Nat) : Int) = bt b (i : Int) := by
  rw [bt_btL, bt_btL]
  unfold btL
  rw [bl_append, List.getElem?_append_right (by rw [bl_len]; omega), bl_len, Nat.add_sub_cancel_left]
theorem spk_nb (s : ByteArray) (hs : s.size ≤ 160) : ∀ (l : List S63) (a : Nat) (pre : ByteArray), plnOk s l a → (spk (pre ++ ltrF s l a) l (nb s a) pre.size).1 = nb s s.size
  | [], a, pre, h => by
    rw [plnOk] at h
    rw [spk, h]
  | x :: l, a, pre, h => by
    rw [plnOk] at h
    obtain ⟨⟨o1, o2, o3, o4, o5, o7⟩, o6⟩ := h
    rw [spk, ltrF]
    by_cases c : x.f0 < 0
    · have c2 : x.f0 = -1 := by omega
      have c3 := o5 c
      rw [if_pos c, if_pos c2]
      have hxz : (s.extract a (a + 1)).size = 1 := by rw [ByteArray.size_extract]; omega
      have e : bt (pre ++ (s.extract a (a + 1) ++ ltrF s l (a + x.f1.toNat))) (pre.size : Int) = bt s (a : Int) := by
        have := bt_app_r pre (s.extract a (a + 1) ++ ltrF s l (a + x.f1.toNat)) 0
        have this : bt (pre ++ (s.extract a (a + 1) ++ ltrF s l (a + x.f1.toNat))) (pre.size : Int) = bt (s.extract a (a + 1) ++ ltrF s l (a + x.f1.toNat)) ((0 : Nat) : Int) := this
        rw [this, bt_app_l _ _ 0 (by omega)]
        exact bt_one s a (by omega)
      have ih := spk_nb s hs l (a + x.f1.toNat) (pre ++ s.extract a (a + 1)) o6
      rw [ByteArray.size_append, hxz, app_assoc] at ih
      rw [e, ← nb_succ]
      rw [show a + x.f1.toNat = a + 1 by omega] at ih ⊢
      exact ih
    · have c2 : ¬ x.f0 = -1 := by omega
      rw [if_neg c, if_neg c2, emp_app]
      obtain ⟨f, hf⟩ : ∃ f : Nat, x.f0 = (f : Int) := ⟨x.f0.toNat, by omega⟩
      have hag := o7 (by omega)
      rw [hf, Int.toNat_natCast] at hag
      have := spkC_nb s f a (by omega) x.f1.toNat 0 (fun j h1 h2 => hag j (by omega))
      rw [Nat.add_zero] at this
      rw [hf, this]
      exact spk_nb s hs l (a + x.f1.toNat) pre o6
end Go.Proofs.YtpeeflkodpnbpaaDoor.Pr

/- Fewest's list: it touches the word, and is the first one of the shortest lists of positions that do. -/
namespace Go.Proofs.YtpeeflkodpnbpaaDoor.Pr
open Go.RowKit Go.Proofs.YtpeeflkodpnbpaaDoorW.PrintWords Go.Proofs.YtpeeflkodpnbpaaDoorW.PrintLast Go.Proofs.YtpeeflkodpnbpaaDoorW.PrintMore
set_option linter.unusedVariables false
set_option linter.unusedSimpArgs false

/-- positions from frm to N - 1, ascending -/
def Asc (N : Nat) : Nat → List Int → Prop
  | _, [] => True
  | frm, x :: r => ∃ a : Nat, x = (a : Int) ∧ frm ≤ a ∧ a < N ∧ Asc N (a + 1) r
def Lx : List Int → List Int → Prop
  | x :: r, y :: r' => x < y ∨ (x = y ∧ Lx r r')
  | _, _ => False
theorem asc_mono {N : Nat} {a b : Nat} (h : a ≤ b) : ∀ {r : List Int}, Asc N b r → Asc N a r
  | [], _ => trivial
  | x :: r, ⟨c, h1, h2, h3, h4⟩ => ⟨c, h1, by omega, h3, h4⟩
theorem asc_len {N : Nat} : ∀ {r : List Int} {a : Nat}, Asc N a r → r = [] ∨ a + r.length ≤ N
  | [], _, _ => .inl rfl
  | x :: r, a, ⟨c, h1, h2, h3, h4⟩ => by
    refine .inr ?_
    rcases asc_len h4 with h | h
    · subst h; simp; omega
    · rw [List.length_cons]; omega
theorem asc_mem {N : Nat} : ∀ {r : List Int} {a : Nat}, Asc N a r → ∀ x, x ∈ r → ∃ c : Nat, x = (c : Int) ∧ a ≤ c ∧ c < N
  | y :: r, a, ⟨c, h1, h2, h3, h4⟩, x, hx => by
    rcases List.mem_cons.1 hx with rfl | hx
    · exact ⟨c, h1, h2, h3⟩
    · obtain ⟨d, d1, d2, d3⟩ := asc_mem h4 x hx
      exact ⟨d, d1, by omega, d3⟩
theorem asc_sorted {N : Nat} : ∀ {r : List Int} {a : Nat}, Asc N a r → r.Pairwise (fun x y => x < y)
  | [], _, _ => .nil
  | x :: r, a, ⟨c, h1, h2, h3, h4⟩ => List.pairwise_cons.2 ⟨fun y hy => by
      obtain ⟨d, d1, d2, d3⟩ := asc_mem h4 y hy
      omega, asc_sorted h4⟩
theorem asc_of {N : Nat} : ∀ {r : List Int} {a : Nat}, r.Pairwise (fun x y => x < y) → (∀ x, x ∈ r → (a : Int) ≤ x ∧ x < N) → Asc N a r
  | [], _, _, _ => trivial
  | x :: r, a, hp, h => by
    have hp2 := List.pairwise_cons.1 hp
    have hx := h x List.mem_cons_self
    refine ⟨x.toNat, by omega, by omega, by omega, asc_of hp2.2 (fun y hy => ?_)⟩
    have h1 := hp2.1 y hy
    have h2 := h y (List.mem_cons_of_mem _ hy)
    omega
def Found (s : ByteArray) (set : List Int) (l frm : Nat) (o : Bool × List Int) : Prop :=
  (o.1 = true → ∃ r, o.2 = set ++ r ∧ r.length = l ∧ Asc s.size frm r ∧ Tch s (set ++ r) ∧ ∀ r', r'.length = l → Asc s.size frm r' → Tch s (set ++ r') → r' = r ∨ Lx r r') ∧
  (o.1 = false → ∀ r', r'.length = l → Asc s.size frm r' → ¬ Tch s (set ++ r'))
theorem extLoop_found (s : ByteArray) (l : Nat) (hrec : ∀ set frm found, Found s set l frm (extF s l set frm found)) : ∀ q set at_ found, s.size ≤ at_ + q → Found s set (l + 1) at_ (extLoop s (extF s l) (l + 1) q set at_ found)
  | 0, set, at_, found, hq => by
    refine ⟨fun h => (by cases h), fun _ r' hl ha => ?_⟩
    cases r' with
    | nil => simp at hl
    | cons x r' => obtain ⟨a, h1, h2, h3, h4⟩ := ha; omega
  | q + 1, set, at_, found, hq => by
    rw [extLoop]
    by_cases c : at_ + (l + 1) ≤ s.size
    · rw [if_pos c]
      have h1 := hrec (set ++ [(at_ : Int)]) (at_ + 1) found
      generalize extF s l (set ++ [(at_ : Int)]) (at_ + 1) found = o at h1
      obtain ⟨b, f⟩ := o
      cases b with
      | true =>
        obtain ⟨r, r1, r2, r3, r4, r5⟩ := h1.1 rfl
        refine ⟨fun _ => ⟨(at_ : Int) :: r, ?_, by rw [List.length_cons, r2], ⟨at_, rfl, Nat.le_refl _, by omega, r3⟩, ?_, fun r' hl ha ht => ?_⟩, fun h => by cases h⟩
        · show f = _
          rw [show f = _ from r1, List.append_assoc]; rfl
        · rw [List.append_assoc] at r4; exact r4
        · cases r' with
          | nil => simp at hl
          | cons x r' =>
            obtain ⟨a, rfl, a2, a3, a4⟩ := ha
            by_cases e : a = at_
            · subst e
              rcases r5 r' (by simpa using hl) a4 (by rw [List.append_assoc]; exact ht) with e | e
              · exact .inl (by rw [e])
              · exact .inr (.inr ⟨rfl, e⟩)
            · exact .inr (.inl (by omega))
      | false =>
        obtain ⟨i1, i2⟩ := extLoop_found s l hrec q set (at_ + 1) f (by omega)
        have key : ∀ r' : List Int, r'.length = l + 1 → Asc s.size at_ r' → Tch s (set ++ r') → Asc s.size (at_ + 1) r' := by
          intro r' hl ha ht
          cases r' with
          | nil => simp at hl
          | cons x r' =>
            obtain ⟨a, rfl, a2, a3, a4⟩ := ha
            by_cases e : a = at_
            · subst e
              exact absurd (by rw [List.append_assoc]; exact ht) (h1.2 rfl r' (by simpa using hl) a4)
            · exact ⟨a, rfl, by omega, a3, a4⟩
        refine ⟨fun h => ?_, fun h r' hl ha ht => i2 h r' hl (key r' hl ha ht) ht⟩
        obtain ⟨r, r1, r2, r3, r4, r5⟩ := i1 h
        exact ⟨r, r1, r2, asc_mono (by omega) r3, r4, fun r' hl ha ht => r5 r' hl (key r' hl ha ht) ht⟩
    · rw [if_neg c]
      refine ⟨fun h => (by cases h), fun _ r' hl ha => ?_⟩
      rcases asc_len ha with e | e
      · subst e; simp at hl
      · omega
theorem extF_found (s : ByteArray) : ∀ l set frm found, Found s set l frm (extF s l set frm found)
  | 0, set, frm, found => by
    rw [extF]
    refine ⟨fun h => ⟨[], by simp, rfl, trivial, ?_, fun r' hl _ _ => .inl (List.length_eq_zero_iff.1 hl)⟩, fun h r' hl _ ht => ?_⟩
    · have h2 : (untF s set s.size 1).2 = false := by simpa using h
      rw [List.append_nil]
      exact (unt_tch s set).1 h2
    · have h2 : (untF s set s.size 1).2 = true := by simpa using h
      rw [List.length_eq_zero_iff.1 hl, List.append_nil, ← unt_tch, h2] at ht
      cases ht
  | l + 1, set, frm, found => by
    rw [extF]
    exact extLoop_found s l (extF_found s l) (s.size + 1) set frm found (by omega)
/-- all positions -/
def allP (N : Nat) : Nat → List Int
  | 0 => []
  | k + 1 => ((N - (k + 1) : Nat) : Int) :: allP N k
theorem allP_len (N : Nat) : ∀ k, (allP N k).length = k
  | 0 => rfl
  | k + 1 => by rw [allP, List.length_cons, allP_len N k]
theorem allP_asc (N : Nat) : ∀ k, k ≤ N → Asc N (N - k) (allP N k)
  | 0, _ => trivial
  | k + 1, h => ⟨N - (k + 1), rfl, Nat.le_refl _, by omega, by
      have := allP_asc N k (by omega)
      rwa [show N - (k + 1) + 1 = N - k by omega]⟩
theorem mem_allP (N : Nat) : ∀ k p, N - k ≤ p → p < N → k ≤ N → (p : Int) ∈ allP N k
  | 0, p, h1, h2, _ => by omega
  | k + 1, p, h1, h2, h3 => by
    rw [allP]
    by_cases e : p = N - (k + 1)
    · rw [e]; exact List.mem_cons_self
    · exact List.mem_cons_of_mem _ (mem_allP N k p (by omega) h2 (by omega))
theorem all_tch (s : ByteArray) : Tch s (allP s.size s.size) := fun k j hk hj => ⟨j, j, hj, rfl, mem_allP _ _ _ (by omega) (by omega) (Nat.le_refl _), Nat.le_refl _, by omega⟩
/-- the first one of the shortest lists -/
def IsFew (s : ByteArray) (f : List Int) : Prop := Tch s f ∧ Asc s.size 0 f ∧ ∀ r, Asc s.size 0 r → Tch s r → f.length < r.length ∨ (f.length = r.length ∧ (r = f ∨ Lx f r))
theorem fewL_is (s : ByteArray) : ∀ q many found, many + q = s.size + 1 → (∀ r, r.length < many → Asc s.size 0 r → ¬ Tch s r) → IsFew s (fewL s q many found)
  | 0, many, found, hq, h => by
    exact absurd (all_tch s) (h _ (by rw [allP_len]; omega) (by have := allP_asc s.size s.size (Nat.le_refl _); rwa [Nat.sub_self] at this))
  | q + 1, many, found, hq, h => by
    rw [fewL]
    have h1 := extF_found s many [] 0 found
    generalize extF s many [] 0 found = o at h1
    obtain ⟨b, f⟩ := o
    cases b with
    | true =>
      obtain ⟨r, r1, r2, r3, r4, r5⟩ := h1.1 rfl
      have e : f = r := r1
      subst e
      refine ⟨r4, r3, fun r' ha ht => ?_⟩
      by_cases c : r'.length < many
      · exact absurd ht (h r' c ha)
      · by_cases c2 : r'.length = many
        · exact .inr ⟨by rw [r2, c2], r5 r' c2 ha ht⟩
        · exact .inl (by rw [r2]; omega)
    | false =>
      exact fewL_is s q (many + 1) f (by omega) (fun r hl ha => by
        by_cases c : r.length < many
        · exact h r c ha
        · exact h1.2 rfl r (by omega) ha)
theorem few_is (s : ByteArray) : IsFew s (fewL s (s.size + 1) 0 []) := fewL_is s (s.size + 1) 0 [] (by omega) (fun r h => by omega)
end Go.Proofs.YtpeeflkodpnbpaaDoor.Pr

/- parse.Touches, plainly. -/
namespace Go.Proofs.YtpeeflkodpnbpaaDoor.Pr
open Go.RowKit Go.Proofs.YtpeeflkodpnbpaaDoorW.PrintWords Go.Proofs.YtpeeflkodpnbpaaDoorW.PrintLast Go.Proofs.YtpeeflkodpnbpaaDoorW.PrintMore
set_option linter.unusedVariables false
set_option linter.unusedSimpArgs false

/-- place i of a list of positions is well -/
def posAt (s : ByteArray) (l : List Int) (i : Nat) : Prop := 0 ≤ rd l (i : Int) ∧ rd l (i : Int) < s.size ∧ (0 < i → rd l ((i - 1 : Nat) : Int) < rd l (i : Int))
def tchR (s : ByteArray) (l : List Int) : ByteArray × Bool × Int := ((untF s l s.size 1).1, !(untF s l s.size 1).2, 0)
theorem tchs_step (s : ByteArray) (l : List Int) (hs : s.size ≤ 160) (hl : l.length ≤ 200) (i : Nat) (hi : i < l.length) (h : posAt s l i) (k : Nat) : parse_Touches.l0 (k + 1) s l l (l.length : Int) (i : Int) = parse_Touches.l0 k s l l (l.length : Int) ((i + 1 : Nat) : Int) := by
  obtain ⟨h1, h2, h3⟩ := h
  have w2 : Aside0 (wrap64 ((i : Int) + 1) = ((i + 1 : Nat) : Int)) := ⟨(wr (by omega) (by omega)).trans (by omega)⟩
  have w3 : Aside0 (wrap64 ((s.size : Int) - 1) = (s.size : Int) - 1) := ⟨wr (by omega) (by omega)⟩
  have hw : parse_within.f (rd l (i : Int)) 0 ((s.size : Int) - 1) = some true := by
    rw [parse_within.f, if_pos (by omega), decide_eq_true (by omega)]
  rw [parse_Touches.l0, if_pos (by omega), if_pos (by omega), if_pos (by omega), w3.out, hw, Option.bind_some, if_pos rfl]
  by_cases c : (i : Int) > 0
  · have w4 : Aside0 (wrap64 ((i : Int) - 1) = ((i - 1 : Nat) : Int)) := ⟨(wr (by omega) (by omega)).trans (by omega)⟩
    have h4 := h3 (by omega)
    rw [if_pos c, w4.out, if_pos (by omega), if_pos (by omega), if_neg (by omega), w2.out]
  · rw [if_neg c, w2.out]
theorem tchs_good (s : ByteArray) (l : List Int) (hs : s.size ≤ 160) (hl : l.length ≤ 200) : ∀ m i, i + m = l.length → (∀ j, i ≤ j → j < l.length → posAt s l j) → Evt (fun k => parse_Touches.l0 k s l l (l.length : Int) (i : Int)) (tchR s l)
  | 0, i, hi, h => by
    refine Evt.now fun k => ?_
    rw [parse_Touches.l0, if_neg (by omega), parse_untouched.f, if_pos hs]
    rfl
  | m + 1, i, hi, h =>
    Evt.step (fun k => tchs_step s l hs hl i (by omega) (h i (Nat.le_refl _) (by omega)) k) (tchs_good s l hs hl m (i + 1) (by omega) (fun j h1 h2 => h j (by omega) h2))
theorem tchs_bad (s : ByteArray) (l : List Int) (hs : s.size ≤ 160) (hl : l.length ≤ 200) : ∀ m i, i + m = l.length → (∃ j, i ≤ j ∧ j < l.length ∧ ¬ posAt s l j) → Evt (fun k => parse_Touches.l0 k s l l (l.length : Int) (i : Int)) ((⟨#[]⟩ : ByteArray), false, 2)
  | 0, i, hi, ⟨j, h1, h2, _⟩ => by omega
  | m + 1, i, hi, h => by
    by_cases c : posAt s l i
    · obtain ⟨j, h1, h2, h3⟩ := h
      have : j ≠ i := fun e => h3 (e ▸ c)
      exact Evt.step (fun k => tchs_step s l hs hl i (by omega) c k) (tchs_bad s l hs hl m (i + 1) (by omega) ⟨j, by omega, h2, h3⟩)
    · have w3 : Aside0 (wrap64 ((s.size : Int) - 1) = (s.size : Int) - 1) := ⟨wr (by omega) (by omega)⟩
      refine Evt.now fun k => ?_
      rw [parse_Touches.l0, if_pos (by omega), if_pos (by omega), if_pos (by omega), w3.out, parse_within.f]
      by_cases c1 : rd l (i : Int) ≥ 0
      · rw [if_pos c1, Option.bind_some]
        by_cases c2 : rd l (i : Int) ≤ (s.size : Int) - 1
        · rw [decide_eq_true c2, if_pos rfl]
          by_cases c3 : (i : Int) > 0
          · have w4 : Aside0 (wrap64 ((i : Int) - 1) = ((i - 1 : Nat) : Int)) := ⟨(wr (by omega) (by omega)).trans (by omega)⟩
            have c4 : rd l ((i - 1 : Nat) : Int) ≥ rd l (i : Int) := by
              apply Decidable.byContradiction
              intro hn
              exact c ⟨c1, by omega, fun _ => by omega⟩
            rw [if_pos c3, w4.out, if_pos (by omega), if_pos (by omega), if_pos c4]
          · exact absurd ⟨c1, by omega, fun h => absurd h (by omega)⟩ c
        · rw [decide_eq_false c2, if_neg (by decide)]
      · rw [if_neg c1, Option.bind_some, if_neg (by decide)]
theorem touches_ev (s : ByteArray) (hw : isWordC s = true) (l : List Int) (hl : l.length ≤ 200) (h : ∀ j, j < l.length → posAt s l j) : Evt (fun k => parse_Touches.f k s l) (tchR s l) := by
  have hs := ((isWordC_iff s).1 hw).1
  refine Evt.congr (tchs_good s l hs hl l.length 0 (by omega) (fun j _ h2 => h j h2)) (fun k => ?_)
  rw [parse_Touches.f, parse_isWord.f, hw, Option.bind_some, if_pos rfl]
  rfl
theorem posAt_of (s : ByteArray) (l : List Int) (hp : l.Pairwise (fun x y => x < y)) (hr : ∀ x, x ∈ l → 0 ≤ x ∧ x < s.size) : ∀ j, j < l.length → posAt s l j := by
  intro j hj
  have e : rd l (j : Int) = l[j] := by simp [rd, hj]
  have := hr _ (List.getElem_mem hj)
  refine ⟨by omega, by omega, fun h => ?_⟩
  have hj2 : j - 1 < l.length := by omega
  have e2 : rd l ((j - 1 : Nat) : Int) = l[j - 1] := by simp [rd, hj2]
  rw [e, e2]
  exact (List.pairwise_iff_getElem.1 hp) (j - 1) j hj2 hj (by omega)
end Go.Proofs.YtpeeflkodpnbpaaDoor.Pr

/- The reference's test of a word, plainly; two small facts. -/
namespace Go.Proofs.YtpeeflkodpnbpaaDoor.Pr
open Go.RowKit Go.Proofs.YtpeeflkodpnbpaaDoorW.PrintWords Go.Proofs.YtpeeflkodpnbpaaDoorW.PrintLast Go.Proofs.YtpeeflkodpnbpaaDoorW.PrintMore
set_option linter.unusedVariables false
set_option linter.unusedSimpArgs false

theorem bt_get (s : ByteArray) (i : Nat) (h : i < s.size) : bt s (i : Int) = ((s.get! i).toNat : Int) := by
  unfold bt
  rw [dif_pos (by simpa using h)]
  have : s.get! i = s[i] := by
    cases s with
    | mk a =>
      have h' : i < a.size := h
      simp [ByteArray.get!, h']
      rfl
  rw [this]
  simp
theorem word_good (s : ByteArray) (hs : s.size ≤ 1000) : ∀ (m i : Nat), i + m = s.size → (∀ j, i ≤ j → j < s.size → okAt s j) → Evt (fun k => numnahref09_Word.l0 k s (i : Int)) (decide ((s.size : Int) ≤ 160))
  | 0, i, hi, _ => by
    refine Evt.now fun k => ?_
    rw [numnahref09_Word.l0, if_neg (by omega)]
  | m + 1, i, hi, h => by
    have ih := word_good s hs m (i + 1) (by omega) (fun j h1 h2 => h j (by omega) h2)
    have ok := h i (Nat.le_refl _) (by omega)
    have hb := bt_get s i (by omega)
    refine Evt.step (g' := fun k => numnahref09_Word.l0 k s ((i + 1 : Nat) : Int)) (fun k => ?_) ih
    rw [numnahref09_Word.l0, if_pos (by omega), if_pos (by omega), if_neg (by rw [hb]; have := ok.1; omega), if_neg (by rw [hb]; have := ok.2; omega), wr (by omega) (by omega)]
    rfl
theorem word_bad (s : ByteArray) (hs : s.size ≤ 1000) : ∀ (m i : Nat), i + m = s.size → (∃ j, i ≤ j ∧ j < s.size ∧ ¬ okAt s j) → Evt (fun k => numnahref09_Word.l0 k s (i : Int)) false
  | 0, i, hi, ⟨j, h1, h2, _⟩ => by omega
  | m + 1, i, hi, h => by
    have hb := bt_get s i (by omega)
    by_cases c1 : bt s (i : Int) < 97
    · refine Evt.now fun k => ?_
      rw [numnahref09_Word.l0, if_pos (by omega), if_pos (by omega), if_pos c1]
    · by_cases c2 : bt s (i : Int) > 100
      · refine Evt.now fun k => ?_
        rw [numnahref09_Word.l0, if_pos (by omega), if_pos (by omega), if_neg c1, if_pos c2]
      · obtain ⟨j, h1, h2, h3⟩ := h
        have hne : j ≠ i := fun e => h3 (by rw [e]; unfold okAt; rw [hb] at c1 c2; omega)
        refine Evt.step (g' := fun k => numnahref09_Word.l0 k s ((i + 1 : Nat) : Int)) (fun k => ?_) (word_bad s hs m (i + 1) (by omega) ⟨j, by omega, h2, h3⟩)
        rw [numnahref09_Word.l0, if_pos (by omega), if_pos (by omega), if_neg c1, if_neg c2, wr (by omega) (by omega)]
        rfl
theorem toList_eq_iff (a b : ByteArray) : a.toList = b.toList ↔ a = b := by
  rw [ByteArray.toList_eq, ByteArray.toList_eq]
  constructor
  · intro h
    cases a; cases b
    simp at h
    rw [h]
  · intro h; rw [h]
theorem sub_eq (s : ByteArray) (i n : Nat) (a b : Int) (ha : a = (i : Int)) (hb : b = ((i + n : Nat) : Int)) : s.extract a.toNat b.toNat = subAt s n i := by
  subst ha; subst hb
  rw [Int.toNat_natCast, Int.toNat_natCast]; rfl
end Go.Proofs.YtpeeflkodpnbpaaDoor.Pr

/- The references of parts and places, plainly. -/
namespace Go.Proofs.YtpeeflkodpnbpaaDoor.Pr
open Go.RowKit Go.Proofs.YtpeeflkodpnbpaaDoorW.PrintWords Go.Proofs.YtpeeflkodpnbpaaDoorW.PrintLast Go.Proofs.YtpeeflkodpnbpaaDoorW.PrintMore
set_option linter.unusedVariables false
set_option linter.unusedSimpArgs false

/-! ### the reference's list of different substrings -/
theorem insD_at (x : ByteArray) : ∀ (l : List ByteArray) (p : Nat), p ≤ l.length → (∀ y, y ∈ l.take p → Op.bytesLess y.toList x.toList = true) → insD x l = l.take p ++ insD x (l.drop p)
  | l, 0, _, _ => by simp
  | [], p + 1, h, _ => by simp at h
  | y :: l, p + 1, h, hl => by
    rw [List.take_succ_cons, List.drop_succ_cons, insD, if_pos (hl y (by simp)), List.cons_append, ← insD_at x l p (by simpa using h) (fun z hz => hl z (by simp [hz]))]
theorem part_l1 (s : ByteArray) (n : Nat) (hs : s.size ≤ 200) (l : List ByteArray) (hl : l.length ≤ 400) (i : Nat) (hi : i ≤ 400) (x : ByteArray) (r : List ByteArray) : ∀ (m p : Nat), p + m = l.length → (∀ y, y ∈ l.take p → Op.bytesLess y.toList x.toList = true) →
    Evt (fun k => numnahref09_parts.l0 k s (n : Int) (insD x l) ((i + 1 : Nat) : Int)) r → Evt (fun k => numnahref09_parts.l1 k s (n : Int) l (i : Int) x (p : Int)) r := by
  have w : Aside0 (wrap64 ((i : Int) + 1) = ((i + 1 : Nat) : Int)) := ⟨(wr (by omega) (by omega)).trans (by omega)⟩
  have fin : ∀ p, p ≤ l.length → ∀ k, ((some (l.take (p : Int).toNat : List ByteArray)).bind fun y384 => (if ([] : List ByteArray).length + y384.length < 8796093022208 then ((some (([] : List ByteArray) ++ y384 : List ByteArray)).bind fun y388 => (if y388.length < 8796093022208 then ((some (y388 ++ [x] : List ByteArray)).bind fun y391 => ((some (l.drop (p : Int).toNat : List ByteArray)).bind fun y394 => (if y391.length + y394.length < 8796093022208 then (numnahref09_parts.l0 k s (n : Int) (y391 ++ y394) (wrap64 ((i : Int) + 1))) else (none)))) else (none))) else (none))) = numnahref09_parts.l0 k s (n : Int) ((l.take p ++ [x]) ++ l.drop p) ((i + 1 : Nat) : Int) := by
    intro p hp k
    rw [Option.bind_some, if_pos (by simp; omega), Option.bind_some, if_pos (by simp; omega), Option.bind_some, Option.bind_some, if_pos (by simp; omega), w.out]
    rfl
  intro m
  induction m with
  | zero =>
    intro p hp hlt h
    have e : insD x l = (l.take p ++ [x]) ++ l.drop p := by
      rw [insD_at x l p (by omega) hlt, List.drop_eq_nil_of_le (by omega), insD, List.append_nil]
    refine Evt.step (fun k => ?_) h
    rw [numnahref09_parts.l1, if_neg (by omega), if_pos (by omega), if_pos (by omega), fin p (by omega), e]
  | succ m ih =>
    intro p hp hlt h
    have hpl : p < l.length := by omega
    have w2 : Aside0 (wrap64 ((p : Int) + 1) = ((p + 1 : Nat) : Int)) := ⟨(wr (by omega) (by omega)).trans (by omega)⟩
    have e : rdOf ByteArray.empty l (p : Int) = l[p] := by simp [rdOf, hpl]
    by_cases c : Op.bytesLess l[p].toList x.toList = true
    · refine Evt.step (g' := fun k => numnahref09_parts.l1 k s (n : Int) l (i : Int) x ((p + 1 : Nat) : Int)) (fun k => ?_) (ih (p + 1) (by omega) (fun y hy => ?_) h)
      · rw [numnahref09_parts.l1, if_pos (by omega), if_pos (by omega), e, if_pos c, w2.out]
      · rw [List.take_succ_eq_append_getElem hpl, List.mem_append, List.mem_singleton] at hy
        rcases hy with hy | rfl
        · exact hlt y hy
        · exact c
    · by_cases c2 : l[p] = x
      · have e2 : insD x l = l := by
          rw [insD_at x l p (by omega) hlt, List.drop_eq_getElem_cons hpl, insD, if_neg c, if_pos c2, ← List.drop_eq_getElem_cons hpl, List.take_append_drop]
        rw [e2] at h
        refine Evt.step (fun k => ?_) h
        rw [numnahref09_parts.l1, if_pos (by omega), if_pos (by omega), e, if_neg c, if_pos ((toList_eq_iff _ _).2 c2), w.out]
      · have e2 : insD x l = (l.take p ++ [x]) ++ l.drop p := by
          rw [insD_at x l p (by omega) hlt, List.drop_eq_getElem_cons hpl, insD, if_neg c, if_neg c2]
          simp
        refine Evt.step (fun k => ?_) h
        rw [numnahref09_parts.l1, if_pos (by omega), if_pos (by omega), e, if_neg c, if_neg (fun hh => c2 ((toList_eq_iff _ _).1 hh)), if_pos (by omega), fin p (by omega), e2]
theorem part_l0 (s : ByteArray) (n : Nat) (hs : s.size ≤ 200) (hn : n ≤ s.size) : ∀ (m i : Nat), i + m = s.size + 1 - n → Evt (fun k => numnahref09_parts.l0 k s (n : Int) (partsUp s n i) (i : Int)) (partsS s n)
  | 0, i, hi => by
    have w : Aside0 (wrap64 ((i : Int) + (n : Int)) = ((i + n : Nat) : Int)) := ⟨(wr (by omega) (by omega)).trans (by omega)⟩
    obtain rfl : i = s.size + 1 - n := by omega
    refine Evt.now fun k => ?_
    rw [numnahref09_parts.l0, w.out, if_neg (by omega)]
    rfl
  | m + 1, i, hi => by
    have w : Aside0 (wrap64 ((i : Int) + (n : Int)) = ((i + n : Nat) : Int)) := ⟨(wr (by omega) (by omega)).trans (by omega)⟩
    have hx : s.extract (i : Int).toNat ((i + n : Nat) : Int).toNat = subAt s n i := sub_eq s i n _ _ rfl rfl
    have hlen := partsUp_len s n i
    refine Evt.step (g' := fun k => numnahref09_parts.l1 k s (n : Int) (partsUp s n i) (i : Int) (subAt s n i) ((0 : Nat) : Int)) (fun k => ?_) (part_l1 s n hs (partsUp s n i) (by omega) i (by omega) (subAt s n i) _ (partsUp s n i).length 0 (by omega) (fun y hy => by simp at hy) (part_l0 s n hs hn m (i + 1) (by omega)))
    rw [numnahref09_parts.l0, w.out, if_pos (by omega), if_pos (by omega), if_pos (by omega), hx]
    rfl
theorem parts_ev (s : ByteArray) (n : Nat) (hs : s.size ≤ 200) (hn : n ≤ s.size) : Evt (fun k => numnahref09_parts.f k s (n : Int)) (partsS s n) := part_l0 s n hs hn (s.size + 1 - n) 0 (by omega)
theorem plac_l0 (s t : ByteArray) (n : Nat) (hs : s.size ≤ 200) (hn : n ≤ s.size) (ht : t.size = n) : ∀ (m i : Nat), i + m = s.size + 1 - n → Evt (fun k => numnahref09_places.l0 k s t (posUp s n t i) (i : Int)) (posS s n t)
  | 0, i, hi => by
    have w : Aside0 (wrap64 ((i : Int) + (t.size : Int)) = ((i + n : Nat) : Int)) := ⟨(wr (by omega) (by omega)).trans (by omega)⟩
    obtain rfl : i = s.size + 1 - n := by omega
    refine Evt.now fun k => ?_
    rw [numnahref09_places.l0, w.out, if_neg (by omega)]
    rfl
  | m + 1, i, hi => by
    have w : Aside0 (wrap64 ((i : Int) + (t.size : Int)) = ((i + n : Nat) : Int)) := ⟨(wr (by omega) (by omega)).trans (by omega)⟩
    have w2 : Aside0 (wrap64 ((i : Int) + 1) = ((i + 1 : Nat) : Int)) := ⟨(wr (by omega) (by omega)).trans (by omega)⟩
    have hx : s.extract (i : Int).toNat ((i + n : Nat) : Int).toNat = subAt s n i := sub_eq s i n _ _ rfl rfl
    have hlen := posUp_len s n t i
    refine Evt.step (fun k => ?_) (plac_l0 s t n hs hn ht m (i + 1) (by omega))
    rw [numnahref09_places.l0, w.out, if_pos (by omega), if_pos (by omega), if_pos (by omega), hx]
    by_cases c : subAt s n i = t
    · rw [if_pos ((toList_eq_iff _ _).2 c), if_pos (by omega), w2.out, posUp, if_pos c]
    · rw [if_neg (fun hh => c ((toList_eq_iff _ _).1 hh)), w2.out, posUp, if_neg c, List.append_nil]
end Go.Proofs.YtpeeflkodpnbpaaDoor.Pr

/- tame(s, most) is a word of at most that many letters. -/
namespace Go.Proofs.YtpeeflkodpnbpaaDoor.Pr
open Go.RowKit Go.Proofs.YtpeeflkodpnbpaaDoorW.PrintWords Go.Proofs.YtpeeflkodpnbpaaDoorW.PrintLast Go.Proofs.YtpeeflkodpnbpaaDoorW.PrintMore
set_option linter.unusedVariables false
set_option linter.unusedSimpArgs false

theorem ok_nums (l : List Int) (h : ∀ x, x ∈ l → 97 ≤ x ∧ x ≤ 100) : ∀ i, i < (strOfNums l).size → okAt (strOfNums l) i := by
  intro i hi
  rw [strOfNums_size] at hi
  have e : (strOfNums l).get! i = UInt8.ofNat (l[i]).toNat := by
    have : ((strOfNums l).data[i]?) = some (UInt8.ofNat (l[i]).toNat) := by
      rw [← Array.getElem?_toList, strOfNums_data]
      simp [hi]
    show (strOfNums l).data[i]! = _
    rw [getElem!_def, this]
  have := h _ (List.getElem_mem hi)
  unfold okAt
  rw [e]
  have e2 : (UInt8.ofNat (l[i]).toNat).toNat = (l[i]).toNat := by
    rw [UInt8.toNat_ofNat']
    omega
  rw [e2]
  omega
theorem tame_l0 (a0 : ByteArray) (hz : a0.size ≤ 140737488351232) (most : Nat) (hm : most ≤ 1000) : ∀ (q i : Nat) (l : List Int), i + q = most → i ≤ a0.size → l.length = i → (∀ x, x ∈ l → 97 ≤ x ∧ x ≤ 100) →
    ∃ s, s.size ≤ most ∧ (∀ i, i < s.size → okAt s i) ∧ Evt (fun k => numnahlaw09_tame.l0 k a0 (most : Int) l (i : Int)) s
  | 0, i, l, hi, hi2, hl, h => by
    refine ⟨strOfNums l, by rw [strOfNums_size]; omega, ok_nums l h, Evt.now fun k => ?_⟩
    rw [numnahlaw09_tame.l0]
    by_cases c : (i : Int) < (a0.size : Int)
    · rw [if_pos c, if_neg (by omega)]
    · rw [if_neg c]
  | q + 1, i, l, hi, hi2, hl, h => by
    by_cases c : i < a0.size
    · have hr := bt_range a0 (i : Int)
      obtain ⟨s, h1, h2, h3⟩ := tame_l0 a0 hz most hm q (i + 1) (l ++ [(97 + (Int.tmod (bt a0 (i : Int)) 4)) % 256]) (by omega) (by omega) (by rw [List.length_append, hl]; rfl) (fun x hx => by
        rcases List.mem_append.1 hx with hx | hx
        · exact h x hx
        · rw [List.mem_singleton] at hx
          rw [hx, Int.tmod_eq_emod_of_nonneg hr.1]
          omega)
      refine ⟨s, h1, h2, Evt.step (fun k => ?_) h3⟩
      rw [numnahlaw09_tame.l0, if_pos (by omega), if_pos (by omega), if_pos (by omega), if_pos (by omega), wr (by omega) (by omega)]
      rfl
    · refine ⟨strOfNums l, by rw [strOfNums_size]; omega, ok_nums l h, Evt.now fun k => ?_⟩
      rw [numnahlaw09_tame.l0, if_neg (by omega)]
theorem tame_ev (a0 : ByteArray) (hz : a0.size ≤ 140737488351232) (most : Nat) (hm : most ≤ 160) : ∃ s, s.size ≤ most ∧ isWordC s = true ∧ Evt (fun k => numnahlaw09_tame.f k a0 (most : Int)) s := by
  obtain ⟨s, h1, h2, h3⟩ := tame_l0 a0 hz most (by omega) most 0 [] (by omega) (by omega) rfl (by simp)
  exact ⟨s, h1, (isWordC_iff s).2 ⟨by omega, h2⟩, h3⟩
end Go.Proofs.YtpeeflkodpnbpaaDoor.Pr

/- The law's comparison of two lists. -/
namespace Go.Proofs.YtpeeflkodpnbpaaDoor.Pr
open Go.RowKit Go.Proofs.YtpeeflkodpnbpaaDoorW.PrintWords Go.Proofs.YtpeeflkodpnbpaaDoorW.PrintLast Go.Proofs.YtpeeflkodpnbpaaDoorW.PrintMore
set_option linter.unusedVariables false
set_option linter.unusedSimpArgs false

theorem ints_same (l : List Int) (hl : l.length ≤ 1000) : Evt (fun k => numnahlaw09_ints.f k l l) true := by
  have : ∀ (m i : Nat), i + m = l.length → Evt (fun k => numnahlaw09_ints.l0 k l l (i : Int)) true := by
    intro m
    induction m with
    | zero =>
      intro i hi
      refine Evt.now fun k => ?_
      rw [numnahlaw09_ints.l0, if_neg (by omega)]
    | succ m ih =>
      intro i hi
      have w2 : Aside0 (wrap64 ((i : Int) + 1) = ((i + 1 : Nat) : Int)) := ⟨(wr (by omega) (by omega)).trans (by omega)⟩
      refine Evt.step (fun k => ?_) (ih (i + 1) (by omega))
      rw [numnahlaw09_ints.l0, if_pos (by omega), if_pos (by omega), if_pos (by omega), if_pos rfl, w2.out]
  unfold numnahlaw09_ints.f
  exact Evt.pos rfl (this l.length 0 (by omega))
end Go.Proofs.YtpeeflkodpnbpaaDoor.Pr

/- awake() answers true. -/
namespace Go.Proofs.YtpeeflkodpnbpaaDoor.Pr
open Go.RowKit Go.Proofs.YtpeeflkodpnbpaaDoorW.PrintWords Go.Proofs.YtpeeflkodpnbpaaDoorW.PrintLast Go.Proofs.YtpeeflkodpnbpaaDoorW.PrintMore
set_option linter.unusedVariables false
set_option maxRecDepth 1000000 in
theorem awake_run : numnahlaw09_awake.f 200 = some true := by kernel_rfl
theorem awake_ev : Evt (fun k => numnahlaw09_awake.f k) true := ⟨200, fun k hk => at_rounds (fun k => numnahlaw09_awake.mono k) hk awake_run⟩
theorem awake_bind : Evt (fun k => (numnahlaw09_awake.f k).bind fun t => some t) true := Evt.congr awake_ev (fun k => by cases numnahlaw09_awake.f k <;> rfl)
end Go.Proofs.YtpeeflkodpnbpaaDoor.Pr

namespace Go.Proofs.YtpeeflkodpnbpaaDoor.Pure
open Go.RowKit Go.Proofs.YtpeeflkodpnbpaaDoor.Pr Go.Proofs.YtpeeflkodpnbpaaDoorW.PrintWords Go.Proofs.YtpeeflkodpnbpaaDoorW.PrintLast
set_option linter.unusedVariables false
set_option linter.unusedSimpArgs false

theorem plan_short (l : List S63) (h : l.length ≤ 161) : numnahlaw09_plan.f l = some l := by
  have e : mn (l.length : Int) 161 = (l.length : Int) := by unfold mn; split <;> omega
  rw [numnahlaw09_plan.f, e, if_pos (by omega), if_pos (by omega), Int.toNat_natCast, List.take_length, Option.bind_some, if_pos (by simp; omega), List.nil_append]
theorem list_short (l : List Int) (h : l.length ≤ 161) : numnahlaw09_list.f l = some l := by
  have e : mn (l.length : Int) 161 = (l.length : Int) := by unfold mn; split <;> omega
  rw [numnahlaw09_list.f, e, if_pos (by omega), if_pos (by omega), Int.toNat_natCast, List.take_length, if_pos (by simp; omega), List.nil_append]
theorem same_own (l : List S63) (hl : l.length ≤ 1000000) : Evt (fun k => numnahref09_Same.f k l l) true := by
  have : ∀ (m i : Nat), i + m = l.length → Evt (fun k => numnahref09_Same.l0 k l l (i : Int)) true := by
    intro m
    induction m with
    | zero =>
      intro i hi
      refine Evt.now fun k => ?_
      rw [numnahref09_Same.l0, if_neg (by omega)]
    | succ m ih =>
      intro i hi
      refine Evt.step (g' := fun k => numnahref09_Same.l0 k l l ((i + 1 : Nat) : Int)) (fun k => ?_) (ih (i + 1) (by omega))
      rw [numnahref09_Same.l0, if_pos (by omega), if_pos (by omega), if_pos (by omega), if_neg (by simp), wr (by omega) (by omega)]
      rfl
  refine (Evt.pos (c := (l.length : Int) = l.length) (g' := fun _ => some false) rfl (this l.length 0 (by omega))).congr fun k => ?_
  rw [numnahref09_Same.f]; rfl
theorem subr_o0 (s : ByteArray) (hs : s.size ≤ 200) : ∀ (m i : Nat), i + m = s.size + 1 → Evt (fun k => numnahref09_Substrings.l0 k s ((List.range i).map (fun i => (cntS s i : Int))) (i : Int)) (subsL s)
  | 0, i, hi => by
    obtain rfl : i = s.size + 1 := by omega
    refine Evt.now fun k => ?_
    rw [numnahref09_Substrings.l0, if_neg (by omega)]; rfl
  | m + 1, i, hi => by
    have w2 : Aside0 (wrap64 ((i : Int) + 1) = ((i + 1 : Nat) : Int)) := ⟨(wr (by omega) (by omega)).trans (by omega)⟩
    have e : (List.range (i + 1)).map (fun i => (cntS s i : Int)) = (List.range i).map (fun i => (cntS s i : Int)) ++ [((partsS s i).length : Int)] := by
      rw [List.range_succ, List.map_append, ← cntS_eq]; rfl
    have ih := subr_o0 s hs m (i + 1) (by omega)
    rw [e] at ih
    refine Evt.step (g' := fun k => (numnahref09_parts.f k s (i : Int)).bind fun t629 => (if ((List.range i).map (fun i => (cntS s i : Int))).length < 17592186044416 then (numnahref09_Substrings.l0 k s ((List.range i).map (fun i => (cntS s i : Int)) ++ [(t629.length : Int)]) ((i + 1 : Nat) : Int)) else (none))) (fun k => ?_) (Evt.bind (parts_ev s i hs (by omega)) (Evt.pos (by simp; omega) ih))
    rw [numnahref09_Substrings.l0, if_pos (by omega), w2.out]
theorem subr_own (s : ByteArray) (hs : s.size ≤ 200) : Evt (fun k => numnahref09_Substrings.f k s) (subsL s) := subr_o0 s hs (s.size + 1) 0 (by omega)
theorem cost_own (s : ByteArray) (hw : isWordC s = true) (l : List S63) (hl : l.length ≤ 1000) (c : plnOk s l 0) : ∃ r, Evt (fun k => parse_Cost.f k s l 1 1) r := by
  have hs := ((isWordC_iff s).1 hw).1
  refine ⟨(wrap64 ((wrap64 (1 * singN l l.length)) + (wrap64 (1 * (wrap64 ((l.length : Int) - singN l l.length))))), 0), ?_⟩
  unfold parse_Cost.f
  refine Evt.bind (Evt.all (fun _ => show parse_isWord.f s = some (isWordC s) from rfl)) (Evt.pos hw (Evt.bind (Evt.all (fun _ => show parse_isPrice.f 1 1 = some true from rfl)) ?_))
  refine Evt.step (g' := fun k => (parse_isPlan.f k s l).bind fun t796 => (if t796 = true then ((parse_singles.f l).bind fun t797 => ((parse_singles.f l).bind fun t798 => (some (wrap64 ((wrap64 (1 * t797)) + (wrap64 (1 * (wrap64 ((l.length : Int) - t798))))), 0)))) else (some (0, 10)))) (fun k => by rw [parse_Cost.j0]; rfl) (Evt.bind (isPlan_ev s hs l hl) ?_)
  refine Evt.pos (decide_eq_true c) (Evt.all (fun _ => ?_))
  have e : parse_singles.f l = some (singN l l.length) := by rw [parse_singles.f, if_pos (by omega)]
  rw [e]
  rfl
theorem asc_pw {N : Nat} : ∀ {r : List Int} {a : Nat}, Asc N a r → r.Pairwise (fun x y => x < y) ∧ ∀ x, x ∈ r → (a : Int) ≤ x ∧ x < N
  | [], _, _ => ⟨List.Pairwise.nil, fun x h => by cases h⟩
  | x :: r, a, ⟨c, h1, h2, h3, h4⟩ => by
    obtain ⟨i1, i2⟩ := asc_pw h4
    refine ⟨List.pairwise_cons.2 ⟨fun y hy => by have := i2 y hy; omega, i1⟩, fun y hy => ?_⟩
    rcases List.mem_cons.1 hy with rfl | hy
    · omega
    · have := i2 y hy; omega
theorem own_pos (s : ByteArray) {r : List Int} (h : Asc s.size 0 r) : ∀ j, j < r.length → posAt s r j :=
  posAt_of s r (asc_pw h).1 (fun x hx => by have := (asc_pw h).2 x hx; omega)
/-- the law's end -/
theorem own_l2 (s : ByteArray) (hs : s.size ≤ 14) (hw : isWordC s = true) (F : List S63) (N : List Int) (eF : parse_Copying.f s = some (F, 0)) (eN : parse_Fewest.f s = some (N, 0)) (hF : F.length ≤ 1000) (hN : N.length ≤ 1000) : ∀ (m i : Nat) (x : List Int), i + m = x.length → x.length ≤ 1000 → Evt (fun k => numnahlaw09_ParseOwn.l2 k s F N x (i : Int)) true
  | 0, i, x, hi, hx => by
    refine Evt.step (g' := fun k => (parse_Copying.f s).bind fun bt925 => ((parse_Fewest.f s).bind fun bt929 => ((parse_Substrings.f s).bind fun bt933 => (if bt925.2 = 0 then (if bt929.2 = 0 then (if bt933.2 = 0 then ((numnahref09_Same.f k bt925.1 F).bind fun t937 => (if t937 = true then ((numnahlaw09_ints.f k bt929.1 N).bind fun t938 => (if t938 = true then ((numnahref09_Substrings.f k s).bind fun t939 => ((numnahlaw09_ints.f k bt933.1 t939).bind fun t942 => (if t942 = true then ((numnahlaw09_awake.f k).bind fun t943 => (some t943)) else (some false)))) else (some false))) else (some false))) else (some false)) else (some false)) else (some false))))) (fun k => by rw [numnahlaw09_ParseOwn.l2, if_neg (by omega)]) ?_
    refine Evt.bind (Evt.all (fun _ => eF)) (Evt.bind (Evt.all (fun _ => eN)) (Evt.bind (Evt.all (fun _ => subs_some s hw)) (Evt.pos rfl (Evt.pos rfl (Evt.pos rfl ?_)))))
    refine Evt.bind (same_own F (by omega)) (Evt.pos rfl (Evt.bind (ints_same N hN) (Evt.pos rfl (Evt.bind (subr_own s (by omega)) (Evt.bind (ints_same _ ?_) (Evt.pos rfl awake_bind))))))
    rw [subsL_len]; omega
  | m + 1, i, x, hi, hx => by
    have w2 : Aside0 (wrap64 ((i : Int) + 1) = ((i + 1 : Nat) : Int)) := ⟨(wr (by omega) (by omega)).trans (by omega)⟩
    refine Evt.step (fun k => ?_) (own_l2 s hs hw F N eF eN hF hN m (i + 1) (x.set i (-7)) (by rw [List.length_set]; omega) (by rw [List.length_set]; omega))
    rw [numnahlaw09_ParseOwn.l2, if_pos (by omega), if_pos (by omega), w2.out, Int.toNat_natCast]
theorem own_l1 (s : ByteArray) (F : List S63) (N x : List Int) (h : Evt (fun k => numnahlaw09_ParseOwn.l2 k s F N x ((0 : Nat) : Int)) true) : ∀ (m i : Nat) (y : List Int), i + m = y.length → y.length ≤ 1000 → Evt (fun k => numnahlaw09_ParseOwn.l1 k s F y N x (i : Int)) true
  | 0, i, y, hi, hx => by
    refine Evt.step (fun k => ?_) h
    rw [numnahlaw09_ParseOwn.l1, if_neg (by omega)]; rfl
  | m + 1, i, y, hi, hx => by
    have w2 : Aside0 (wrap64 ((i : Int) + 1) = ((i + 1 : Nat) : Int)) := ⟨(wr (by omega) (by omega)).trans (by omega)⟩
    refine Evt.step (fun k => ?_) (own_l1 s F N x h m (i + 1) (y.set i (-7)) (by rw [List.length_set]; omega) (by rw [List.length_set]; omega))
    rw [numnahlaw09_ParseOwn.l1, if_pos (by omega), if_pos (by omega), w2.out, Int.toNat_natCast]
theorem own_l0 (s : ByteArray) (F : List S63) (y N x : List Int) (h : Evt (fun k => numnahlaw09_ParseOwn.l1 k s F y N x ((0 : Nat) : Int)) true) : ∀ (m i : Nat) (z : List S63), i + m = z.length → z.length ≤ 1000 → Evt (fun k => numnahlaw09_ParseOwn.l0 k s z F y N x (i : Int)) true
  | 0, i, z, hi, hx => by
    refine Evt.step (fun k => ?_) h
    rw [numnahlaw09_ParseOwn.l0, if_neg (by omega)]; rfl
  | m + 1, i, z, hi, hx => by
    have w2 : Aside0 (wrap64 ((i : Int) + 1) = ((i + 1 : Nat) : Int)) := ⟨(wr (by omega) (by omega)).trans (by omega)⟩
    refine Evt.step (fun k => ?_) (own_l0 s F y N x h m (i + 1) (z.set i ⟨-7, -7⟩) (by rw [List.length_set]; omega) (by rw [List.length_set]; omega))
    rw [numnahlaw09_ParseOwn.l0, if_pos (by omega), if_pos (by omega), w2.out, Int.toNat_natCast]
theorem ParseOwn : numnahlaw09_ParseOwn.Pure := by
  intro a0 ha
  apply Evt.ex
  obtain ⟨s, hz, hw, ht⟩ := tame_ev a0 ha 14 (by omega)
  show Evt (fun k => numnahlaw09_ParseOwn.f k a0) true
  unfold numnahlaw09_ParseOwn.f
  refine Evt.bind ht ?_
  have eF : parse_Copying.f s = some (copF s s.size 0, 0) := by rw [parse_Copying.f, hw]; rfl
  have eN : parse_Fewest.f s = some (fewL s (s.size + 1) 0 [], 0) := by rw [parse_Fewest.f, hw, if_pos rfl, if_neg (by omega)]
  have hFl : (copF s s.size 0).length ≤ 14 := by have := copF_leq s s.size 0; omega
  have hpl := cop_plan s s.size 0 (by omega) (by omega)
  obtain ⟨hN0, hNl⟩ : (∀ j, j < (fewL s (s.size + 1) 0 []).length → posAt s (fewL s (s.size + 1) 0 []) j) ∧ (fewL s (s.size + 1) 0 []).length ≤ 14 := by
    have hf := (few_is s).2.1
    constructor
    · exact own_pos s hf
    · rcases asc_len hf with h | h
      · rw [h]; simp
      · omega
  generalize copF s s.size 0 = F at *
  generalize fewL s (s.size + 1) 0 [] = N at *
  refine Evt.bind (Evt.all (fun _ => eF)) (Evt.bind (Evt.all (fun _ => plan_short F (by omega))) (Evt.bind (letters_ev s (by omega) F (by omega) hpl) ?_))
  have eR : parse_Read.f F (ltrF s F 0) = some (readF F (ltrF s F 0)) := by rw [parse_Read.f, if_pos (by omega)]
  obtain ⟨c, hc⟩ := cost_own s hw F (by omega) hpl
  refine Evt.bind (Evt.all (fun _ => eR)) (Evt.bind hc (Evt.bind (Evt.all (fun _ => eN)) (Evt.bind (Evt.all (fun _ => list_short N (by omega))) (Evt.bind (touches_ev s hw N (by omega) hN0) (Evt.bind (Evt.all (fun _ => subs_some s hw)) (Evt.pos rfl (Evt.pos rfl (Evt.pos rfl (Evt.bind (same_own F (by omega)) (Evt.pos rfl (Evt.bind (ints_same N (by omega)) ?_)))))))))))
  refine Evt.step (g' := fun k => numnahlaw09_ParseOwn.l0 k s F F N N (subsL s) ((0 : Nat) : Int)) (fun k => by rw [numnahlaw09_ParseOwn.j0, if_neg (by decide)]; rfl) ?_
  have hl : (subsL s).length = s.size + 1 := subsL_len s
  exact own_l0 s F N N (subsL s) (own_l1 s F N (subsL s) (own_l2 s hz hw F N eF eN (by omega) (by omega) (subsL s).length 0 (subsL s) (by omega) (by omega)) N.length 0 N (by omega) (by omega)) F.length 0 F (by omega) (by omega)
end Go.Proofs.YtpeeflkodpnbpaaDoor.Pure
