/- The numbers of substrings, plainly. -/
import Derived.Test.YtpeeflkodpnbpaaDoorHEv
import Derived.Test.YtpeeflkodpnbpaaDoorHKeys
import Derived.Test.YtpeeflkodpnbpaaDoorHSubs
namespace Go.Proofs.YtpeeflkodpnbpaaDoor.Pr
open Go.RowKit Go.WideMaps Go.Maps Go.Proofs.YtpeeflkodpnbpaaDoorW Go.Proofs.YtpeeflkodpnbpaaDoorW.PrintWords Go.Proofs.YtpeeflkodpnbpaaDoorW.PrintLast Go.Proofs.YtpeeflkodpnbpaaDoorW.PrintMore
set_option linter.unusedVariables false
set_option linter.unusedSimpArgs false

theorem insD_old {x : ByteArray} : ∀ {l : List ByteArray}, l.Pairwise ltS → x ∈ l → (insD x l).length = l.length
  | y :: l, h, hm => by
    have hy := List.pairwise_cons.1 h
    rw [insD]
    split
    · rename_i hlt
      have : x ∈ l := by
        rcases List.mem_cons.1 hm with rfl | hm
        · exact absurd rfl ((ltS_iff _ _).1 hlt).2
        · exact hm
      rw [List.length_cons, insD_old hy.2 this, List.length_cons]
    · split
      · rfl
      · rename_i hlt hne
        exfalso
        rcases List.mem_cons.1 hm with rfl | hm
        · exact hne rfl
        · exact hlt (hy.1 x hm)
theorem insD_new {x : ByteArray} : ∀ {l : List ByteArray}, x ∉ l → (insD x l).length = l.length + 1
  | [], _ => rfl
  | y :: l, hm => by
    rw [insD]
    split
    · rw [List.length_cons, insD_new (fun h => hm (List.mem_cons_of_mem _ h)), List.length_cons]
    · split
      · rename_i _ e
        exact absurd (e ▸ List.mem_cons_self) hm
      · rfl
theorem subG_tidy {H : Type} (s : ByteArray) (n : Nat) : ∀ k, Tidy (subG (H := H) s n k)
  | 0 => tidy_empty
  | k + 1 => (subG_tidy s n k).put (keyLit _) _
theorem size_up {H : Type} (s : ByteArray) (n : Nat) : ∀ k, Maps.size (subG (H := H) s n k) = (partsUp s n k).length
  | 0 => rfl
  | k + 1 => by
    rw [subG, size_put (subG_tidy s n k), partsUp, size_up s n k]
    by_cases h : Maps.has (subG (H := H) s n k) (keyS (subAt s n k)) = true
    · rw [if_pos h, insD_old (partsUp_sorted s n k) (mem_partsUp.2 ((subG_has s n _ k).1 h))]
    · rw [if_neg h, insD_new (fun hm => h ((subG_has s n _ k).2 (mem_partsUp.1 hm)))]
theorem cntS_eq (s : ByteArray) (n : Nat) : cntS s n = (partsS s n).length := size_up s n _
theorem subsF_eq (s : ByteArray) : ∀ m n l, subsF s m n l = l ++ (List.range m).map (fun i => (cntS s (n + i) : Int))
  | 0, n, l => by simp [subsF]
  | m + 1, n, l => by
    rw [subsF, subsF_eq s m (n + 1), List.range_succ_eq_map, List.map_cons, List.map_map, List.append_assoc]
    congr 1
    rw [List.singleton_append]
    congr 1
    apply List.map_congr_left
    intro a _
    show (cntS s (n + 1 + a) : Int) = cntS s (n + (a + 1))
    rw [show n + 1 + a = n + (a + 1) by omega]
def subsL (s : ByteArray) : List Int := (List.range (s.size + 1)).map (fun i => (cntS s i : Int))
theorem subs_some (s : ByteArray) (h : isWordC s = true) : parse_Substrings.f s = some (subsL s, 0) := by
  rw [parse_Substrings.f, if_pos h, subsF_eq, List.nil_append]
  simp [subsL]
theorem subsL_len (s : ByteArray) : (subsL s).length = s.size + 1 := by simp [subsL]
theorem subsL_rd (s : ByteArray) (k : Nat) (h : k ≤ s.size) : PrintWords.rd (subsL s) (k : Int) = cntS s k := by
  simp [PrintWords.rd, subsL, show k < s.size + 1 by omega]

/-! ### counting -/
theorem nodup_le {α : Type} : ∀ {l m : List α}, l.Nodup → (∀ x, x ∈ l → x ∈ m) → l.length ≤ m.length
  | [], _, _, _ => by simp
  | x :: l, m, hn, h => by
    obtain ⟨a, b, rfl⟩ := List.append_of_mem (h x List.mem_cons_self)
    have hn2 := List.nodup_cons.1 hn
    have := nodup_le (l := l) (m := a ++ b) hn2.2 (fun y hy => by
      have h1 := h y (List.mem_cons_of_mem _ hy)
      rcases List.mem_append.1 h1 with h1 | h1
      · exact List.mem_append_left _ h1
      · rcases List.mem_cons.1 h1 with e | h1
        · exact absurd (e ▸ hy) hn2.1
        · exact List.mem_append_right _ h1)
    simp only [List.length_append, List.length_cons] at this ⊢
    omega
theorem partsS_nodup (s : ByteArray) (n : Nat) : (partsS s n).Nodup := (partsS_sorted s n).imp (fun h => ((ltS_iff _ _).1 h).2)
/-- a substring occurs -/
def occ (s t : ByteArray) (n : Nat) : Prop := ∃ j, j + n ≤ s.size ∧ subAt s n j = t
theorem mem_parts {s t : ByteArray} {n : Nat} : t ∈ partsS s n ↔ occ s t n := by
  rw [mem_partsS]
  constructor
  · rintro ⟨j, hj, h⟩; exact ⟨j, by omega, h⟩
  · rintro ⟨j, hj, h⟩; exact ⟨j, by omega, h⟩
theorem cnt_le_of {s s' : ByteArray} {n : Nat} (h : ∀ t, occ s t n → occ s' t n) : cntS s n ≤ cntS s' n := by
  rw [cntS_eq, cntS_eq]
  exact nodup_le (partsS_nodup s n) (fun t ht => mem_parts.2 (h t (mem_parts.1 ht)))
theorem cnt_le_pos (s : ByteArray) (n : Nat) : cntS s n ≤ s.size + 1 - n := by rw [cntS_eq]; exact partsS_len s n
theorem cnt_pos (s : ByteArray) (n : Nat) (h : n ≤ s.size) : 1 ≤ cntS s n := by
  rw [cntS_eq]
  have : subAt s n 0 ∈ partsS s n := mem_parts.2 ⟨0, by omega, rfl⟩
  exact List.length_pos_of_mem this
theorem sub_zero (s : ByteArray) (j : Nat) (hj : j ≤ s.size) : subAt s 0 j = emptyB := by
  have h := subAt_size s 0 j (by omega)
  have : (subAt s 0 j).data = #[] := by
    apply Array.eq_empty_of_size_eq_zero
    exact h
  cases hh : subAt s 0 j with
  | mk a => rw [hh] at this; rw [show a = #[] from this]; rfl
theorem cnt_zero (s : ByteArray) : cntS s 0 = 1 := by
  have h1 := cnt_pos s 0 (by omega)
  have h2 : cntS s 0 ≤ 1 := by
    rw [cntS_eq]
    refine nodup_le (m := [emptyB]) (partsS_nodup s 0) (fun t ht => ?_)
    obtain ⟨j, hj, rfl⟩ := mem_parts.1 ht
    rw [sub_zero s j (by omega)]; simp
  omega
theorem cnt_full (s : ByteArray) : cntS s s.size = 1 := by
  have h1 := cnt_pos s s.size (by omega)
  have h2 := cnt_le_pos s s.size
  omega

/-! ### strings as lists of bytes -/
def bl (s : ByteArray) : List UInt8 := s.data.toList
theorem bl_inj {a b : ByteArray} (h : bl a = bl b) : a = b := Go.WideShapes.bytes_inj h
theorem bl_len (s : ByteArray) : (bl s).length = s.size := Array.length_toList
theorem bl_append (a b : ByteArray) : bl (a ++ b) = bl a ++ bl b := by unfold bl; rw [ByteArray.data_append, Array.toList_append]
theorem bl_extract (s : ByteArray) (i j : Nat) : bl (s.extract i j) = ((bl s).drop i).take (j - i) := by
  unfold bl; rw [ByteArray.data_extract, Array.toList_extract, List.extract_eq_take_drop]
theorem bl_sub (s : ByteArray) (n j : Nat) : bl (subAt s n j) = ((bl s).drop j).take n := by
  unfold subAt
  rw [bl_extract, show j + n - j = n by omega]
theorem bl_get (s : ByteArray) (i : Nat) (h : i < s.size) : (bl s)[i]'(by rw [bl_len]; exact h) = s.get! i := by
  cases s with
  | mk a =>
    have h' : i < a.size := h
    simp [bl, ByteArray.get!, h']
theorem ok_mem (s : ByteArray) (hw : isWordC s = true) : ∀ c, c ∈ bl s → c = 97 ∨ c = 98 ∨ c = 99 ∨ c = 100 := by
  intro c hc
  obtain ⟨i, hi, rfl⟩ := List.mem_iff_getElem.1 hc
  have hi2 : i < s.size := by rw [bl_len] at hi; exact hi
  have ok := ((isWordC_iff s).1 hw).2 i hi2
  rw [bl_get s i hi2]
  have h1 := ok.1
  have h2 := ok.2
  have : (s.get! i).toNat = 97 ∨ (s.get! i).toNat = 98 ∨ (s.get! i).toNat = 99 ∨ (s.get! i).toNat = 100 := by omega
  rcases this with h | h | h | h
  · exact .inl (UInt8.toNat_inj.1 h)
  · exact .inr (.inl (UInt8.toNat_inj.1 h))
  · exact .inr (.inr (.inl (UInt8.toNat_inj.1 h)))
  · exact .inr (.inr (.inr (UInt8.toNat_inj.1 h)))
theorem word_of_mem (s : ByteArray) (hs : s.size ≤ 160) (h : ∀ c, c ∈ bl s → c = 97 ∨ c = 98 ∨ c = 99 ∨ c = 100) : isWordC s = true := by
  refine (isWordC_iff s).2 ⟨hs, fun i hi => ?_⟩
  have := h _ (List.getElem_mem (show i < (bl s).length by rw [bl_len]; exact hi))
  rw [bl_get s i hi] at this
  unfold okAt
  rcases this with h | h | h | h <;> rw [h] <;> decide
theorem sub_app (s p : ByteArray) (n j : Nat) (h : j + n ≤ s.size) : subAt (s ++ p) n j = subAt s n j := by
  apply bl_inj
  rw [bl_sub, bl_sub, bl_append, List.drop_append_of_le_length (by rw [bl_len]; omega), List.take_append_of_le_length (by rw [List.length_drop, bl_len]; omega)]

/-! ### one more letter; one more place -/
theorem cnt_app_le (s p : ByteArray) (k : Nat) : cntS s k ≤ cntS (s ++ p) k := by
  refine cnt_le_of (fun t ⟨j, hj, h⟩ => ⟨j, ?_, ?_⟩)
  · rw [ByteArray.size_append]; omega
  · rw [sub_app s p k j hj, h]
theorem cnt_app_one (s p : ByteArray) (hp : p.size = 1) (k : Nat) (hk : k ≤ s.size) : cntS (s ++ p) k ≤ cntS s k + 1 := by
  rw [cntS_eq, cntS_eq]
  have := nodup_le (m := partsS s k ++ [subAt (s ++ p) k (s.size + 1 - k)]) (partsS_nodup (s ++ p) k) (fun t ht => by
    obtain ⟨j, hj, h⟩ := mem_parts.1 ht
    rw [ByteArray.size_append, hp] at hj
    by_cases c : j + k ≤ s.size
    · exact List.mem_append_left _ (mem_parts.2 ⟨j, c, by rw [← h, sub_app s p k j c]⟩)
    · refine List.mem_append_right _ ?_
      rw [List.mem_singleton, ← h, show j = s.size + 1 - k by omega])
  rwa [List.length_append, List.length_singleton] at this
def ext4 : List ByteArray → List ByteArray
  | [] => []
  | t :: l => t.push 97 :: t.push 98 :: t.push 99 :: t.push 100 :: ext4 l
theorem ext4_len : ∀ l, (ext4 l).length = 4 * l.length
  | [] => rfl
  | t :: l => by simp only [ext4, List.length_cons, ext4_len l]; omega
theorem mem_ext4 {t : ByteArray} {c : UInt8} (hc : c = 97 ∨ c = 98 ∨ c = 99 ∨ c = 100) : ∀ {l : List ByteArray}, t ∈ l → t.push c ∈ ext4 l
  | x :: l, h => by
    rw [ext4]
    rcases List.mem_cons.1 h with rfl | h
    · rcases hc with rfl | rfl | rfl | rfl <;> simp
    · have := mem_ext4 hc h
      simp [this]
theorem cnt_four (s : ByteArray) (hw : isWordC s = true) (k : Nat) : cntS s (k + 1) ≤ 4 * cntS s k := by
  rw [cntS_eq, cntS_eq, ← ext4_len]
  refine nodup_le (partsS_nodup s (k + 1)) (fun t ht => ?_)
  obtain ⟨j, hj, rfl⟩ := mem_parts.1 ht
  have hlt : j + k < (bl s).length := by rw [bl_len]; omega
  have e : subAt s (k + 1) j = (subAt s k j).push (bl s)[j + k] := by
    apply bl_inj
    have : bl ((subAt s k j).push (bl s)[j + k]) = bl (subAt s k j) ++ [(bl s)[j + k]] := by
      simp [bl, ByteArray.push]
    rw [this, bl_sub, bl_sub]
    have h2 : k < ((bl s).drop j).length := by rw [List.length_drop]; omega
    rw [List.take_succ_eq_append_getElem h2, List.getElem_drop]
  rw [e]
  exact mem_ext4 (ok_mem s hw _ (List.getElem_mem hlt)) (mem_parts.2 ⟨j, by omega, rfl⟩)
end Go.Proofs.YtpeeflkodpnbpaaDoor.Pr
