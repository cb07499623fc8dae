/- ParseShared, plainly: Common's string occurs in both words, does not depend on their order; of a word and itself it is the word, of a word and a part of it the part. -/
import Derived.Test.YtpeeflkodpnbpaaDoorPr0
import Derived.Test.YtpeeflkodpnbpaaDoorHKeys
import Derived.Test.YtpeeflkodpnbpaaDoorHSubs
import Derived.Test.YtpeeflkodpnbpaaDoorHComm
import Derived.Test.YtpeeflkodpnbpaaDoorPrA23
import Derived.Test.YtpeeflkodpnbpaaDoorHWord
import Derived.Test.YtpeeflkodpnbpaaDoorPrA8
import Derived.Test.YtpeeflkodpnbpaaDoorPrB19
import Derived.Test.YtpeeflkodpnbpaaDoorDefParseShared
/- Tools of the plain laws: with enough rounds. -/
namespace Go.Proofs.YtpeeflkodpnbpaaDoor.Pr
open Go.RowKit Go.Proofs.YtpeeflkodpnbpaaDoorW.PrintWords Go.Proofs.YtpeeflkodpnbpaaDoorW.PrintLast Go.Proofs.YtpeeflkodpnbpaaDoorW.PrintMore
set_option linter.unusedVariables false
set_option linter.unusedSimpArgs false

/-- with enough rounds: this answer -/
def Evt {α : Type} (g : Nat → Option α) (r : α) : Prop := ∃ K, ∀ k, K ≤ k → g k = some r
theorem Evt.bind {α β : Type} {g : Nat → Option α} {h : Nat → α → Option β} {a : α} {b : β} (hg : Evt g a) (hh : Evt (fun k => h k a) b) : Evt (fun k => (g k).bind (h k)) b := by
  obtain ⟨K, h1⟩ := hg
  obtain ⟨K', h2⟩ := hh
  refine ⟨max K K', fun k hk => ?_⟩
  show (g k).bind (h k) = some b
  rw [h1 k (by omega), Option.bind_some]
  exact h2 k (by omega)
theorem Evt.ex {α : Type} {g : Nat → Option α} {r : α} (h : Evt g r) : ∃ k, g k = some r := by
  obtain ⟨K, h⟩ := h
  exact ⟨K, h K (Nat.le_refl _)⟩
theorem Evt.congr {α : Type} {g g' : Nat → Option α} {r : α} (h : Evt g r) (e : ∀ k, g' k = g k) : Evt g' r := by
  obtain ⟨K, h⟩ := h
  exact ⟨K, fun k hk => (e k).trans (h k hk)⟩
/-- one round -/
theorem Evt.succ {α : Type} {g : Nat → Option α} {r : α} (h : Evt (fun k => g (k + 1)) r) : Evt g r := by
  obtain ⟨K, h⟩ := h
  refine ⟨K + 1, fun k hk => ?_⟩
  obtain ⟨m, rfl⟩ : ∃ m, k = m + 1 := ⟨k - 1, by omega⟩
  exact h m (by omega)
theorem Evt.step {α : Type} {g g' : Nat → Option α} {r : α} (e : ∀ k, g (k + 1) = g' k) (h : Evt g' r) : Evt g r := Evt.succ (h.congr e)
theorem Evt.now {α : Type} {g : Nat → Option α} {r : α} (e : ∀ k, g (k + 1) = some r) : Evt g r := Evt.succ ⟨0, fun k _ => e k⟩
theorem Evt.all {α : Type} {g : Nat → Option α} {r : α} (e : ∀ k, g k = some r) : Evt g r := ⟨0, fun k _ => e k⟩
theorem Evt.pos {α : Type} {c : Prop} [Decidable c] {g g' : Nat → Option α} {r : α} (hc : c) (h : Evt g r) : Evt (fun k => if c then g k else g' k) r := h.congr fun _ => if_pos hc
theorem wr {x : Int} (h1 : -9223372036854775808 ≤ x) (h2 : x ≤ 9223372036854775807) : wrap64 x = x := by unfold wrap64; omega
theorem wu {x : Int} (h1 : 0 ≤ x) (h2 : x ≤ 18446744073709551615) : IntKind.u64.wrap x = x := by
  simp only [IntKind.wrap, IntKind.bits, IntKind.signed]
  simp
  omega

end Go.Proofs.YtpeeflkodpnbpaaDoor.Pr

/- The numbers of substrings, plainly. -/
namespace Go.Proofs.YtpeeflkodpnbpaaDoor.Pr
open Go.RowKit Go.WideMaps Go.Maps Go.Proofs.YtpeeflkodpnbpaaDoorW Go.Proofs.YtpeeflkodpnbpaaDoorW.PrintWords Go.Proofs.YtpeeflkodpnbpaaDoorW.PrintLast Go.Proofs.YtpeeflkodpnbpaaDoorW.PrintMore
set_option linter.unusedVariables false
set_option linter.unusedSimpArgs false

theorem insD_old {x : ByteArray} : ∀ {l : List ByteArray}, l.Pairwise ltS → x ∈ l → (insD x l).length = l.length
  | y :: l, h, hm => by
    have hy := List.pairwise_cons.1 h
    rw [insD]
    split
    · rename_i hlt
      have : x ∈ l := by
        rcases List.mem_cons.1 hm with rfl | hm
        · exact absurd rfl ((ltS_iff _ _).1 hlt).2
        · exact hm
      rw [List.length_cons, insD_old hy.2 this, List.length_cons]
    · split
      · rfl
      · rename_i hlt hne
        exfalso
        rcases List.mem_cons.1 hm with rfl | hm
        · exact hne rfl
        · exact hlt (hy.1 x hm)
theorem insD_new {x : ByteArray} : ∀ {l : List ByteArray}, x ∉ l → (insD x l).length = l.length + 1
  | [], _ => rfl
  | y :: l, hm => by
    rw [insD]
    split
    · rw [List.length_cons, insD_new (fun h => hm (List.mem_cons_of_mem _ h)), List.length_cons]
    · split
      · rename_i _ e
        exact absurd (e ▸ List.mem_cons_self) hm
      · rfl
theorem subG_tidy {H : Type} (s : ByteArray) (n : Nat) : ∀ k, Tidy (subG (H := H) s n k)
  | 0 => tidy_empty
  | k + 1 => (subG_tidy s n k).put (keyLit _) _
theorem size_up {H : Type} (s : ByteArray) (n : Nat) : ∀ k, Maps.size (subG (H := H) s n k) = (partsUp s n k).length
  | 0 => rfl
  | k + 1 => by
    rw [subG, size_put (subG_tidy s n k), partsUp, size_up s n k]
    by_cases h : Maps.has (subG (H := H) s n k) (keyS (subAt s n k)) = true
    · rw [if_pos h, insD_old (partsUp_sorted s n k) (mem_partsUp.2 ((subG_has s n _ k).1 h))]
    · rw [if_neg h, insD_new (fun hm => h ((subG_has s n _ k).2 (mem_partsUp.1 hm)))]
theorem subsF_eq (s : ByteArray) : ∀ m n l, subsF s m n l = l ++ (List.range m).map (fun i => (cntS s (n + i) : Int))
  | 0, n, l => by simp [subsF]
  | m + 1, n, l => by
    rw [subsF, subsF_eq s m (n + 1), List.range_succ_eq_map, List.map_cons, List.map_map, List.append_assoc]
    congr 1
    rw [List.singleton_append]
    congr 1
    apply List.map_congr_left
    intro a _
    show (cntS s (n + 1 + a) : Int) = cntS s (n + (a + 1))
    rw [show n + 1 + a = n + (a + 1) by omega]
/-! ### counting -/
theorem nodup_le {α : Type} : ∀ {l m : List α}, l.Nodup → (∀ x, x ∈ l → x ∈ m) → l.length ≤ m.length
  | [], _, _, _ => by simp
  | x :: l, m, hn, h => by
    obtain ⟨a, b, rfl⟩ := List.append_of_mem (h x List.mem_cons_self)
    have hn2 := List.nodup_cons.1 hn
    have := nodup_le (l := l) (m := a ++ b) hn2.2 (fun y hy => by
      have h1 := h y (List.mem_cons_of_mem _ hy)
      rcases List.mem_append.1 h1 with h1 | h1
      · exact List.mem_append_left _ h1
      · rcases List.mem_cons.1 h1 with e | h1
        · exact absurd (e ▸ hy) hn2.1
        · exact List.mem_append_right _ h1)
    simp only [List.length_append, List.length_cons] at this ⊢
    omega
/-- a substring occurs -/
def occ (s t : ByteArray) (n : Nat) : Prop := ∃ j, j + n ≤ s.size ∧ subAt s n j = t
theorem mem_parts {s t : ByteArray} {n : Nat} : t ∈ partsS s n ↔ occ s t n := by
  rw [mem_partsS]
  constructor
  · rintro ⟨j, hj, h⟩; exact ⟨j, by omega, h⟩
  · rintro ⟨j, hj, h⟩; exact ⟨j, by omega, h⟩
theorem sub_zero (s : ByteArray) (j : Nat) (hj : j ≤ s.size) : subAt s 0 j = emptyB := by
  have h := subAt_size s 0 j (by omega)
  have : (subAt s 0 j).data = #[] := by
    apply Array.eq_empty_of_size_eq_zero
    exact h
  cases hh : subAt s 0 j with
  | mk a => rw [hh] at this; rw [show a = #[] from this]; rfl
/-! ### strings as lists of bytes -/
def bl (s : ByteArray) : List UInt8 := s.data.toList
theorem bl_inj {a b : ByteArray} (h : bl a = bl b) : a = b := Go.WideShapes.bytes_inj h
theorem bl_len (s : ByteArray) : (bl s).length = s.size := Array.length_toList
theorem bl_extract (s : ByteArray) (i j : Nat) : bl (s.extract i j) = ((bl s).drop i).take (j - i) := by
  unfold bl; rw [ByteArray.data_extract, Array.toList_extract, List.extract_eq_take_drop]
theorem bl_sub (s : ByteArray) (n j : Nat) : bl (subAt s n j) = ((bl s).drop j).take n := by
  unfold subAt
  rw [bl_extract, show j + n - j = n by omega]
theorem bl_get (s : ByteArray) (i : Nat) (h : i < s.size) : (bl s)[i]'(by rw [bl_len]; exact h) = s.get! i := by
  cases s with
  | mk a =>
    have h' : i < a.size := h
    simp [bl, ByteArray.get!, h']
theorem ok_mem (s : ByteArray) (hw : isWordC s = true) : ∀ c, c ∈ bl s → c = 97 ∨ c = 98 ∨ c = 99 ∨ c = 100 := by
  intro c hc
  obtain ⟨i, hi, rfl⟩ := List.mem_iff_getElem.1 hc
  have hi2 : i < s.size := by rw [bl_len] at hi; exact hi
  have ok := ((isWordC_iff s).1 hw).2 i hi2
  rw [bl_get s i hi2]
  have h1 := ok.1
  have h2 := ok.2
  have : (s.get! i).toNat = 97 ∨ (s.get! i).toNat = 98 ∨ (s.get! i).toNat = 99 ∨ (s.get! i).toNat = 100 := by omega
  rcases this with h | h | h | h
  · exact .inl (UInt8.toNat_inj.1 h)
  · exact .inr (.inl (UInt8.toNat_inj.1 h))
  · exact .inr (.inr (.inl (UInt8.toNat_inj.1 h)))
  · exact .inr (.inr (.inr (UInt8.toNat_inj.1 h)))
theorem word_of_mem (s : ByteArray) (hs : s.size ≤ 160) (h : ∀ c, c ∈ bl s → c = 97 ∨ c = 98 ∨ c = 99 ∨ c = 100) : isWordC s = true := by
  refine (isWordC_iff s).2 ⟨hs, fun i hi => ?_⟩
  have := h _ (List.getElem_mem (show i < (bl s).length by rw [bl_len]; exact hi))
  rw [bl_get s i hi] at this
  unfold okAt
  rcases this with h | h | h | h <;> rw [h] <;> decide
/-! ### one more letter; one more place -/
def ext4 : List ByteArray → List ByteArray
  | [] => []
  | t :: l => t.push 97 :: t.push 98 :: t.push 99 :: t.push 100 :: ext4 l
theorem ext4_len : ∀ l, (ext4 l).length = 4 * l.length
  | [] => rfl
  | t :: l => by simp only [ext4, List.length_cons, ext4_len l]; omega
theorem mem_ext4 {t : ByteArray} {c : UInt8} (hc : c = 97 ∨ c = 98 ∨ c = 99 ∨ c = 100) : ∀ {l : List ByteArray}, t ∈ l → t.push c ∈ ext4 l
  | x :: l, h => by
    rw [ext4]
    rcases List.mem_cons.1 h with rfl | h
    · rcases hc with rfl | rfl | rfl | rfl <;> simp
    · have := mem_ext4 hc h
      simp [this]
end Go.Proofs.YtpeeflkodpnbpaaDoor.Pr

/- Common's string: it occurs in both words, does not depend on their order; of a word and a part of it, it is the part. -/
namespace Go.Proofs.YtpeeflkodpnbpaaDoor.Pr
open Go.RowKit Go.Proofs.YtpeeflkodpnbpaaDoorW.PrintWords Go.Proofs.YtpeeflkodpnbpaaDoorW.PrintLast Go.Proofs.YtpeeflkodpnbpaaDoorW.PrintMore
set_option linter.unusedVariables false
set_option linter.unusedSimpArgs false

theorem posS_nil (x : ByteArray) (n : Nat) (t : ByteArray) : posS x n t = [] ↔ ¬ occ x t n := by
  constructor
  · rintro h ⟨j, hj, e⟩
    have : (j : Int) ∈ posS x n t := mem_posUp.2 ⟨j, by omega, rfl, e⟩
    rw [h] at this; simp at this
  · intro h
    cases hh : posS x n t with
    | nil => rfl
    | cons y l =>
      have : y ∈ posS x n t := by rw [hh]; exact List.mem_cons_self
      obtain ⟨j, hj, _, e⟩ := mem_posUp.1 this
      exact absurd ⟨j, by omega, e⟩ h
theorem findC_none (x : ByteArray) (n : Nat) : ∀ l, findC x n l = none ↔ ∀ t, t ∈ l → ¬ occ x t n
  | [] => by simp [findC]
  | t :: l => by
    rw [findC]
    by_cases c : posS x n t = []
    · rw [if_pos c, findC_none x n l]
      constructor
      · intro h y hy
        rcases List.mem_cons.1 hy with rfl | hy
        · exact (posS_nil x n _).1 c
        · exact h y hy
      · intro h y hy; exact h y (List.mem_cons_of_mem _ hy)
    · rw [if_neg c]
      constructor
      · intro h; cases h
      · intro h; exact absurd ((posS_nil x n t).2 (h t List.mem_cons_self)) c
/-- the first one: it occurs, and each one that occurs too is not smaller -/
theorem findC_some (x : ByteArray) (n : Nat) {t : ByteArray} : ∀ {l : List ByteArray}, l.Pairwise ltS → findC x n l = some t → t ∈ l ∧ occ x t n ∧ ∀ y, y ∈ l → occ x y n → y = t ∨ ltS t y
  | z :: l, hp, h => by
    have hp2 := List.pairwise_cons.1 hp
    rw [findC] at h
    by_cases c : posS x n z = []
    · rw [if_pos c] at h
      obtain ⟨a1, a2, a3⟩ := findC_some x n hp2.2 h
      refine ⟨List.mem_cons_of_mem _ a1, a2, fun y hy ho => ?_⟩
      rcases List.mem_cons.1 hy with rfl | hy
      · exact absurd ho ((posS_nil x n _).1 c)
      · exact a3 y hy ho
    · rw [if_neg c] at h
      cases h
      refine ⟨List.mem_cons_self, ?_, fun y hy _ => ?_⟩
      · exact Classical.byContradiction fun hn => c ((posS_nil x n _).2 hn)
      · rcases List.mem_cons.1 hy with rfl | hy
        · exact .inl rfl
        · exact .inr (hp2.1 y hy)
theorem ltS_asymm {x y : ByteArray} (h : ltS x y) (k : ltS y x) : False := ((ltS_iff _ _).1 (ltS_trans h k)).2 rfl
theorem findC_swap (u x : ByteArray) (n : Nat) : findC x n (partsS u n) = findC u n (partsS x n) := by
  cases h1 : findC x n (partsS u n) with
  | none =>
    symm
    rw [findC_none] at h1 ⊢
    intro t ht ho
    exact h1 t (mem_parts.2 ho) (mem_parts.1 ht)
  | some t =>
    obtain ⟨a1, a2, a3⟩ := findC_some x n (partsS_sorted u n) h1
    cases h2 : findC u n (partsS x n) with
    | none =>
      rw [findC_none] at h2
      exact absurd (mem_parts.1 a1) (h2 t (mem_parts.2 a2))
    | some t' =>
      obtain ⟨b1, b2, b3⟩ := findC_some u n (partsS_sorted x n) h2
      congr 1
      rcases a3 t' (mem_parts.2 b2) (mem_parts.1 b1) with e | l1
      · exact e.symm
      · rcases b3 t (mem_parts.2 a2) (mem_parts.1 a1) with e | l2
        · exact e
        · exact (ltS_asymm l1 l2).elim
theorem comF_swap (u x : ByteArray) : ∀ n, comF u x n = comF x u n
  | 0 => rfl
  | n + 1 => by
    rw [comF, comF, findC_swap, comF_swap u x n]
theorem minS_swap (u x : ByteArray) : minS u x = minS x u := by unfold minS; split <;> split <;> omega
theorem com_swap (u x : ByteArray) : comF u x (minS u x) = comF x u (minS x u) := by rw [minS_swap, comF_swap]
theorem comF_occ (u x : ByteArray) : ∀ n, n ≤ u.size → n ≤ x.size → ∃ k, k ≤ n ∧ (comF u x n).size = k ∧ occ u (comF u x n) k ∧ occ x (comF u x n) k
  | 0, _, _ => ⟨0, Nat.le_refl _, rfl, ⟨0, by omega, sub_zero u 0 (by omega)⟩, ⟨0, by omega, sub_zero x 0 (by omega)⟩⟩
  | n + 1, h1, h2 => by
    rw [comF]
    cases h : findC x (n + 1) (partsS u (n + 1)) with
    | some t =>
      obtain ⟨a1, a2, _⟩ := findC_some x (n + 1) (partsS_sorted u (n + 1)) h
      obtain ⟨j, hj, e⟩ := a2
      exact ⟨n + 1, Nat.le_refl _, by show t.size = n + 1; rw [← e, subAt_size x _ _ hj], mem_parts.1 a1, ⟨j, hj, e⟩⟩
    | none =>
      obtain ⟨k, k1, k2, k3, k4⟩ := comF_occ u x n (by omega) (by omega)
      exact ⟨k, by omega, k2, k3, k4⟩
/-- of a word and a part of it: the part -/
theorem com_part (a p : ByteArray) (hz : p.size ≤ a.size) (h : occ a p p.size) : comF a p p.size = p := by
  cases hn : p.size with
  | zero =>
    have : p.data = #[] := Array.eq_empty_of_size_eq_zero hn
    cases p with
    | mk d => rw [show d = #[] from this]; rfl
  | succ n =>
    rw [comF]
    rw [hn] at h
    have hp : subAt p (n + 1) 0 = p := by
      apply bl_inj
      rw [bl_sub, List.drop_zero, List.take_of_length_le (by rw [bl_len]; omega)]
    have ho : occ p p (n + 1) := ⟨0, by omega, hp⟩
    cases h2 : findC p (n + 1) (partsS a (n + 1)) with
    | none =>
      rw [findC_none] at h2
      exact absurd ho (h2 p (mem_parts.2 h))
    | some t =>
      obtain ⟨_, ⟨j, hj, e⟩, _⟩ := findC_some p (n + 1) (partsS_sorted a (n + 1)) h2
      show t = p
      rw [← e, show j = 0 by omega, hp]
end Go.Proofs.YtpeeflkodpnbpaaDoor.Pr

/- tame(s, most) is a word of at most that many letters. -/
namespace Go.Proofs.YtpeeflkodpnbpaaDoor.Pr
open Go.RowKit Go.Proofs.YtpeeflkodpnbpaaDoorW.PrintWords Go.Proofs.YtpeeflkodpnbpaaDoorW.PrintLast Go.Proofs.YtpeeflkodpnbpaaDoorW.PrintMore
set_option linter.unusedVariables false
set_option linter.unusedSimpArgs false

theorem ok_nums (l : List Int) (h : ∀ x, x ∈ l → 97 ≤ x ∧ x ≤ 100) : ∀ i, i < (strOfNums l).size → okAt (strOfNums l) i := by
  intro i hi
  rw [strOfNums_size] at hi
  have e : (strOfNums l).get! i = UInt8.ofNat (l[i]).toNat := by
    have : ((strOfNums l).data[i]?) = some (UInt8.ofNat (l[i]).toNat) := by
      rw [← Array.getElem?_toList, strOfNums_data]
      simp [hi]
    show (strOfNums l).data[i]! = _
    rw [getElem!_def, this]
  have := h _ (List.getElem_mem hi)
  unfold okAt
  rw [e]
  have e2 : (UInt8.ofNat (l[i]).toNat).toNat = (l[i]).toNat := by
    rw [UInt8.toNat_ofNat']
    omega
  rw [e2]
  omega
theorem tame_l0 (a0 : ByteArray) (hz : a0.size ≤ 140737488351232) (most : Nat) (hm : most ≤ 1000) : ∀ (q i : Nat) (l : List Int), i + q = most → i ≤ a0.size → l.length = i → (∀ x, x ∈ l → 97 ≤ x ∧ x ≤ 100) →
    ∃ s, s.size ≤ most ∧ (∀ i, i < s.size → okAt s i) ∧ Evt (fun k => numnahlaw09_tame.l0 k a0 (most : Int) l (i : Int)) s
  | 0, i, l, hi, hi2, hl, h => by
    refine ⟨strOfNums l, by rw [strOfNums_size]; omega, ok_nums l h, Evt.now fun k => ?_⟩
    rw [numnahlaw09_tame.l0]
    by_cases c : (i : Int) < (a0.size : Int)
    · rw [if_pos c, if_neg (by omega)]
    · rw [if_neg c]
  | q + 1, i, l, hi, hi2, hl, h => by
    by_cases c : i < a0.size
    · have hr := bt_range a0 (i : Int)
      obtain ⟨s, h1, h2, h3⟩ := tame_l0 a0 hz most hm q (i + 1) (l ++ [(97 + (Int.tmod (bt a0 (i : Int)) 4)) % 256]) (by omega) (by omega) (by rw [List.length_append, hl]; rfl) (fun x hx => by
        rcases List.mem_append.1 hx with hx | hx
        · exact h x hx
        · rw [List.mem_singleton] at hx
          rw [hx, Int.tmod_eq_emod_of_nonneg hr.1]
          omega)
      refine ⟨s, h1, h2, Evt.step (fun k => ?_) h3⟩
      rw [numnahlaw09_tame.l0, if_pos (by omega), if_pos (by omega), if_pos (by omega), if_pos (by omega), wr (by omega) (by omega)]
      rfl
    · refine ⟨strOfNums l, by rw [strOfNums_size]; omega, ok_nums l h, Evt.now fun k => ?_⟩
      rw [numnahlaw09_tame.l0, if_neg (by omega)]
theorem tame_ev (a0 : ByteArray) (hz : a0.size ≤ 140737488351232) (most : Nat) (hm : most ≤ 160) : ∃ s, s.size ≤ most ∧ isWordC s = true ∧ Evt (fun k => numnahlaw09_tame.f k a0 (most : Int)) s := by
  obtain ⟨s, h1, h2, h3⟩ := tame_l0 a0 hz most (by omega) most 0 [] (by omega) (by omega) rfl (by simp)
  exact ⟨s, h1, (isWordC_iff s).2 ⟨by omega, h2⟩, h3⟩
theorem mod_some (x : Int) (n : Nat) (h1 : 1 ≤ n) (h2 : n ≤ 1000000) : ∃ r : Nat, r < n ∧ numnahlaw09_mod.f x (n : Int) = some (r : Int) := by
  have e : IntKind.u64.wrap (n : Int) = n := wu (by omega) (by omega)
  have h0 : 0 ≤ IntKind.u64.wrap x := by
    simp only [IntKind.wrap, IntKind.bits, IntKind.signed]
    simp
    omega
  refine ⟨(IntKind.u64.wrap x % n).toNat, ?_, ?_⟩
  · have := Int.emod_lt_of_pos (IntKind.u64.wrap x) (show (0 : Int) < n by omega)
    have := Int.emod_nonneg (IntKind.u64.wrap x) (show (n : Int) ≠ 0 by omega)
    omega
  · have := Int.emod_lt_of_pos (IntKind.u64.wrap x) (show (0 : Int) < n by omega)
    have h3 := Int.emod_nonneg (IntKind.u64.wrap x) (show (n : Int) ≠ 0 by omega)
    rw [numnahlaw09_mod.f, e, if_neg (by omega), Int.tmod_eq_emod_of_nonneg h0, wr (by omega) (by omega), Int.toNat_of_nonneg h3]
end Go.Proofs.YtpeeflkodpnbpaaDoor.Pr

/- The law's comparison of two lists. -/
namespace Go.Proofs.YtpeeflkodpnbpaaDoor.Pr
open Go.RowKit Go.Proofs.YtpeeflkodpnbpaaDoorW.PrintWords Go.Proofs.YtpeeflkodpnbpaaDoorW.PrintLast Go.Proofs.YtpeeflkodpnbpaaDoorW.PrintMore
set_option linter.unusedVariables false
set_option linter.unusedSimpArgs false

end Go.Proofs.YtpeeflkodpnbpaaDoor.Pr

/- awake() answers true. -/
namespace Go.Proofs.YtpeeflkodpnbpaaDoor.Pr
open Go.RowKit Go.Proofs.YtpeeflkodpnbpaaDoorW.PrintWords Go.Proofs.YtpeeflkodpnbpaaDoorW.PrintLast Go.Proofs.YtpeeflkodpnbpaaDoorW.PrintMore
set_option linter.unusedVariables false
set_option maxRecDepth 1000000 in
theorem awake_run : numnahlaw09_awake.f 200 = some true := by kernel_rfl
theorem awake_ev : Evt (fun k => numnahlaw09_awake.f k) true := ⟨200, fun k hk => at_rounds (fun k => numnahlaw09_awake.mono k) hk awake_run⟩
theorem awake_bind : Evt (fun k => (numnahlaw09_awake.f k).bind fun t => some t) true := Evt.congr awake_ev (fun k => by cases numnahlaw09_awake.f k <;> rfl)
end Go.Proofs.YtpeeflkodpnbpaaDoor.Pr

namespace Go.Proofs.YtpeeflkodpnbpaaDoor.Pure
open Go.RowKit Go.Proofs.YtpeeflkodpnbpaaDoor.Pr Go.Proofs.YtpeeflkodpnbpaaDoorW.PrintWords Go.Proofs.YtpeeflkodpnbpaaDoorW.PrintLast
set_option linter.unusedVariables false
set_option linter.unusedSimpArgs false

theorem within_ev (s x : ByteArray) (hs : s.size ≤ 60) (n : Nat) (hn : x.size = n) (h : occ s x n) : Evt (fun k => numnahlaw09_within.f k s x) true := by
  obtain ⟨j, hj, hx⟩ := h
  have : ∀ (m i : Nat), i + m = j → Evt (fun k => numnahlaw09_within.l0 k s x (i : Int)) true := by
    intro m
    induction m with
    | zero =>
      intro i hi
      obtain rfl : i = j := by omega
      have w1 : Aside0 (wrap64 ((i : Int) + (x.size : Int)) = ((i + n : Nat) : Int)) := ⟨(wr (by omega) (by omega)).trans (by omega)⟩
      refine Evt.now fun k => ?_
      have e : s.extract (i : Int).toNat ((i + n : Nat) : Int).toNat = x := by rw [Int.toNat_natCast, Int.toNat_natCast]; exact hx
      rw [numnahlaw09_within.l0, w1.out, if_pos (by omega), if_pos (by omega), if_pos (by omega), e, if_pos rfl]
    | succ m ih =>
      intro i hi
      have w1 : Aside0 (wrap64 ((i : Int) + (x.size : Int)) = ((i + n : Nat) : Int)) := ⟨(wr (by omega) (by omega)).trans (by omega)⟩
      have w2 : Aside0 (wrap64 ((i : Int) + 1) = ((i + 1 : Nat) : Int)) := ⟨(wr (by omega) (by omega)).trans (by omega)⟩
      by_cases c : (s.extract (i : Int).toNat ((i + n : Nat) : Int).toNat).toList = x.toList
      · refine Evt.now fun k => ?_
        rw [numnahlaw09_within.l0, w1.out, if_pos (by omega), if_pos (by omega), if_pos (by omega), if_pos c]
      · refine Evt.step (fun k => ?_) (ih (i + 1) (by omega))
        rw [numnahlaw09_within.l0, w1.out, if_pos (by omega), if_pos (by omega), if_pos (by omega), if_neg c, w2.out]
  exact this j 0 (by omega)
theorem ParseShared : numnahlaw09_ParseShared.Pure := by
  intro a0 a1 a2
  intros
  rename_i h0 h1 h2
  apply Evt.ex
  obtain ⟨s, hs, hw, ht⟩ := tame_ev a0 h0 60 (by omega)
  obtain ⟨t, hs2, hw2, ht2⟩ := tame_ev a1 h1 60 (by omega)
  show Evt (fun k => numnahlaw09_ParseShared.f k a0 a1 a2.f0 a2.f1) true
  unfold numnahlaw09_ParseShared.f
  refine Evt.bind ht (Evt.bind ht2 ?_)
  obtain ⟨f, hf, hm⟩ := mod_some a2.f0 (s.size + 1) (by omega) (by omega)
  obtain ⟨g, hg, hm2⟩ := mod_some a2.f1 (s.size - f + 1) (by omega) (by omega)
  have w1 : Aside0 (wrap64 ((s.size : Int) + 1) = ((s.size + 1 : Nat) : Int)) := ⟨(wr (by omega) (by omega)).trans (by omega)⟩
  have w2 : Aside0 (wrap64 ((s.size : Int) - (f : Int)) = ((s.size - f : Nat) : Int)) := ⟨(wr (by omega) (by omega)).trans (by omega)⟩
  have w3 : Aside0 (wrap64 (((s.size - f : Nat) : Int) + 1) = ((s.size - f + 1 : Nat) : Int)) := ⟨(wr (by omega) (by omega)).trans (by omega)⟩
  have w4 : Aside0 (wrap64 ((f : Int) + (g : Int)) = ((f + g : Nat) : Int)) := ⟨(wr (by omega) (by omega)).trans (by omega)⟩
  have ep : s.extract (f : Int).toNat ((f + g : Nat) : Int).toNat = subAt s g f := by rw [Int.toNat_natCast, Int.toNat_natCast]; rfl
  rw [w1.out]
  refine Evt.bind (Evt.all (fun _ => hm)) ?_
  rw [w2.out, w3.out]
  refine Evt.bind (Evt.all (fun _ => hm2)) ?_
  rw [w4.out, ep]
  have hpz := subAt_size s g f (by omega)
  have hwp : isWordC (subAt s g f) = true := word_of_mem _ (by omega) (fun c hc => ok_mem s hw c (by rw [bl_sub] at hc; exact List.mem_of_mem_drop (List.mem_of_mem_take hc)))
  have e1 : parse_Common.f s t = some (comF s t (minS s t), 0) := by rw [parse_Common.f, if_pos hw, if_pos hw2]
  have e2 : parse_Common.f t s = some (comF s t (minS s t), 0) := by rw [parse_Common.f, if_pos hw2, if_pos hw, com_swap]
  have o1 : occ s s s.size := ⟨0, by omega, by
    apply bl_inj
    rw [bl_sub, List.drop_zero, List.take_of_length_le (by rw [bl_len]; omega)]⟩
  have m1 : minS s s = s.size := by unfold minS; split <;> rfl
  have e3 : parse_Common.f s s = some (s, 0) := by rw [parse_Common.f, if_pos hw, if_pos hw, m1, com_part s s (Nat.le_refl _) o1]
  have m2 : minS s (subAt s g f) = (subAt s g f).size := by unfold minS; split <;> omega
  have e4 : parse_Common.f s (subAt s g f) = some (subAt s g f, 0) := by rw [parse_Common.f, if_pos hw, if_pos hwp, m2, com_part s (subAt s g f) (by omega) (by rw [hpz]; exact ⟨f, by omega, rfl⟩)]
  have hm3 : minS s t ≤ s.size ∧ minS s t ≤ t.size := by unfold minS; split <;> omega
  obtain ⟨k, k1, k2, k3, k4⟩ := comF_occ s t (minS s t) hm3.1 hm3.2
  generalize comF s t (minS s t) = C at *
  refine Evt.pos (by omega) (Evt.pos (by omega) (Evt.pos (by omega) ?_))
  refine Evt.bind (Evt.all (fun _ => e1)) ?_
  refine Evt.bind (Evt.all (fun _ => e2)) ?_
  refine Evt.bind (Evt.all (fun _ => e3)) ?_
  refine Evt.bind (Evt.all (fun _ => e4)) ?_
  refine Evt.pos rfl (Evt.pos rfl (Evt.pos rfl (Evt.pos rfl (Evt.pos rfl (Evt.pos rfl (Evt.pos rfl ?_))))))
  refine Evt.bind (within_ev s _ hs k k2 k3) (Evt.pos rfl ?_)
  exact Evt.bind (within_ev t _ hs2 k k2 k4) (Evt.pos rfl awake_bind)
end Go.Proofs.YtpeeflkodpnbpaaDoor.Pure
