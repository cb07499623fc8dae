/- ParseCheapests, plainly: Cheapest tells a plan with the smallest cost, and this cost; Cost the cost of a plan; or the errors. -/
import Derived.Test.YtpeeflkodpnbpaaDoorPrA16
import Derived.Test.YtpeeflkodpnbpaaDoorHKeys
import Derived.Test.YtpeeflkodpnbpaaDoorHSubs
import Derived.Test.YtpeeflkodpnbpaaDoorHUnt
import Derived.Test.YtpeeflkodpnbpaaDoorHCopy
import Derived.Test.YtpeeflkodpnbpaaDoorPrB18
import Derived.Test.YtpeeflkodpnbpaaDoorPrA26
import Derived.Test.YtpeeflkodpnbpaaDoorHCheP
import Derived.Test.YtpeeflkodpnbpaaDoorPrB16
import Derived.Test.YtpeeflkodpnbpaaDoorPrA17
import Derived.Test.YtpeeflkodpnbpaaDoorPrA29
import Derived.Test.YtpeeflkodpnbpaaDoorPrA18
import Derived.Test.YtpeeflkodpnbpaaDoorPrA1
import Derived.Test.YtpeeflkodpnbpaaDoorHWord
import Derived.Test.YtpeeflkodpnbpaaDoorHSub
import Derived.Test.YtpeeflkodpnbpaaDoorPrB19
import Derived.Test.YtpeeflkodpnbpaaDoorDefParseCheapests
/- Plans for some word: areFactors, and the number of single letters. -/
namespace Go.Proofs.YtpeeflkodpnbpaaDoor.Pr
open Go.RowKit Go.Proofs.YtpeeflkodpnbpaaDoorW.PrintWords Go.Proofs.YtpeeflkodpnbpaaDoorW.PrintLast Go.Proofs.YtpeeflkodpnbpaaDoorW.PrintMore
set_option linter.unusedVariables false
set_option linter.unusedSimpArgs false

/-- a plan for some word -/
def okP : List S63 → Nat → Prop
  | [], _ => True
  | x :: l, at_ => 1 ≤ x.f1 ∧ x.f1 ≤ 160 - (at_ : Int) ∧ -1 ≤ x.f0 ∧ x.f0 < at_ ∧ (x.f0 < 0 → x.f1 = 1) ∧ okP l (at_ + x.f1.toNat)
def sgl : List S63 → Nat
  | [] => 0
  | x :: l => (if x.f0 < 0 then 1 else 0) + sgl l
/-! ### Read -/
instance okP_dec : (l : List S63) → (at_ : Nat) → Decidable (okP l at_)
  | [], _ => .isTrue trivial
  | x :: l, at_ => by
    unfold okP
    have := okP_dec l (at_ + x.f1.toNat)
    infer_instance
theorem areF_l0 (all : List S63) (hl : all.length ≤ 1000) : ∀ (l : List S63) (i at_ : Nat), all.drop i = l → at_ ≤ 160 → Evt (fun k => parse_areFactors.l0 k (at_ : Int) all (all.length : Int) (i : Int)) (decide (okP l at_))
  | [], i, at_, hi, ha => by
    have : all.length ≤ i := List.drop_eq_nil_iff.1 hi
    refine Evt.now fun k => ?_
    rw [parse_areFactors.l0, if_neg (by omega)]; rfl
  | x :: l, i, at_, hi, ha => by
    have hlt : i < all.length := by
      apply Decidable.byContradiction
      intro hn
      rw [List.drop_eq_nil_of_le (by omega)] at hi
      cases hi
    have hd := List.drop_eq_getElem_cons hlt
    rw [hi] at hd
    injection hd with h1 h2
    have e : rd_T63 all (i : Int) = x := by rw [h1]; simp [rd_T63, hlt]
    have w1 : Aside0 (wrap64 (160 - (at_ : Int)) = 160 - (at_ : Int)) := ⟨wr (by omega) (by omega)⟩
    have w2 : Aside0 (wrap64 ((at_ : Int) - 1) = (at_ : Int) - 1) := ⟨wr (by omega) (by omega)⟩
    have w3 : Aside0 (wrap64 ((i : Int) + 1) = ((i + 1 : Nat) : Int)) := ⟨(wr (by omega) (by omega)).trans (by omega)⟩
    have one : ∀ k, parse_areFactors.l0 (k + 1) (at_ : Int) all (all.length : Int) (i : Int) = ((parse_within.f x.f1 1 (160 - (at_ : Int))).bind fun t760 => (if t760 = true then ((parse_within.f x.f0 (-1) ((at_ : Int) - 1)).bind fun t761 => (if t761 = true then (if x.f0 < 0 then (if x.f1 = 1 then (parse_areFactors.l0 k (wrap64 ((at_ : Int) + x.f1)) all (all.length : Int) ((i + 1 : Nat) : Int)) else (some false)) else (parse_areFactors.l0 k (wrap64 ((at_ : Int) + x.f1)) all (all.length : Int) ((i + 1 : Nat) : Int))) else (some false))) else (some false))) := by
      intro k
      rw [parse_areFactors.l0, if_pos (by omega), if_pos (by omega), if_pos (by omega), e, w1.out, w2.out, w3.out]
    by_cases c1 : 1 ≤ x.f1 ∧ x.f1 ≤ 160 - (at_ : Int)
    · have b1 : parse_within.f x.f1 1 (160 - (at_ : Int)) = some true := by rw [parse_within.f, if_pos c1.1, decide_eq_true c1.2]
      by_cases c2 : -1 ≤ x.f0 ∧ x.f0 ≤ (at_ : Int) - 1
      · have b2 : parse_within.f x.f0 (-1) ((at_ : Int) - 1) = some true := by rw [parse_within.f, if_pos c2.1, decide_eq_true c2.2]
        have w4 : Aside0 (wrap64 ((at_ : Int) + x.f1) = ((at_ + x.f1.toNat : Nat) : Int)) := ⟨(wr (by omega) (by omega)).trans (by omega)⟩
        have ih := areF_l0 all hl l (i + 1) (at_ + x.f1.toNat) h2.symm (by omega)
        by_cases c3 : x.f0 < 0
        · by_cases c4 : x.f1 = 1
          · refine Evt.val (Evt.step (fun k => ?_) ih) ?_
            · rw [one, b1, Option.bind_some, if_pos rfl, b2, Option.bind_some, if_pos rfl, if_pos c3, if_pos c4, w4.out]
            · apply decide_eq_decide.2
              rw [okP]
              exact ⟨fun h => ⟨c1.1, c1.2, c2.1, by omega, fun _ => c4, h⟩, fun h => h.2.2.2.2.2⟩
          · refine Evt.val (Evt.now (r := false) fun k => ?_) ?_
            · rw [one, b1, Option.bind_some, if_pos rfl, b2, Option.bind_some, if_pos rfl, if_pos c3, if_neg c4]
            · symm
              apply decide_eq_false
              rw [okP]
              exact fun h => c4 (h.2.2.2.2.1 c3)
        · refine Evt.val (Evt.step (fun k => ?_) ih) ?_
          · rw [one, b1, Option.bind_some, if_pos rfl, b2, Option.bind_some, if_pos rfl, if_neg c3, w4.out]
          · apply decide_eq_decide.2
            rw [okP]
            exact ⟨fun h => ⟨c1.1, c1.2, c2.1, by omega, fun hh => absurd hh c3, h⟩, fun h => h.2.2.2.2.2⟩
      · have b2 : parse_within.f x.f0 (-1) ((at_ : Int) - 1) = some false := by
          rw [parse_within.f]
          by_cases c : x.f0 ≥ -1
          · rw [if_pos c, decide_eq_false (fun h => c2 ⟨c, h⟩)]
          · rw [if_neg c]
        refine Evt.val (Evt.now (r := false) fun k => ?_) ?_
        · rw [one, b1, Option.bind_some, if_pos rfl, b2, Option.bind_some, if_neg (by decide)]
        · symm
          apply decide_eq_false
          rw [okP]
          exact fun h => c2 ⟨h.2.2.1, by have := h.2.2.2.1; omega⟩
    · have b1 : parse_within.f x.f1 1 (160 - (at_ : Int)) = some false := by
        rw [parse_within.f]
        by_cases c : x.f1 ≥ 1
        · rw [if_pos c, decide_eq_false (fun h => c1 ⟨c, h⟩)]
        · rw [if_neg c]
      refine Evt.val (Evt.now (r := false) fun k => ?_) ?_
      · rw [one, b1, Option.bind_some, if_neg (by decide)]
      · symm
        apply decide_eq_false
        rw [okP]
        exact fun h => c1 ⟨h.1, h.2.1⟩
theorem areF_ev (l : List S63) (hl : l.length ≤ 1000) : Evt (fun k => parse_areFactors.f k l) (decide (okP l 0)) := areF_l0 l hl l 0 0 rfl (by omega)
theorem okP_mem : ∀ {l : List S63} {at_ : Nat}, okP l at_ → ∀ x, x ∈ l → (x.f0 < 0 ↔ x.f0 = -1 ∧ x.f1 = 1)
  | y :: l, at_, h, x, hx => by
    rw [okP] at h
    rcases List.mem_cons.1 hx with rfl | hx
    · exact ⟨fun c => ⟨by have := h.2.2.1; omega, h.2.2.2.2.1 c⟩, fun c => by omega⟩
    · exact okP_mem h.2.2.2.2.2 x hx
theorem sgl_snoc (x : S63) : ∀ l : List S63, sgl (l ++ [x]) = sgl l + (if x.f0 < 0 then 1 else 0)
  | [] => by simp [sgl]
  | y :: l => by rw [List.cons_append, sgl, sgl, sgl_snoc x l]; omega
theorem singN_sgl (l : List S63) (h : ∀ x, x ∈ l → (x.f0 < 0 ↔ x.f0 = -1 ∧ x.f1 = 1)) : ∀ k, k ≤ l.length → singN l k = (sgl (l.take k) : Int)
  | 0, _ => rfl
  | k + 1, hk => by
    have hlt : k < l.length := by omega
    have e : rd_T63 l (k : Int) = l[k] := by simp [rd_T63, hlt]
    rw [singN, singN_sgl l h k (by omega), e, List.take_succ_eq_append_getElem hlt, sgl_snoc]
    have := h _ (List.getElem_mem hlt)
    by_cases c : l[k].f0 < 0
    · rw [if_pos (this.1 c), if_pos c]; omega
    · rw [if_neg (fun hh => c (this.2 hh)), if_neg c]; omega
end Go.Proofs.YtpeeflkodpnbpaaDoor.Pr

/- The numbers of substrings, plainly. -/
namespace Go.Proofs.YtpeeflkodpnbpaaDoor.Pr
open Go.RowKit Go.WideMaps Go.Maps Go.Proofs.YtpeeflkodpnbpaaDoorW Go.Proofs.YtpeeflkodpnbpaaDoorW.PrintWords Go.Proofs.YtpeeflkodpnbpaaDoorW.PrintLast Go.Proofs.YtpeeflkodpnbpaaDoorW.PrintMore
set_option linter.unusedVariables false
set_option linter.unusedSimpArgs false

theorem insD_old {x : ByteArray} : ∀ {l : List ByteArray}, l.Pairwise ltS → x ∈ l → (insD x l).length = l.length
  | y :: l, h, hm => by
    have hy := List.pairwise_cons.1 h
    rw [insD]
    split
    · rename_i hlt
      have : x ∈ l := by
        rcases List.mem_cons.1 hm with rfl | hm
        · exact absurd rfl ((ltS_iff _ _).1 hlt).2
        · exact hm
      rw [List.length_cons, insD_old hy.2 this, List.length_cons]
    · split
      · rfl
      · rename_i hlt hne
        exfalso
        rcases List.mem_cons.1 hm with rfl | hm
        · exact hne rfl
        · exact hlt (hy.1 x hm)
theorem insD_new {x : ByteArray} : ∀ {l : List ByteArray}, x ∉ l → (insD x l).length = l.length + 1
  | [], _ => rfl
  | y :: l, hm => by
    rw [insD]
    split
    · rw [List.length_cons, insD_new (fun h => hm (List.mem_cons_of_mem _ h)), List.length_cons]
    · split
      · rename_i _ e
        exact absurd (e ▸ List.mem_cons_self) hm
      · rfl
theorem subG_tidy {H : Type} (s : ByteArray) (n : Nat) : ∀ k, Tidy (subG (H := H) s n k)
  | 0 => tidy_empty
  | k + 1 => (subG_tidy s n k).put (keyLit _) _
theorem size_up {H : Type} (s : ByteArray) (n : Nat) : ∀ k, Maps.size (subG (H := H) s n k) = (partsUp s n k).length
  | 0 => rfl
  | k + 1 => by
    rw [subG, size_put (subG_tidy s n k), partsUp, size_up s n k]
    by_cases h : Maps.has (subG (H := H) s n k) (keyS (subAt s n k)) = true
    · rw [if_pos h, insD_old (partsUp_sorted s n k) (mem_partsUp.2 ((subG_has s n _ k).1 h))]
    · rw [if_neg h, insD_new (fun hm => h ((subG_has s n _ k).2 (mem_partsUp.1 hm)))]
theorem subsF_eq (s : ByteArray) : ∀ m n l, subsF s m n l = l ++ (List.range m).map (fun i => (cntS s (n + i) : Int))
  | 0, n, l => by simp [subsF]
  | m + 1, n, l => by
    rw [subsF, subsF_eq s m (n + 1), List.range_succ_eq_map, List.map_cons, List.map_map, List.append_assoc]
    congr 1
    rw [List.singleton_append]
    congr 1
    apply List.map_congr_left
    intro a _
    show (cntS s (n + 1 + a) : Int) = cntS s (n + (a + 1))
    rw [show n + 1 + a = n + (a + 1) by omega]
/-! ### counting -/
theorem nodup_le {α : Type} : ∀ {l m : List α}, l.Nodup → (∀ x, x ∈ l → x ∈ m) → l.length ≤ m.length
  | [], _, _, _ => by simp
  | x :: l, m, hn, h => by
    obtain ⟨a, b, rfl⟩ := List.append_of_mem (h x List.mem_cons_self)
    have hn2 := List.nodup_cons.1 hn
    have := nodup_le (l := l) (m := a ++ b) hn2.2 (fun y hy => by
      have h1 := h y (List.mem_cons_of_mem _ hy)
      rcases List.mem_append.1 h1 with h1 | h1
      · exact List.mem_append_left _ h1
      · rcases List.mem_cons.1 h1 with e | h1
        · exact absurd (e ▸ hy) hn2.1
        · exact List.mem_append_right _ h1)
    simp only [List.length_append, List.length_cons] at this ⊢
    omega
theorem sub_zero (s : ByteArray) (j : Nat) (hj : j ≤ s.size) : subAt s 0 j = emptyB := by
  have h := subAt_size s 0 j (by omega)
  have : (subAt s 0 j).data = #[] := by
    apply Array.eq_empty_of_size_eq_zero
    exact h
  cases hh : subAt s 0 j with
  | mk a => rw [hh] at this; rw [show a = #[] from this]; rfl
/-! ### strings as lists of bytes -/
def bl (s : ByteArray) : List UInt8 := s.data.toList
theorem bl_len (s : ByteArray) : (bl s).length = s.size := Array.length_toList
theorem bl_extract (s : ByteArray) (i j : Nat) : bl (s.extract i j) = ((bl s).drop i).take (j - i) := by
  unfold bl; rw [ByteArray.data_extract, Array.toList_extract, List.extract_eq_take_drop]
theorem bl_sub (s : ByteArray) (n j : Nat) : bl (subAt s n j) = ((bl s).drop j).take n := by
  unfold subAt
  rw [bl_extract, show j + n - j = n by omega]
/-! ### one more letter; one more place -/
def ext4 : List ByteArray → List ByteArray
  | [] => []
  | t :: l => t.push 97 :: t.push 98 :: t.push 99 :: t.push 100 :: ext4 l
theorem ext4_len : ∀ l, (ext4 l).length = 4 * l.length
  | [] => rfl
  | t :: l => by simp only [ext4, List.length_cons, ext4_len l]; omega
theorem mem_ext4 {t : ByteArray} {c : UInt8} (hc : c = 97 ∨ c = 98 ∨ c = 99 ∨ c = 100) : ∀ {l : List ByteArray}, t ∈ l → t.push c ∈ ext4 l
  | x :: l, h => by
    rw [ext4]
    rcases List.mem_cons.1 h with rfl | h
    · rcases hc with rfl | rfl | rfl | rfl <;> simp
    · have := mem_ext4 hc h
      simp [this]
end Go.Proofs.YtpeeflkodpnbpaaDoor.Pr

/- Sets that touch a word: what untF says, and how many substrings there are at most. -/
namespace Go.Proofs.YtpeeflkodpnbpaaDoor.Pr
open Go.RowKit Go.Proofs.YtpeeflkodpnbpaaDoorW.PrintWords Go.Proofs.YtpeeflkodpnbpaaDoorW.PrintLast Go.Proofs.YtpeeflkodpnbpaaDoorW.PrintMore
set_option linter.unusedVariables false
set_option linter.unusedSimpArgs false

theorem cntB_mono (set : List Int) (i : Nat) : ∀ n, cntB set i ≤ cntB set (i + n)
  | 0 => Int.le_refl _
  | n + 1 => by
    have := cntB_mono set i n
    rw [← Nat.add_assoc, cntB]
    split <;> omega
theorem cntB_lt (set : List Int) (i : Nat) : ∀ n, cntB set i < cntB set (i + n) ↔ ∃ p : Nat, (p : Int) ∈ set ∧ i ≤ p ∧ p < i + n
  | 0 => by
    constructor
    · intro h; exact absurd h (by rw [Nat.add_zero]; exact Int.lt_irrefl _)
    · rintro ⟨p, _, h1, h2⟩; omega
  | n + 1 => by
    have ih := cntB_lt set i n
    have mo := cntB_mono set i n
    rw [← Nat.add_assoc, cntB]
    by_cases c : memI ((i + n : Nat) : Int) set = true
    · rw [if_pos c]
      constructor
      · intro _; exact ⟨i + n, memI_iff.1 c, by omega, by omega⟩
      · intro _; omega
    · rw [if_neg c]
      constructor
      · intro h
        obtain ⟨p, h1, h2, h3⟩ := ih.1 (by omega)
        exact ⟨p, h1, h2, by omega⟩
      · rintro ⟨p, h1, h2, h3⟩
        have hne : p ≠ i + n := fun e => c (memI_iff.2 (e ▸ h1))
        have := ih.2 ⟨p, h1, h2, by omega⟩
        omega
theorem findU_none (s : ByteArray) (set : List Int) (n : Nat) : ∀ l, findU s set n l = none ↔ ∀ t, t ∈ l → (posS s n t).any (tchP set n) = true
  | [] => by simp [findU]
  | t :: l => by
    rw [findU]
    by_cases c : (posS s n t).any (tchP set n) = true
    · rw [if_pos c, findU_none s set n l]
      constructor
      · intro h x hx
        rcases List.mem_cons.1 hx with rfl | hx
        · exact c
        · exact h x hx
      · intro h x hx; exact h x (List.mem_cons_of_mem _ hx)
    · rw [if_neg c]
      constructor
      · intro h; cases h
      · intro h; exact absurd (h t List.mem_cons_self) c
theorem untF_iff (s : ByteArray) (set : List Int) : ∀ q n, (untF s set q n).2 = false ↔ ∀ k, n ≤ k → k < n + q → ∀ t, t ∈ partsS s k → (posS s k t).any (tchP set k) = true
  | 0, n => by
    rw [untF]
    exact ⟨fun _ k h1 h2 => by omega, fun _ => rfl⟩
  | q + 1, n => by
    rw [untF]
    cases h : findU s set n (partsS s n) with
    | some t =>
      constructor
      · intro h2; cases h2
      · intro h2
        have := (findU_none s set n (partsS s n)).2 (h2 n (Nat.le_refl _) (by omega))
        rw [h] at this; cases this
    | none =>
      show (untF s set q (n + 1)).2 = false ↔ _
      rw [untF_iff s set q (n + 1)]
      have h3 := (findU_none s set n (partsS s n)).1 h
      constructor
      · intro h2 k h4 h5
        by_cases e : k = n
        · subst e; exact h3
        · exact h2 k (by omega) (by omega)
      · intro h2 k h4 h5; exact h2 k (by omega) (by omega)
theorem untF_no (s : ByteArray) (set : List Int) : ∀ q n, (untF s set q n).2 = false → (untF s set q n).1 = emptyB
  | 0, n, _ => rfl
  | q + 1, n, h => by
    rw [untF] at h ⊢
    cases hf : findU s set n (partsS s n) with
    | some t => rw [hf] at h; cases h
    | none =>
      rw [hf] at h
      exact untF_no s set q (n + 1) h

/-! ### how many substrings -/
def cand (s : ByteArray) (k : Nat) : List Int → List ByteArray
  | [] => []
  | p :: l => (List.range k).map (fun o => subAt s k (p.toNat - o)) ++ cand s k l
theorem cand_len (s : ByteArray) (k : Nat) : ∀ l, (cand s k l).length = l.length * k
  | [] => by simp [cand]
  | p :: l => by rw [cand, List.length_append, cand_len s k l, List.length_map, List.length_range, List.length_cons, Nat.succ_mul, Nat.add_comm]
theorem mem_cand (s : ByteArray) (k : Nat) {p o : Nat} (ho : o < k) : ∀ {l : List Int}, (p : Int) ∈ l → subAt s k (p - o) ∈ cand s k l
  | q :: l, h => by
    rw [cand, List.mem_append]
    rcases List.mem_cons.1 h with h | h
    · refine .inl (List.mem_map.2 ⟨o, List.mem_range.2 ho, ?_⟩)
      rw [← h, Int.toNat_natCast]
    · exact .inr (mem_cand s k ho h)
end Go.Proofs.YtpeeflkodpnbpaaDoor.Pr

/- How far two strings go together, and the longest earlier string. -/
namespace Go.Proofs.YtpeeflkodpnbpaaDoor.Pr
open Go.RowKit Go.Proofs.YtpeeflkodpnbpaaDoorW.PrintWords Go.Proofs.YtpeeflkodpnbpaaDoorW.PrintLast Go.Proofs.YtpeeflkodpnbpaaDoorW.PrintMore
set_option linter.unusedVariables false
set_option linter.unusedSimpArgs false

def btL (l : List UInt8) (i : Nat) : Int := match l[i]? with
  | some c => (c.toNat : Int)
  | none => 0
theorem bt_btL (s : ByteArray) (i : Nat) : bt s (i : Int) = btL (bl s) i := by
  unfold bt btL bl
  rw [Array.getElem?_toList]
  by_cases h : i < s.data.size
  · rw [dif_pos (by rw [Int.toNat_natCast]; exact h), Array.getElem?_eq_getElem h]
    simp only [Int.toNat_natCast]
    rfl
  · rw [dif_neg (by rw [Int.toNat_natCast]; exact h), Array.getElem?_eq_none (by omega)]
theorem ext_spec (s : ByteArray) (j i : Nat) : ∀ q n, i + n ≤ s.size → s.size ≤ i + n + q →
    n ≤ ext s j i q n ∧ i + ext s j i q n ≤ s.size ∧ (∀ m, n ≤ m → m < ext s j i q n → bt s ((j + m : Nat) : Int) = bt s ((i + m : Nat) : Int)) ∧ (i + ext s j i q n = s.size ∨ bt s ((j + ext s j i q n : Nat) : Int) ≠ bt s ((i + ext s j i q n : Nat) : Int))
  | 0, n, h1, h2 => by
    rw [ext]
    exact ⟨Nat.le_refl _, h1, fun m a b => absurd b (by omega), .inl (by omega)⟩
  | q + 1, n, h1, h2 => by
    rw [ext]
    by_cases c : i + n < s.size
    · rw [if_pos c]
      by_cases e : bt s ((j + n : Nat) : Int) = bt s ((i + n : Nat) : Int)
      · rw [if_pos e]
        obtain ⟨a1, a2, a3, a4⟩ := ext_spec s j i q (n + 1) (by omega) (by omega)
        refine ⟨by omega, a2, fun m hm1 hm2 => ?_, a4⟩
        by_cases hmn : m = n
        · subst hmn; exact e
        · exact a3 m (by omega) hm2
      · rw [if_neg e]
        exact ⟨Nat.le_refl _, h1, fun m a b => absurd b (by omega), .inr e⟩
    · rw [if_neg c]
      exact ⟨Nat.le_refl _, h1, fun m a b => absurd b (by omega), .inl (by omega)⟩
theorem earlF_max (s : ByteArray) (i : Nat) : ∀ (m f : Nat) (b : Int × Int), 1 ≤ b.2 → b.2 ≤ (earlF s i m f b).2 ∧ ∀ j, f ≤ j → j < f + m → (ext s j i s.size 0 : Int) ≤ (earlF s i m f b).2
  | 0, f, b, h => ⟨by rw [earlF]; exact Int.le_refl _, fun j h1 h2 => by omega⟩
  | m + 1, f, b, h => by
    rw [earlF]
    have hp : 1 ≤ (pick9 f (ext s f i s.size 0) b).2 ∧ b.2 ≤ (pick9 f (ext s f i s.size 0) b).2 ∧ (ext s f i s.size 0 : Int) ≤ (pick9 f (ext s f i s.size 0) b).2 := by
      generalize ext s f i s.size 0 = e
      unfold pick9
      by_cases p : 0 < e ∧ (b = ((-1 : Int), (1 : Int)) ∨ b.2 < (e : Int))
      · rw [if_pos p]
        refine ⟨by show (1 : Int) ≤ (e : Int); omega, ?_, by show (e : Int) ≤ (e : Int); omega⟩
        show b.2 ≤ (e : Int)
        rcases p.2 with p2 | p2
        · have := congrArg Prod.snd p2
          have : b.2 = 1 := this
          omega
        · omega
      · rw [if_neg p]
        refine ⟨h, Int.le_refl _, ?_⟩
        apply Decidable.byContradiction
        intro hc
        exact p ⟨by omega, .inr (by omega)⟩
    obtain ⟨a1, a2⟩ := earlF_max s i m (f + 1) _ hp.1
    refine ⟨Int.le_trans hp.2.1 a1, fun j h1 h2 => ?_⟩
    by_cases e : j = f
    · subst e; exact Int.le_trans hp.2.2 a1
    · exact a2 j (by omega) (by omega)
end Go.Proofs.YtpeeflkodpnbpaaDoor.Pr

/- The ends of the factors of the copying parse touch the word; there are at most twice as many as factors of the learning parse. -/
namespace Go.Proofs.YtpeeflkodpnbpaaDoor.Pr
open Go.RowKit Go.Proofs.YtpeeflkodpnbpaaDoorW.PrintWords Go.Proofs.YtpeeflkodpnbpaaDoorW.PrintLast Go.Proofs.YtpeeflkodpnbpaaDoorW.PrintMore
set_option linter.unusedVariables false
set_option linter.unusedSimpArgs false

theorem bt_of_sub (s : ByteArray) (k i j : Nat) (hi : i + k ≤ s.size) (hj : j + k ≤ s.size) (h : subAt s k i = subAt s k j) (m : Nat) (hm : m < k) : bt s ((i + m : Nat) : Int) = bt s ((j + m : Nat) : Int) := by
  have h1 : i + m < (bl s).length := by rw [bl_len]; omega
  have h2 : j + m < (bl s).length := by rw [bl_len]; omega
  have e : (bl (subAt s k i))[m]? = (bl (subAt s k j))[m]? := by rw [h]
  rw [bl_sub, bl_sub, List.getElem?_take, List.getElem?_take, if_pos hm, if_pos hm, List.getElem?_drop, List.getElem?_drop] at e
  rw [bt_btL, bt_btL]
  unfold btL
  rw [e]
/-- a factor is one letter, or a copy -/
def factIs (s : ByteArray) (i : Nat) (b : Int × Int) : Prop := b = (-1, 1) ∨ ∃ j, j < i ∧ 0 < ext s j i s.size 0 ∧ b = ((j : Int), (ext s j i s.size 0 : Int))
theorem earlF_is (s : ByteArray) (i : Nat) : ∀ m f b, f + m = i → factIs s i b → factIs s i (earlF s i m f b)
  | 0, _, _, _, h => h
  | m + 1, f, b, hf, h => by
    rw [earlF]
    refine earlF_is s i m (f + 1) _ (by omega) ?_
    unfold pick9
    split
    · rename_i hc
      exact .inr ⟨f, by omega, hc.1, rfl⟩
    · exact h
theorem fact_is (s : ByteArray) (i : Nat) : ((factS s i).f0, (factS s i).f1) = ((-1 : Int), (1 : Int)) ∨ ∃ j, j < i ∧ 0 < ext s j i s.size 0 ∧ (factS s i).f0 = j ∧ (factS s i).f1 = ext s j i s.size 0 := by
  rcases earlF_is s i i 0 (-1, 1) (by omega) (.inl rfl) with h | ⟨j, h1, h2, h3⟩
  · exact .inl h
  · exact .inr ⟨j, h1, h2, congrArg Prod.fst h3, congrArg Prod.snd h3⟩
theorem fact_ok (s : ByteArray) (i : Nat) (hi : i < s.size) : 1 ≤ (factS s i).f1 ∧ (i : Int) + (factS s i).f1 ≤ s.size ∧ -1 ≤ (factS s i).f0 ∧ (factS s i).f0 < i := earl_ok s i hi
theorem fact_max (s : ByteArray) (i j : Nat) (h : j < i) : (ext s j i s.size 0 : Int) ≤ (factS s i).f1 := by
  obtain ⟨_, hm⟩ := earlF_max s i i 0 (-1, 1) (by decide)
  exact hm j (by omega) (by omega)
theorem ext_ge (s : ByteArray) (j i k : Nat) (hi : i + k ≤ s.size) (h : ∀ m, m < k → bt s ((j + m : Nat) : Int) = bt s ((i + m : Nat) : Int)) : k ≤ ext s j i s.size 0 := by
  obtain ⟨_, h2, _, h4⟩ := ext_spec s j i s.size 0 (by omega) (by omega)
  apply Decidable.byContradiction
  intro hn
  rcases h4 with h4 | h4
  · omega
  · exact h4 (h _ (by omega))
/-- where the factors end -/
def endsF (s : ByteArray) : Nat → Nat → List Int
  | 0, _ => []
  | q + 1, i => if i < s.size then ((i : Int) + (factS s i).f1 - 1) :: endsF s q (i + (factS s i).f1.toNat) else []
theorem endsF_len (s : ByteArray) : ∀ q i, (endsF s q i).length = (copF s q i).length
  | 0, _ => rfl
  | q + 1, i => by
    rw [endsF, copF]
    split
    · rw [List.length_cons, List.length_cons, endsF_len s q]
    · rfl
theorem endsF_range (s : ByteArray) : ∀ q i x, x ∈ endsF s q i → (i : Int) ≤ x ∧ x < s.size
  | 0, _, x, h => by simp [endsF] at h
  | q + 1, i, x, h => by
    rw [endsF] at h
    by_cases c : i < s.size
    · rw [if_pos c] at h
      have ok := fact_ok s i c
      rcases List.mem_cons.1 h with rfl | h
      · omega
      · have := endsF_range s q _ x h
        omega
    · rw [if_neg c] at h; simp at h
theorem endsF_sorted (s : ByteArray) : ∀ q i, (endsF s q i).Pairwise (fun x y => x < y)
  | 0, _ => .nil
  | q + 1, i => by
    rw [endsF]
    by_cases c : i < s.size
    · rw [if_pos c]
      have ok := fact_ok s i c
      refine List.pairwise_cons.2 ⟨fun x hx => ?_, endsF_sorted s q _⟩
      have := endsF_range s q _ x hx
      omega
    · rw [if_neg c]; exact .nil
theorem fact_in (s : ByteArray) : ∀ q i j, s.size ≤ i + q → i ≤ j → j < s.size → ∃ a : Nat, a < s.size ∧ a ≤ j ∧ (j : Int) < a + (factS s a).f1 ∧ ((a : Int) + (factS s a).f1 - 1) ∈ endsF s q i
  | 0, i, j, hq, h1, h2 => by omega
  | q + 1, i, j, hq, h1, h2 => by
    have ci : i < s.size := by omega
    have ok := fact_ok s i ci
    rw [endsF, if_pos ci]
    by_cases c : (j : Int) < i + (factS s i).f1
    · exact ⟨i, ci, h1, c, List.mem_cons_self⟩
    · obtain ⟨a, a1, a2, a3, a4⟩ := fact_in s q (i + (factS s i).f1.toNat) j (by omega) (by omega) h2
      exact ⟨a, a1, a2, a3, List.mem_cons_of_mem _ a4⟩
/-! ### at most twice as many -/
theorem extL_known (s : ByteArray) (known : List ByteArray) (i : Nat) : ∀ q n, (n = 1 ∨ subAt s (n - 1) i ∈ known) → (extL s known i q n = 1 ∨ subAt s (extL s known i q n - 1) i ∈ known)
  | 0, n, h => h
  | q + 1, n, h => by
    rw [extL]
    split
    · rename_i hc
      exact extL_known s known i q (n + 1) (.inr (by rw [Nat.add_sub_cancel]; exact memB_iff.1 hc.2))
    · exact h
theorem cop_step (s : ByteArray) (Q p : Nat) : ∃ Q', (copF s Q p).length ≤ 1 + (copF s Q' (p + (factS s p).f1.toNat)).length := by
  cases Q with
  | zero => exact ⟨0, by simp [copF]⟩
  | succ q =>
    refine ⟨q, ?_⟩
    rw [copF]
    split
    · rw [List.length_cons]; omega
    · simp
theorem cop_two (s : ByteArray) (i n : Nat) (h1 : 1 ≤ n) (h2 : i + n ≤ s.size) (hk : n = 1 ∨ ∃ j, j < i ∧ j + (n - 1) ≤ s.size ∧ subAt s (n - 1) j = subAt s (n - 1) i) (p Q : Nat) (hp : i ≤ p) :
    ∃ p' Q', i + n ≤ p' ∧ (copF s Q p).length ≤ 2 + (copF s Q' p').length := by
  by_cases c : i + n ≤ p
  · exact ⟨p, Q, c, by omega⟩
  · have hone : ∀ Q, ∃ p' Q', i + n ≤ p' ∧ (copF s Q (i + n - 1)).length ≤ 1 + (copF s Q' p').length := by
      intro Q
      obtain ⟨Q', h⟩ := cop_step s Q (i + n - 1)
      have ok := fact_ok s (i + n - 1) (by omega)
      exact ⟨_, Q', by omega, h⟩
    by_cases c2 : p = i + n - 1
    · obtain ⟨p', Q', a, b⟩ := hone Q
      rw [← c2] at b
      exact ⟨p', Q', a, by omega⟩
    · obtain ⟨j, j1, j2, j3⟩ := hk.resolve_left (by omega)
      obtain ⟨Q', h⟩ := cop_step s Q p
      have ok := fact_ok s p (by omega)
      have hl : i + n - 1 - p ≤ ext s (j + (p - i)) p s.size 0 := by
        refine ext_ge s _ p _ (by omega) (fun m hm => ?_)
        have := bt_of_sub s (n - 1) j i j2 (by omega) j3 (p - i + m) (by omega)
        rw [show j + (p - i) + m = j + (p - i + m) by omega, this]
        congr 2
        omega
      have hm := fact_max s p (j + (p - i)) (by omega)
      by_cases c3 : i + n ≤ p + (factS s p).f1.toNat
      · exact ⟨_, Q', c3, by omega⟩
      · have e : p + (factS s p).f1.toNat = i + n - 1 := by omega
        rw [e] at h
        obtain ⟨p', Q2, a, b⟩ := hone Q'
        exact ⟨p', Q2, a, by omega⟩
theorem cop_learn (s : ByteArray) : ∀ q i known out p Q, i ≤ p → s.size ≤ i + q → (∀ x, x ∈ known → ∃ j, j < i ∧ j + x.size ≤ s.size ∧ subAt s x.size j = x) → (copF s Q p).length + 2 * out.length ≤ 2 * (learnF s q i known out).length
  | 0, i, known, out, p, Q, hp, hq, hk => by
    rw [copF_stop (by omega), learnF]; simp
  | q + 1, i, known, out, p, Q, hp, hq, hk => by
    rw [learnF]
    by_cases c : i < s.size
    · rw [if_pos c]
      have g1 := extL_ge s known i s.size 1
      have g2 := extL_le s known i s.size 1 (by omega)
      have g3 := extL_known s known i s.size 1 (.inl rfl)
      generalize extL s known i s.size 1 = n at *
      obtain ⟨p', Q', a, b⟩ := cop_two s i n g1 g2 (by
        rcases g3 with g3 | g3
        · exact .inl g3
        · obtain ⟨j, j1, j2, j3⟩ := hk _ g3
          rw [subAt_size s (n - 1) i (by omega)] at j2 j3
          exact .inr ⟨j, j1, j2, j3⟩) p Q hp
      have := cop_learn s q (i + n) (known ++ [subAt s n i]) (out ++ [⟨numK (subAt s (n - 1) i) known 0, (n : Int)⟩]) p' Q' a (by omega) (fun x hx => by
        rcases List.mem_append.1 hx with hx | hx
        · obtain ⟨j, j1, j2, j3⟩ := hk x hx
          exact ⟨j, by omega, j2, j3⟩
        · rw [List.mem_singleton] at hx
          subst hx
          have hz := subAt_size s n i g2
          exact ⟨i, by omega, by omega, by rw [hz]⟩)
      rw [List.length_append, List.length_singleton] at this
      omega
    · rw [if_neg c, copF_stop (by omega)]; simp
end Go.Proofs.YtpeeflkodpnbpaaDoor.Pr

/- Plans of a word. -/
namespace Go.Proofs.YtpeeflkodpnbpaaDoor.Pr
open Go.RowKit Go.Proofs.YtpeeflkodpnbpaaDoorW.PrintWords Go.Proofs.YtpeeflkodpnbpaaDoorW.PrintLast Go.Proofs.YtpeeflkodpnbpaaDoorW.PrintMore
set_option linter.unusedVariables false
set_option linter.unusedSimpArgs false

/-- a copy agrees with the word -/
def agr (s : ByteArray) (f a n : Nat) : Prop := ∀ k, k < n → bt s ((f + k : Nat) : Int) = bt s ((a + k : Nat) : Int)
instance (s : ByteArray) (f a n : Nat) : Decidable (agr s f a n) := by unfold agr; infer_instance
/-- from position a on, these are factors of a plan -/
def plnOk (s : ByteArray) : List S63 → Nat → Prop
  | [], a => a = s.size
  | x :: l, a => (1 ≤ x.f1 ∧ (a : Int) + x.f1 ≤ s.size ∧ -1 ≤ x.f0 ∧ x.f0 < a ∧ (x.f0 < 0 → x.f1 = 1) ∧ (0 ≤ x.f0 → agr s x.f0.toNat a x.f1.toNat)) ∧ plnOk s l (a + x.f1.toNat)
instance plnOk_dec (s : ByteArray) : (l : List S63) → (a : Nat) → Decidable (plnOk s l a)
  | [], a => by unfold plnOk; infer_instance
  | x :: l, a => by
    unfold plnOk
    have := plnOk_dec s l (a + x.f1.toNat)
    infer_instance
theorem plnOk_okP (s : ByteArray) (hs : s.size ≤ 160) : ∀ l a, plnOk s l a → okP l a
  | [], _, _ => trivial
  | x :: l, a, h => by
    rw [plnOk] at h
    rw [okP]
    obtain ⟨⟨h1, h2, h3, h4, h5, _⟩, h6⟩ := h
    exact ⟨h1, by omega, h3, h4, h5, plnOk_okP s hs l _ h6⟩
theorem agr_snoc (s : ByteArray) (f a n : Nat) : agr s f a (n + 1) ↔ agr s f a n ∧ bt s ((f + n : Nat) : Int) = bt s ((a + n : Nat) : Int) := by
  constructor
  · intro h; exact ⟨fun k hk => h k (by omega), h n (by omega)⟩
  · rintro ⟨h1, h2⟩ k hk
    by_cases e : k = n
    · subst e; exact h2
    · exact h1 k (by omega)
/-- the copying parse is a plan -/
theorem cop_plan (s : ByteArray) : ∀ q i, i ≤ s.size → s.size ≤ i + q → plnOk s (copF s q i) i
  | 0, i, h1, h2 => by rw [copF, plnOk]; omega
  | q + 1, i, h1, h2 => by
    rw [copF]
    by_cases c : i < s.size
    · rw [if_pos c, plnOk]
      have ok := fact_ok s i c
      refine ⟨⟨ok.1, ok.2.1, ok.2.2.1, ok.2.2.2, ?_, ?_⟩, cop_plan s q _ (by omega) (by omega)⟩
      · intro hn
        rcases fact_is s i with h | ⟨f, f1, f2, f3, f4⟩
        · exact congrArg Prod.snd h
        · omega
      · intro hp
        rcases fact_is s i with h | ⟨f, f1, f2, f3, f4⟩
        · have : (factS s i).f0 = -1 := congrArg Prod.fst h
          omega
        · obtain ⟨_, e2, e3, _⟩ := ext_spec s f i s.size 0 (by omega) (by omega)
          intro k hk
          have := e3 k (by omega) (by omega)
          rw [f3, Int.toNat_natCast]
          exact this
    · rw [if_neg c, plnOk]; omega
theorem copF_leq (s : ByteArray) : ∀ q i, (copF s q i).length ≤ q
  | 0, _ => by simp [copF]
  | q + 1, i => by
    rw [copF]
    split
    · rw [List.length_cons]; have := copF_leq s q (i + (factS s i).f1.toNat); omega
    · simp
end Go.Proofs.YtpeeflkodpnbpaaDoor.Pr

/- isPlan, plainly. -/
namespace Go.Proofs.YtpeeflkodpnbpaaDoor.Pr
open Go.RowKit Go.Proofs.YtpeeflkodpnbpaaDoorW.PrintWords Go.Proofs.YtpeeflkodpnbpaaDoorW.PrintLast Go.Proofs.YtpeeflkodpnbpaaDoorW.PrintMore
set_option linter.unusedVariables false
set_option linter.unusedSimpArgs false

/-- the walk over a copy -/
theorem isPl_l1 (s : ByteArray) (hs : s.size ≤ 160) (all : List S63) (i a n f : Nat) (ha : a + n ≤ s.size) (hf : f < a) (r : Bool) (h : Evt (fun k => parse_isPlan.l0 k s ((a + n : Nat) : Int) all (all.length : Int) (wrap64 ((i : Int) + 1))) r) (hno : ¬ agr s f a n → r = false) : ∀ (m k0 : Nat), k0 + m = n → agr s f a k0 →
    Evt (fun k => parse_isPlan.l1 k s (a : Int) all (all.length : Int) (i : Int) (n : Int) (k0 : Int) (f : Int) (n : Int)) r
  | 0, k0, hk, hag => by
    have w1 : Aside0 (wrap64 ((a : Int) + (n : Int)) = ((a + n : Nat) : Int)) := ⟨(wr (by omega) (by omega)).trans (by omega)⟩
    refine Evt.step (fun k => ?_) h
    rw [parse_isPlan.l1, if_neg (by omega), w1.out]
  | m + 1, k0, hk, hag => by
    have w1 : Aside0 (wrap64 ((f : Int) + (k0 : Int)) = ((f + k0 : Nat) : Int)) := ⟨(wr (by omega) (by omega)).trans (by omega)⟩
    have w2 : Aside0 (wrap64 ((a : Int) + (k0 : Int)) = ((a + k0 : Nat) : Int)) := ⟨(wr (by omega) (by omega)).trans (by omega)⟩
    have w3 : Aside0 (wrap64 ((k0 : Int) + 1) = ((k0 + 1 : Nat) : Int)) := ⟨(wr (by omega) (by omega)).trans (by omega)⟩
    by_cases c : bt s ((f + k0 : Nat) : Int) = bt s ((a + k0 : Nat) : Int)
    · refine Evt.step (fun k => ?_) (isPl_l1 s hs all i a n f ha hf r h hno m (k0 + 1) (by omega) ((agr_snoc s f a k0).2 ⟨hag, c⟩))
      rw [parse_isPlan.l1, if_pos (by omega), if_pos (by omega), w1.out, w2.out, if_pos (by omega), if_pos (by omega), if_pos (by omega), if_pos (by omega), if_pos c, w3.out]
    · have hr : r = false := hno (fun hh => c (hh k0 (by omega)))
      subst hr
      refine Evt.now fun k => ?_
      rw [parse_isPlan.l1, if_pos (by omega), if_pos (by omega), w1.out, w2.out, if_pos (by omega), if_pos (by omega), if_pos (by omega), if_pos (by omega), if_neg c]
theorem isPl_l0 (s : ByteArray) (hs : s.size ≤ 160) (all : List S63) (hall : all.length ≤ 1000) : ∀ (l : List S63) (i a : Nat), all.drop i = l → a ≤ s.size → okP l a → Evt (fun k => parse_isPlan.l0 k s (a : Int) all (all.length : Int) (i : Int)) (decide (plnOk s l a))
  | [], i, a, hi, ha, hok => by
    have : all.length ≤ i := List.drop_eq_nil_iff.1 hi
    refine Evt.now fun k => ?_
    rw [parse_isPlan.l0, if_neg (by omega)]
    congr 1
    by_cases c : a = s.size
    · rw [decide_eq_true (show plnOk s [] a from c)]; exact beq_iff_eq.2 (by omega)
    · rw [decide_eq_false (show ¬ plnOk s [] a from c)]; exact beq_eq_false_iff_ne.2 (by omega)
  | x :: l, i, a, hi, ha, hok => by
    have hlt : i < all.length := by
      apply Decidable.byContradiction
      intro hn
      rw [List.drop_eq_nil_of_le (by omega)] at hi
      cases hi
    have hd := List.drop_eq_getElem_cons hlt
    rw [hi] at hd
    injection hd with h1 h2
    have e : rd_T63 all (i : Int) = x := by rw [h1]; simp [rd_T63, hlt]
    rw [okP] at hok
    obtain ⟨o1, o2, o3, o4, o5, o6⟩ := hok
    have w1 : Aside0 (wrap64 ((a : Int) + x.f1) = (a : Int) + x.f1) := ⟨wr (by omega) (by omega)⟩
    have w2 : Aside0 (wrap64 ((i : Int) + 1) = ((i + 1 : Nat) : Int)) := ⟨(wr (by omega) (by omega)).trans (by omega)⟩
    by_cases c : (a : Int) + x.f1 > (s.size : Int)
    · refine Evt.val (Evt.now (r := false) fun k => ?_) ?_
      · rw [parse_isPlan.l0, if_pos (by omega), if_pos (by omega), if_pos (by omega), e, w1.out, if_pos c]
      · symm
        apply decide_eq_false
        rw [plnOk]
        exact fun h => by omega
    · obtain ⟨n, hn⟩ : ∃ n : Nat, x.f1 = (n : Int) := ⟨x.f1.toNat, by omega⟩
      have ih := isPl_l0 s hs all hall l (i + 1) (a + x.f1.toNat) h2.symm (by omega) o6
      have e2 : ((a + x.f1.toNat : Nat) : Int) = ((a + n : Nat) : Int) := by omega
      rw [e2] at ih
      refine Evt.step (g' := fun k => parse_isPlan.l1 k s (a : Int) all (all.length : Int) (i : Int) (n : Int) ((0 : Nat) : Int) x.f0 (n : Int)) (fun k => by rw [parse_isPlan.l0, if_pos (by omega), if_pos (by omega), if_pos (by omega), e, w1.out, if_neg c, hn]; rfl) ?_
      by_cases cf : 0 ≤ x.f0
      · obtain ⟨f, hf⟩ : ∃ f : Nat, x.f0 = (f : Int) := ⟨x.f0.toNat, by omega⟩
        rw [hf]
        by_cases hag : agr s f a n
        · refine isPl_l1 s hs all i a n f (by omega) (by omega) _ ?_ (fun hh => absurd hag hh) n 0 (by omega) (fun k hk => by omega)
          rw [w2.out]
          refine Evt.val ih ?_
          apply decide_eq_decide.2
          rw [plnOk]
          refine ⟨fun h => ⟨⟨o1, by omega, o3, o4, o5, fun _ => ?_⟩, h⟩, fun h => h.2⟩
          rw [hf, hn]; exact hag
        · have hr : decide (plnOk s (x :: l) a) = false := by
            apply decide_eq_false
            rw [plnOk]
            intro h
            have := h.1.2.2.2.2.2 cf
            rw [hf, hn] at this
            exact hag this
          rw [hr]
          have hne : ∃ k, k < n ∧ ¬ bt s ((f + k : Nat) : Int) = bt s ((a + k : Nat) : Int) := by
            apply Classical.byContradiction
            intro hc
            exact hag (fun k hk => Classical.byContradiction fun hx => hc ⟨k, hk, hx⟩)
          have key : ∀ (m k0 : Nat), k0 + m = n → (∃ k, k0 ≤ k ∧ k < n ∧ ¬ bt s ((f + k : Nat) : Int) = bt s ((a + k : Nat) : Int)) → Evt (fun k => parse_isPlan.l1 k s (a : Int) all (all.length : Int) (i : Int) (n : Int) (k0 : Int) (f : Int) (n : Int)) false := by
            intro m
            induction m with
            | zero => rintro k0 hk ⟨k, k1, k2, _⟩; omega
            | succ m ihm =>
              rintro k0 hk ⟨k, k1, k2, k3⟩
              have u1 : Aside0 (wrap64 ((f : Int) + (k0 : Int)) = ((f + k0 : Nat) : Int)) := ⟨(wr (by omega) (by omega)).trans (by omega)⟩
              have u2 : Aside0 (wrap64 ((a : Int) + (k0 : Int)) = ((a + k0 : Nat) : Int)) := ⟨(wr (by omega) (by omega)).trans (by omega)⟩
              have u3 : Aside0 (wrap64 ((k0 : Int) + 1) = ((k0 + 1 : Nat) : Int)) := ⟨(wr (by omega) (by omega)).trans (by omega)⟩
              by_cases c3 : bt s ((f + k0 : Nat) : Int) = bt s ((a + k0 : Nat) : Int)
              · have : k ≠ k0 := fun hh => k3 (by rw [hh]; exact c3)
                refine Evt.step (fun k => ?_) (ihm (k0 + 1) (by omega) ⟨k, by omega, k2, k3⟩)
                rw [parse_isPlan.l1, if_pos (by omega), if_pos (by omega), u1.out, u2.out, if_pos (by omega), if_pos (by omega), if_pos (by omega), if_pos (by omega), if_pos c3, u3.out]
              · refine Evt.now fun k => ?_
                rw [parse_isPlan.l1, if_pos (by omega), if_pos (by omega), u1.out, u2.out, if_pos (by omega), if_pos (by omega), if_pos (by omega), if_pos (by omega), if_neg c3]
          obtain ⟨k, k1, k2⟩ := hne
          exact key n 0 (by omega) ⟨k, by omega, k1, k2⟩
      · have hone : n = 1 := by have := o5 (by omega); omega
        have w5 : Aside0 (wrap64 ((a : Int) + (n : Int)) = ((a + n : Nat) : Int)) := ⟨(wr (by omega) (by omega)).trans (by omega)⟩
        have w6 : Aside0 (wrap64 (((0 : Nat) : Int) + 1) = (1 : Int)) := ⟨wr (by omega) (by omega)⟩
        refine Evt.val (Evt.step (g' := fun k => parse_isPlan.l1 k s (a : Int) all (all.length : Int) (i : Int) (n : Int) 1 x.f0 (n : Int)) (fun k => by rw [parse_isPlan.l1, if_pos (by omega), if_neg (by omega), w6.out]) (Evt.step (fun k => by rw [parse_isPlan.l1, if_neg (by omega), w5.out, w2.out]) ih)) ?_
        apply decide_eq_decide.2
        rw [plnOk]
        exact ⟨fun h => ⟨⟨o1, by omega, o3, o4, o5, fun hh => absurd hh cf⟩, h⟩, fun h => h.2⟩
theorem isPlan_ev (s : ByteArray) (hs : s.size ≤ 160) (l : List S63) (hl : l.length ≤ 1000) : Evt (fun k => parse_isPlan.f k s l) (decide (plnOk s l 0)) := by
  unfold parse_isPlan.f
  refine Evt.bind (areF_ev l hl) ?_
  by_cases c : okP l 0
  · exact Evt.pos (decide_eq_true c) (isPl_l0 s hs l hl l 0 0 rfl (by omega) c)
  · refine Evt.neg (by rw [decide_eq_false c]; decide) (Evt.all (fun _ => ?_))
    rw [decide_eq_false (fun h => c (plnOk_okP s hs l 0 h))]

end Go.Proofs.YtpeeflkodpnbpaaDoor.Pr

/- Cheapest's plan is a plan, its cost is the one told, and no plan is cheaper. -/
namespace Go.Proofs.YtpeeflkodpnbpaaDoor.Pr
open Go.RowKit Go.Proofs.YtpeeflkodpnbpaaDoorW.PrintWords Go.Proofs.YtpeeflkodpnbpaaDoorW.PrintLast Go.Proofs.YtpeeflkodpnbpaaDoorW.PrintMore
set_option linter.unusedVariables false
set_option linter.unusedSimpArgs false

/-- how long a copy at a may be -/
def lenC (s : ByteArray) (a : Nat) : Nat := if (factS s a).f0 < 0 then 0 else (factS s a).f1.toNat
theorem earlF_none (s : ByteArray) (i : Nat) : ∀ m f b, 1 ≤ b.2 → (earlF s i m f b).1 < 0 → b.1 < 0 ∧ (b = (-1, 1) → ∀ j, f ≤ j → j < f + m → ext s j i s.size 0 = 0)
  | 0, f, b, h1, h => ⟨h, fun _ j h1 h2 => by omega⟩
  | m + 1, f, b, hb, h => by
    rw [earlF] at h
    have hb2 : 1 ≤ (pick9 f (ext s f i s.size 0) b).2 := by
      unfold pick9
      split
      · rename_i hc
        show (1 : Int) ≤ (ext s f i s.size 0 : Int)
        omega
      · exact hb
    obtain ⟨g1, g2⟩ := earlF_none s i m (f + 1) _ hb2 h
    unfold pick9 at g1 g2
    by_cases p : 0 < ext s f i s.size 0 ∧ (b = ((-1 : Int), (1 : Int)) ∨ b.2 < (ext s f i s.size 0 : Int))
    · rw [if_pos p] at g1
      have : (f : Int) < 0 := g1
      omega
    · rw [if_neg p] at g1 g2
      refine ⟨g1, fun e j h1 h2 => ?_⟩
      by_cases c : j = f
      · subst c
        apply Decidable.byContradiction
        intro hn
        exact p ⟨by omega, .inl e⟩
      · exact g2 e j (by omega) (by omega)
theorem lenC_max (s : ByteArray) (a j : Nat) (h : j < a) : ext s j a s.size 0 ≤ lenC s a := by
  unfold lenC
  by_cases c : (factS s a).f0 < 0
  · rw [if_pos c]
    have := (earlF_none s a a 0 (-1, 1) (by decide) c).2 rfl j (by omega) (by omega)
    omega
  · rw [if_neg c]
    have := fact_max s a j h
    omega
theorem lenC_is (s : ByteArray) (a : Nat) : lenC s a = 0 ∨ ∃ j, j < a ∧ ext s j a s.size 0 = lenC s a ∧ (factS s a).f0 = j := by
  unfold lenC
  by_cases c : (factS s a).f0 < 0
  · exact .inl (if_pos c)
  · rw [if_neg c]
    rcases fact_is s a with h | ⟨f, f1, f2, f3, f4⟩
    · have : (factS s a).f0 = -1 := congrArg Prod.fst h
      omega
    · exact .inr ⟨f, f1, by omega, f3⟩
theorem inn_is (q F : Int) (T : List (Int × S63)) (L : Nat) (c0 : Int × S63) : ∀ r n cur, n + r ≤ L → (cur = c0 ∨ ∃ i : Nat, i < L ∧ cur = (q + (T.getD i (0, z63)).1, ⟨F, (i : Int) + 1⟩)) →
    (inn q F T r n cur = c0 ∨ ∃ i : Nat, i < L ∧ inn q F T r n cur = (q + (T.getD i (0, z63)).1, ⟨F, (i : Int) + 1⟩))
  | 0, _, cur, _, h => h
  | r + 1, n, cur, hn, h => by
    rw [inn]
    refine inn_is q F T L c0 r (n + 1) _ (by omega) ?_
    split
    · exact .inr ⟨n, by omega, rfl⟩
    · exact h
theorem inn_min (q F : Int) (T : List (Int × S63)) : ∀ r n cur i, n ≤ i → i < n + r → (inn q F T r n cur).1 ≤ q + (T.getD i (0, z63)).1
  | 0, n, cur, i, h1, h2 => by omega
  | r + 1, n, cur, i, h1, h2 => by
    rw [inn]
    by_cases e : i = n
    · subst e
      refine Int.le_trans (inn_le q F T r (i + 1) _) ?_
      split
      · exact Int.le_refl _
      · omega
    · exact inn_min q F T r (n + 1) _ i (by omega) (by omega)
/-- cost from position a on -/
def C (s : ByteArray) (p q : Int) (a : Nat) : Int := ((chp s p q s.size).getD a (0, z63)).1
def X (s : ByteArray) (p q : Int) (a : Nat) : S63 := ((chp s p q s.size).getD a (0, z63)).2
theorem C_end (s : ByteArray) (p q : Int) : C s p q s.size = 0 := by
  unfold C
  rw [chp_at s p q s.size s.size (Nat.le_refl _), Nat.sub_self]; rfl
/-- the recursion -/
theorem C_rec (s : ByteArray) (p q : Int) (a : Nat) (ha : a < s.size) : ((C s p q a = p + C s p q (a + 1) ∧ X s p q a = ⟨-1, 1⟩) ∨ ∃ n : Nat, n < lenC s a ∧ C s p q a = q + C s p q (a + n + 1) ∧ X s p q a = ⟨(factS s a).f0, (n : Int) + 1⟩) ∧
    C s p q a ≤ p + C s p q (a + 1) ∧ ∀ n, n < lenC s a → C s p q a ≤ q + C s p q (a + n + 1) := by
  obtain ⟨m, hm⟩ : ∃ m, s.size - a = m + 1 := ⟨s.size - a - 1, by omega⟩
  have ea : s.size - (m + 1) = a := by omega
  have hrest : ∀ n, a + n + 1 ≤ s.size → C s p q (a + n + 1) = ((chp s p q m).getD n (0, z63)).1 := by
    intro n hn
    unfold C
    rw [chp_at s p q s.size (a + n + 1) hn, chp_at s p q m n (by omega), show s.size - (a + n + 1) = m - n by omega]
  have hr0 := hrest 0 (by omega)
  have ok := fact_ok s a ha
  have hL : a + lenC s a ≤ s.size := by
    unfold lenC
    split <;> omega
  have hC : (chp s p q s.size).getD a (0, z63) = (if (factS s a).f0 < 0 then (p + ((chp s p q m).getD 0 (0, z63)).1, (⟨-1, 1⟩ : S63)) else inn q (factS s a).f0 (chp s p q m) (factS s a).f1.toNat 0 (p + ((chp s p q m).getD 0 (0, z63)).1, ⟨-1, 1⟩)) := by
    rw [chp_at s p q s.size a (by omega), hm, chp, getD_cons0, ea]
  have hc1 : C s p q a = ((chp s p q s.size).getD a (0, z63)).1 := rfl
  have hx1 : X s p q a = ((chp s p q s.size).getD a (0, z63)).2 := rfl
  rw [Nat.add_zero] at hr0
  by_cases c : (factS s a).f0 < 0
  · have hl0 : lenC s a = 0 := if_pos c
    rw [if_pos c] at hC
    rw [hc1, hx1, hC, hr0]
    refine ⟨.inl ⟨rfl, rfl⟩, Int.le_refl _, fun n hn => by omega⟩
  · have hl1 : lenC s a = (factS s a).f1.toNat := if_neg c
    rw [if_neg c] at hC
    rw [hc1, hx1, hC, hr0]
    rw [hl1] at hL ⊢
    refine ⟨?_, inn_le q _ _ _ _ (p + ((chp s p q m).getD 0 (0, z63)).1, ⟨-1, 1⟩), fun n hn => ?_⟩
    · rcases inn_is q (factS s a).f0 (chp s p q m) (factS s a).f1.toNat (p + ((chp s p q m).getD 0 (0, z63)).1, ⟨-1, 1⟩) (factS s a).f1.toNat 0 _ (by omega) (.inl rfl) with h | ⟨i, h1, h2⟩
      · rw [h]; exact .inl ⟨rfl, rfl⟩
      · rw [h2]
        exact .inr ⟨i, h1, by rw [hrest i (by omega)], rfl⟩
    · rw [hrest n (by omega)]
      exact inn_min q _ _ _ 0 _ n (by omega) (by omega)
/-! ### the plan -/
theorem pln_ok (s : ByteArray) (p q : Int) : ∀ k a, a ≤ s.size → s.size ≤ a + k → plnOk s (plnF (chp s p q s.size) s.size k a) a
  | 0, a, h1, h2 => by rw [plnF, plnOk]; omega
  | k + 1, a, h1, h2 => by
    rw [plnF]
    by_cases c : a < s.size
    · rw [if_pos c, plnOk]
      have fit := chp_fit s p q a c
      refine ⟨⟨fit.1, fit.2.1, fit.2.2.1, fit.2.2.2, ?_, ?_⟩, pln_ok s p q k _ (by omega) (by omega)⟩
      · intro hn
        have hn : (X s p q a).f0 < 0 := hn
        rcases (C_rec s p q a c).1 with ⟨_, h⟩ | ⟨n, h1, _, h⟩
        · show (X s p q a).f1 = 1
          rw [h]
        · rw [h] at hn
          rcases lenC_is s a with h3 | ⟨j, j1, j2, j3⟩
          · omega
          · have : (factS s a).f0 < 0 := hn
            omega
      · intro hp
        have hp : 0 ≤ (X s p q a).f0 := hp
        show agr s (X s p q a).f0.toNat a (X s p q a).f1.toNat
        rcases (C_rec s p q a c).1 with ⟨_, h⟩ | ⟨n, h1, _, h⟩
        · rw [h] at hp
          exact absurd hp (by decide)
        · rcases lenC_is s a with h3 | ⟨j, j1, j2, j3⟩
          · omega
          · obtain ⟨_, e2, e3, _⟩ := ext_spec s j a s.size 0 (by omega) (by omega)
            rw [h]
            intro i hi
            have hi : i < ((n : Int) + 1).toNat := hi
            have := e3 i (by omega) (by omega)
            show bt s (((factS s a).f0.toNat + i : Nat) : Int) = _
            rw [j3, Int.toNat_natCast]
            exact this
    · rw [if_neg c, plnOk]; omega
def costL (p q : Int) : List S63 → Int
  | [] => 0
  | x :: l => (if x.f0 < 0 then p else q) + costL p q l
theorem pln_cost (s : ByteArray) (p q : Int) : ∀ k a, a ≤ s.size → s.size ≤ a + k → costL p q (plnF (chp s p q s.size) s.size k a) = C s p q a
  | 0, a, h1, h2 => by
    rw [plnF, costL, show a = s.size by omega, C_end]
  | k + 1, a, h1, h2 => by
    rw [plnF]
    by_cases c : a < s.size
    · rw [if_pos c, costL]
      have fit := chp_fit s p q a c
      rw [pln_cost s p q k _ (by omega) (by omega)]
      have hx : ((chp s p q s.size).getD a (0, z63)).2 = X s p q a := rfl
      rw [hx]
      rcases (C_rec s p q a c).1 with ⟨h3, h⟩ | ⟨n, h3, h4, h⟩
      · rw [h, h3]
        rfl
      · rcases lenC_is s a with h5 | ⟨j, j1, j2, j3⟩
        · omega
        · rw [h, h4]
          show (if (factS s a).f0 < 0 then p else q) + C s p q (a + ((n : Int) + 1).toNat) = _
          rw [if_neg (by omega), show a + ((n : Int) + 1).toNat = a + n + 1 by omega]
    · rw [if_neg c, costL, show a = s.size by omega, C_end]
/-- no plan is cheaper -/
theorem C_least (s : ByteArray) (p q : Int) : ∀ (l : List S63) (a : Nat), plnOk s l a → C s p q a ≤ costL p q l
  | [], a, h => by
    rw [plnOk] at h
    rw [h, C_end]; exact Int.le_refl _
  | x :: l, a, h => by
    rw [plnOk] at h
    obtain ⟨⟨o1, o2, o3, o4, o5, o7⟩, o6⟩ := h
    have ih := C_least s p q l _ o6
    have hr := C_rec s p q a (by omega)
    rw [costL]
    by_cases c : x.f0 < 0
    · have h1 := o5 c
      rw [if_pos c]
      rw [h1] at ih
      have := hr.2.1
      have e : a + (1 : Int).toNat = a + 1 := rfl
      rw [e] at ih
      omega
    · rw [if_neg c]
      have hag := o7 (by omega)
      have he := ext_ge s x.f0.toNat a x.f1.toNat (by omega) hag
      have hm := lenC_max s a x.f0.toNat (by omega)
      have := hr.2.2 (x.f1.toNat - 1) (by omega)
      rw [show a + (x.f1.toNat - 1) + 1 = a + x.f1.toNat by omega] at this
      omega
theorem pln_len (s : ByteArray) (p q : Int) : ∀ k a, (plnF (chp s p q s.size) s.size k a).length ≤ k
  | 0, _ => by simp [plnF]
  | k + 1, a => by
    rw [plnF]
    split
    · rw [List.length_cons]; have := pln_len s p q k (a + ((chp s p q s.size).getD a (0, z63)).2.f1.toNat); omega
    · simp
end Go.Proofs.YtpeeflkodpnbpaaDoor.Pr

/- parse.Cost, and the references of Plan and Cost, plainly. -/
namespace Go.Proofs.YtpeeflkodpnbpaaDoor.Pr
open Go.RowKit Go.Proofs.YtpeeflkodpnbpaaDoorW.PrintWords Go.Proofs.YtpeeflkodpnbpaaDoorW.PrintLast Go.Proofs.YtpeeflkodpnbpaaDoorW.PrintMore
set_option linter.unusedVariables false
set_option linter.unusedSimpArgs false

theorem costL_eq (p q : Int) : ∀ l : List S63, costL p q l = p * (sgl l : Int) + q * ((l.length : Int) - (sgl l : Int)) ∧ sgl l ≤ l.length
  | [] => by simp [costL, sgl]
  | x :: l => by
    obtain ⟨ih, il⟩ := costL_eq p q l
    rw [costL, sgl, ih, List.length_cons]
    by_cases c : x.f0 < 0
    · rw [if_pos c, if_pos c]
      refine ⟨?_, by omega⟩
      have e1 : p * (((1 + sgl l : Nat) : Int)) = p + p * (sgl l : Int) := by
        rw [show ((1 + sgl l : Nat) : Int) = 1 + (sgl l : Int) by omega, Int.mul_add, Int.mul_one]
      have e2 : (((l.length + 1 : Nat) : Int)) - ((1 + sgl l : Nat) : Int) = (l.length : Int) - (sgl l : Int) := by omega
      rw [e1, e2]; omega
    · rw [if_neg c, if_neg c]
      refine ⟨?_, by omega⟩
      have e2 : (((l.length + 1 : Nat) : Int)) - ((0 + sgl l : Nat) : Int) = 1 + ((l.length : Int) - (sgl l : Int)) := by omega
      rw [e2, Int.mul_add, Int.mul_one, Nat.zero_add]; omega
def costR (s : ByteArray) (l : List S63) (p q : Int) : Int × Int := if isWordC s = true ∧ priceB p q = true then (if plnOk s l 0 then (costL p q l, 0) else (0, 10)) else (0, 2)
theorem cost_ev (s : ByteArray) (l : List S63) (hl : l.length ≤ 1000) (p q : Int) : Evt (fun k => parse_Cost.f k s l p q) (costR s l p q) := by
  unfold parse_Cost.f costR
  have no : Evt (fun k => parse_Cost.j0 k s l p q true) ((0 : Int), (2 : Int)) := by
    refine Evt.now fun k => ?_
    rw [parse_Cost.j0, if_pos rfl]
  refine Evt.bind (Evt.all (fun _ => show parse_isWord.f s = some (isWordC s) from rfl)) ?_
  cases hw : isWordC s with
  | false =>
    rw [if_neg (by simp)]
    exact Evt.neg (by decide) no
  | true =>
    refine Evt.pos rfl (Evt.bind (Evt.all (fun _ => isPrice_eq p q)) ?_)
    cases hpr : priceB p q with
    | false =>
      rw [if_neg (by simp)]
      exact no
    | true =>
      rw [if_pos (by simp)]
      have hs := ((isWordC_iff s).1 hw).1
      refine Evt.step (g' := fun k => (parse_isPlan.f k s l).bind fun t796 => (if t796 = true then ((parse_singles.f l).bind fun t797 => ((parse_singles.f l).bind fun t798 => (some (wrap64 ((wrap64 (p * t797)) + (wrap64 (q * (wrap64 ((l.length : Int) - t798))))), 0)))) else (some (0, 10)))) (fun k => by rw [parse_Cost.j0]; rfl) (Evt.bind (isPlan_ev s hs l hl) ?_)
      by_cases c : plnOk s l 0
      · rw [if_pos c]
        refine Evt.pos (decide_eq_true c) (Evt.all (fun _ => ?_))
        have e : parse_singles.f l = some (sgl l : Int) := by
          rw [parse_singles.f, if_pos (by omega), singN_sgl l (okP_mem (plnOk_okP s hs l 0 c)) l.length (Nat.le_refl _), List.take_length]
        obtain ⟨h1, h2⟩ := costL_eq p q l
        simp only [priceB, Bool.and_eq_true, decide_eq_true_eq] at hpr
        have m1 : 0 ≤ p * (sgl l : Int) ∧ p * (sgl l : Int) ≤ 100 * 1000 := ⟨Int.mul_nonneg (by omega) (by omega), Int.mul_le_mul (by omega) (by omega) (by omega) (by omega)⟩
        have m2 : 0 ≤ q * ((l.length : Int) - (sgl l : Int)) ∧ q * ((l.length : Int) - (sgl l : Int)) ≤ 100 * 1000 := ⟨Int.mul_nonneg (by omega) (by omega), Int.mul_le_mul (by omega) (by omega) (by omega) (by omega)⟩
        have w1 : Aside0 (wrap64 ((l.length : Int) - (sgl l : Int)) = (l.length : Int) - (sgl l : Int)) := ⟨wr (by omega) (by omega)⟩
        have w2 : Aside0 (wrap64 (p * (sgl l : Int)) = p * (sgl l : Int)) := ⟨by generalize p * (sgl l : Int) = Q at *; exact wr (by omega) (by omega)⟩
        have w3 : Aside0 (wrap64 (q * ((l.length : Int) - (sgl l : Int))) = q * ((l.length : Int) - (sgl l : Int))) := ⟨by generalize q * ((l.length : Int) - (sgl l : Int)) = Q at *; exact wr (by omega) (by omega)⟩
        rw [e, Option.bind_some, Option.bind_some, w1.out, w2.out, w3.out, h1]
        congr 2
        generalize p * (sgl l : Int) = Q1 at *
        generalize q * ((l.length : Int) - (sgl l : Int)) = Q2 at *
        exact wr (by omega) (by omega)
      · rw [if_neg c]
        exact Evt.neg (by rw [decide_eq_false c]; decide) (Evt.all (fun _ => rfl))
end Go.Proofs.YtpeeflkodpnbpaaDoor.Pr

/- The references of Plan and Cost, plainly. -/
namespace Go.Proofs.YtpeeflkodpnbpaaDoor.Pr
open Go.RowKit Go.Proofs.YtpeeflkodpnbpaaDoorW.PrintWords Go.Proofs.YtpeeflkodpnbpaaDoorW.PrintLast Go.Proofs.YtpeeflkodpnbpaaDoorW.PrintMore
set_option linter.unusedVariables false
set_option linter.unusedSimpArgs false

theorem refPl_l1 (s : ByteArray) (hs : s.size ≤ 160) (all : List S63) (i a n f : Nat) (ha : a + n ≤ s.size) (hf : f < a) (r : Bool) (h : agr s f a n → Evt (fun k => numnahref09_Plan.l0 k s all ((a + n : Nat) : Int) (wrap64 ((i : Int) + 1))) r) (hno : ¬ agr s f a n → r = false) : ∀ (m k0 : Nat), k0 + m = n → agr s f a k0 →
    Evt (fun k => numnahref09_Plan.l1 k s all (a : Int) (i : Int) (k0 : Int) (f : Int) (n : Int)) r
  | 0, k0, hk, hag => by
    have w1 : Aside0 (wrap64 ((a : Int) + (n : Int)) = ((a + n : Nat) : Int)) := ⟨(wr (by omega) (by omega)).trans (by omega)⟩
    have e : k0 = n := by omega
    refine Evt.step (g' := fun k => numnahref09_Plan.j3 k s all (a : Int) (i : Int) (k0 : Int) false (f : Int) (n : Int)) (fun k => by rw [numnahref09_Plan.l1, if_neg (by omega)]) (Evt.step (fun k => ?_) (h (e ▸ hag)))
    rw [numnahref09_Plan.j3, if_neg (by decide), w1.out]
  | m + 1, k0, hk, hag => by
    have w1 : Aside0 (wrap64 ((f : Int) + (k0 : Int)) = ((f + k0 : Nat) : Int)) := ⟨(wr (by omega) (by omega)).trans (by omega)⟩
    have w2 : Aside0 (wrap64 ((a : Int) + (k0 : Int)) = ((a + k0 : Nat) : Int)) := ⟨(wr (by omega) (by omega)).trans (by omega)⟩
    have w3 : Aside0 (wrap64 ((k0 : Int) + 1) = ((k0 + 1 : Nat) : Int)) := ⟨(wr (by omega) (by omega)).trans (by omega)⟩
    refine Evt.step (g' := fun k => numnahref09_Plan.j3 k s all (a : Int) (i : Int) (k0 : Int) true (f : Int) (n : Int)) (fun k => by rw [numnahref09_Plan.l1, if_pos (by omega), decide_eq_true (by omega)]) ?_
    by_cases c : bt s ((f + k0 : Nat) : Int) = bt s ((a + k0 : Nat) : Int)
    · refine Evt.step (fun k => ?_) (refPl_l1 s hs all i a n f ha hf r h hno m (k0 + 1) (by omega) ((agr_snoc s f a k0).2 ⟨hag, c⟩))
      rw [numnahref09_Plan.j3, if_pos rfl, w1.out, w2.out, if_pos (by omega), if_pos (by omega), if_pos (by omega), if_pos (by omega), if_pos c, w3.out]
    · have hr : r = false := hno (fun hh => c (hh k0 (by omega)))
      subst hr
      refine Evt.now fun k => ?_
      rw [numnahref09_Plan.j3, if_pos rfl, w1.out, w2.out, if_pos (by omega), if_pos (by omega), if_pos (by omega), if_pos (by omega), if_neg c]
theorem refPl_l0 (s : ByteArray) (hs : s.size ≤ 160) (all : List S63) (hall : all.length ≤ 1000) : ∀ (l : List S63) (i a : Nat), all.drop i = l → a ≤ s.size → Evt (fun k => numnahref09_Plan.l0 k s all (a : Int) (i : Int)) (decide (plnOk s l a))
  | [], i, a, hi, ha => by
    have : all.length ≤ i := List.drop_eq_nil_iff.1 hi
    refine Evt.now fun k => ?_
    rw [numnahref09_Plan.l0, if_neg (by omega)]
    congr 1
    by_cases c : a = s.size
    · rw [decide_eq_true (show plnOk s [] a from c)]; exact beq_iff_eq.2 (by omega)
    · rw [decide_eq_false (show ¬ plnOk s [] a from c)]; exact beq_eq_false_iff_ne.2 (by omega)
  | x :: l, i, a, hi, ha => by
    have hlt : i < all.length := by
      apply Decidable.byContradiction
      intro hn
      rw [List.drop_eq_nil_of_le (by omega)] at hi
      cases hi
    have hd := List.drop_eq_getElem_cons hlt
    rw [hi] at hd
    injection hd with h1 h2
    have e : rd_T63 all (i : Int) = x := by rw [h1]; simp [rd_T63, hlt]
    have w1 : Aside0 (wrap64 ((s.size : Int) - (a : Int)) = (s.size : Int) - (a : Int)) := ⟨wr (by omega) (by omega)⟩
    have w2 : Aside0 (wrap64 ((i : Int) + 1) = ((i + 1 : Nat) : Int)) := ⟨(wr (by omega) (by omega)).trans (by omega)⟩
    have bad : (¬ plnOk s (x :: l) a) → Evt (fun k => numnahref09_Plan.j1 k s all (a : Int) (i : Int) true x.f0 x.f1) (decide (plnOk s (x :: l) a)) := by
      intro hn
      rw [decide_eq_false hn]
      refine Evt.now fun k => ?_
      rw [numnahref09_Plan.j1, if_pos rfl]
    have one : ∀ k, numnahref09_Plan.l0 (k + 1) s all (a : Int) (i : Int) = (if x.f1 < 1 then (numnahref09_Plan.j1 k s all (a : Int) (i : Int) true x.f0 x.f1) else (if x.f1 > (s.size : Int) - (a : Int) then (numnahref09_Plan.j1 k s all (a : Int) (i : Int) true x.f0 x.f1) else (if x.f0 < (-1) then (numnahref09_Plan.j1 k s all (a : Int) (i : Int) true x.f0 x.f1) else (if x.f0 ≥ (a : Int) then (numnahref09_Plan.j1 k s all (a : Int) (i : Int) true x.f0 x.f1) else (if x.f0 = (-1) then (numnahref09_Plan.j1 k s all (a : Int) (i : Int) (x.f1 != 1) x.f0 x.f1) else (numnahref09_Plan.j1 k s all (a : Int) (i : Int) false x.f0 x.f1)))))) := by
      intro k
      rw [numnahref09_Plan.l0, if_pos (by omega), if_pos (by omega), e, w1.out]
    by_cases c1 : x.f1 < 1
    · exact Evt.step (fun k => by rw [one, if_pos c1]) (bad (by rw [plnOk]; exact fun h => by omega))
    · by_cases c2 : x.f1 > (s.size : Int) - (a : Int)
      · exact Evt.step (fun k => by rw [one, if_neg c1, if_pos c2]) (bad (by rw [plnOk]; exact fun h => by omega))
      · by_cases c3 : x.f0 < -1
        · exact Evt.step (fun k => by rw [one, if_neg c1, if_neg c2, if_pos c3]) (bad (by rw [plnOk]; exact fun h => by omega))
        · by_cases c4 : x.f0 ≥ (a : Int)
          · exact Evt.step (fun k => by rw [one, if_neg c1, if_neg c2, if_neg c3, if_pos c4]) (bad (by rw [plnOk]; exact fun h => by omega))
          · obtain ⟨n, hn⟩ : ∃ n : Nat, x.f1 = (n : Int) := ⟨x.f1.toNat, by omega⟩
            have ih := refPl_l0 s hs all hall l (i + 1) (a + x.f1.toNat) h2.symm (by omega)
            have e2 : ((a + x.f1.toNat : Nat) : Int) = ((a + n : Nat) : Int) := by omega
            rw [e2] at ih
            by_cases c5 : x.f0 = -1
            · by_cases c6 : x.f1 = 1
              · have hb : (x.f1 != 1) = false := bne_eq_false_iff_eq.2 c6
                have w5 : Aside0 (wrap64 ((a : Int) + x.f1) = ((a + n : Nat) : Int)) := ⟨(wr (by omega) (by omega)).trans (by omega)⟩
                refine Evt.val (Evt.step (g' := fun k => numnahref09_Plan.j1 k s all (a : Int) (i : Int) false x.f0 x.f1) (fun k => by rw [one, if_neg c1, if_neg c2, if_neg c3, if_neg c4, if_pos c5, hb]) (Evt.step (g' := fun k => numnahref09_Plan.l1 k s all (a : Int) (i : Int) 0 x.f0 x.f1) (fun k => by rw [numnahref09_Plan.j1, if_neg (by decide)]) (Evt.step (g' := fun k => numnahref09_Plan.j3 k s all (a : Int) (i : Int) 0 false x.f0 x.f1) (fun k => by rw [numnahref09_Plan.l1, if_pos (by omega), decide_eq_false (by omega)]) (Evt.step (fun k => by rw [numnahref09_Plan.j3, if_neg (by decide), w5.out, w2.out]) ih)))) ?_
                apply decide_eq_decide.2
                rw [plnOk]
                exact ⟨fun h => ⟨⟨by omega, by omega, by omega, by omega, fun _ => c6, fun hh => by omega⟩, h⟩, fun h => h.2⟩
              · have hb : (x.f1 != 1) = true := bne_iff_ne.2 c6
                exact Evt.step (fun k => by rw [one, if_neg c1, if_neg c2, if_neg c3, if_neg c4, if_pos c5, hb]) (bad (by rw [plnOk]; exact fun h => c6 (h.1.2.2.2.2.1 (by omega))))
            · obtain ⟨f, hf⟩ : ∃ f : Nat, x.f0 = (f : Int) := ⟨x.f0.toNat, by omega⟩
              refine Evt.step (g' := fun k => numnahref09_Plan.j1 k s all (a : Int) (i : Int) false x.f0 x.f1) (fun k => by rw [one, if_neg c1, if_neg c2, if_neg c3, if_neg c4, if_neg c5]) (Evt.step (g' := fun k => numnahref09_Plan.l1 k s all (a : Int) (i : Int) ((0 : Nat) : Int) (f : Int) (n : Int)) (fun k => by rw [numnahref09_Plan.j1, if_neg (by decide), hf, hn]; rfl) ?_)
              refine refPl_l1 s hs all i a n f (by omega) (by omega) _ (fun hag => ?_) (fun hag => ?_) n 0 (by omega) (fun k hk => by omega)
              · rw [w2.out]
                refine Evt.val ih ?_
                apply decide_eq_decide.2
                rw [plnOk]
                exact ⟨fun h => ⟨⟨by omega, by omega, by omega, by omega, fun hh => by omega, fun _ => by rw [hf, hn]; exact hag⟩, h⟩, fun h => h.2⟩
              · apply decide_eq_false
                rw [plnOk]
                intro h
                have := h.1.2.2.2.2.2 (by omega)
                rw [hf, hn] at this
                exact hag this
theorem refPlan_ev (s : ByteArray) (hs : s.size ≤ 160) (l : List S63) (hl : l.length ≤ 1000) : Evt (fun k => numnahref09_Plan.f k s l) (decide (plnOk s l 0)) := refPl_l0 s hs l hl l 0 0 rfl (by omega)
theorem refCost_l0 (all : List S63) (hall : all.length ≤ 1000) (p q : Int) (hp : 0 ≤ p ∧ p ≤ 100) (hq : 0 ≤ q ∧ q ≤ 100) (hm : ∀ x, x ∈ all → (x.f0 < 0 ↔ x.f0 = -1)) : ∀ (l : List S63) (i : Nat) (acc : Int), all.drop i = l → 0 ≤ acc → acc ≤ 100 * (i : Int) → Evt (fun k => numnahref09_Cost.l0 k all p q acc (i : Int)) (acc + costL p q l)
  | [], i, acc, hi, h0, h1 => by
    have : all.length ≤ i := List.drop_eq_nil_iff.1 hi
    refine Evt.now fun k => ?_
    rw [numnahref09_Cost.l0, if_neg (by omega), costL, Int.add_zero]
  | x :: l, i, acc, hi, h0, h1 => by
    have hlt : i < all.length := by
      apply Decidable.byContradiction
      intro hn
      rw [List.drop_eq_nil_of_le (by omega)] at hi
      cases hi
    have hd := List.drop_eq_getElem_cons hlt
    rw [hi] at hd
    injection hd with e1 e2
    have e : rd_T63 all (i : Int) = x := by rw [e1]; simp [rd_T63, hlt]
    have hx := hm x (by rw [e1]; exact List.getElem_mem hlt)
    have w1 : Aside0 (wrap64 (acc + p) = acc + p) := ⟨wr (by omega) (by omega)⟩
    have w2 : Aside0 (wrap64 (acc + q) = acc + q) := ⟨wr (by omega) (by omega)⟩
    have w3 : Aside0 (wrap64 ((i : Int) + 1) = ((i + 1 : Nat) : Int)) := ⟨(wr (by omega) (by omega)).trans (by omega)⟩
    rw [costL]
    by_cases c : x.f0 = -1
    · rw [if_pos (hx.2 c), ← Int.add_assoc]
      refine Evt.step (fun k => ?_) (refCost_l0 all hall p q hp hq hm l (i + 1) (acc + p) e2.symm (by omega) (by omega))
      rw [numnahref09_Cost.l0, if_pos (by omega), if_pos (by omega), e, if_pos c, w1.out, w3.out]
    · rw [if_neg (fun h => c (hx.1 h)), ← Int.add_assoc]
      refine Evt.step (fun k => ?_) (refCost_l0 all hall p q hp hq hm l (i + 1) (acc + q) e2.symm (by omega) (by omega))
      rw [numnahref09_Cost.l0, if_pos (by omega), if_pos (by omega), e, if_neg c, w2.out, w3.out]
theorem refCost_ev (s : ByteArray) (hs : s.size ≤ 160) (l : List S63) (hl : l.length ≤ 1000) (p q : Int) (hp : 0 ≤ p ∧ p ≤ 100) (hq : 0 ≤ q ∧ q ≤ 100) (h : plnOk s l 0) : Evt (fun k => numnahref09_Cost.f k l p q) (costL p q l) := by
  have hm := okP_mem (plnOk_okP s hs l 0 h)
  have := refCost_l0 l hl p q hp hq (fun x hx => ⟨fun hh => ((hm x hx).1 hh).1, fun hh => by omega⟩) l 0 0 rfl (by omega) (by omega)
  rwa [Int.zero_add] at this
end Go.Proofs.YtpeeflkodpnbpaaDoor.Pr

/- The reference of Cheapest, plainly: it is the cost of Cheapest's plan. -/
namespace Go.Proofs.YtpeeflkodpnbpaaDoor.Pr
open Go.RowKit Go.Proofs.YtpeeflkodpnbpaaDoorW.PrintWords Go.Proofs.YtpeeflkodpnbpaaDoorW.PrintLast Go.Proofs.YtpeeflkodpnbpaaDoorW.PrintMore
set_option linter.unusedVariables false
set_option linter.unusedSimpArgs false

theorem mn_spec (x y : Int) : mn x y ≤ x ∧ mn x y ≤ y ∧ (mn x y = x ∨ mn x y = y) := by unfold mn; split <;> omega
def mf (q : Int) (D : Nat → Int) : Nat → Nat → Int → Int
  | 0, _, v => v
  | r + 1, n, v => mf q D r (n + 1) (mn v (q + D n))
theorem mf_spec (q : Int) (D : Nat → Int) : ∀ r n v, mf q D r n v ≤ v ∧ (∀ i, n ≤ i → i < n + r → mf q D r n v ≤ q + D i) ∧ (mf q D r n v = v ∨ ∃ i, n ≤ i ∧ i < n + r ∧ mf q D r n v = q + D i)
  | 0, n, v => ⟨Int.le_refl _, fun i h1 h2 => by omega, .inl rfl⟩
  | r + 1, n, v => by
    obtain ⟨h1, h2, h3⟩ := mf_spec q D r (n + 1) (mn v (q + D n))
    obtain ⟨m1, m2, m3⟩ := mn_spec v (q + D n)
    rw [mf]
    refine ⟨by omega, fun i i1 i2 => ?_, ?_⟩
    · by_cases e : i = n
      · subst e; omega
      · exact h2 i (by omega) (by omega)
    · rcases h3 with h3 | ⟨i, i1, i2, i3⟩
      · rcases m3 with m3 | m3
        · exact .inl (by omega)
        · exact .inr ⟨n, by omega, by omega, by omega⟩
      · exact .inr ⟨i, by omega, by omega, i3⟩
def jf (s : ByteArray) (a : Nat) (q : Int) (D : Nat → Int) : Nat → Nat → Int → Int
  | 0, _, v => v
  | r + 1, j, v => jf s a q D r (j + 1) (mf q D (ext s j a s.size 0) 0 v)
theorem jf_spec (s : ByteArray) (a : Nat) (q : Int) (D : Nat → Int) : ∀ r j v, jf s a q D r j v ≤ v ∧ (∀ i n, j ≤ i → i < j + r → n < ext s i a s.size 0 → jf s a q D r j v ≤ q + D n) ∧ (jf s a q D r j v = v ∨ ∃ i n, j ≤ i ∧ i < j + r ∧ n < ext s i a s.size 0 ∧ jf s a q D r j v = q + D n)
  | 0, j, v => ⟨Int.le_refl _, fun i n h1 h2 => by omega, .inl rfl⟩
  | r + 1, j, v => by
    obtain ⟨h1, h2, h3⟩ := jf_spec s a q D r (j + 1) (mf q D (ext s j a s.size 0) 0 v)
    obtain ⟨m1, m2, m3⟩ := mf_spec q D (ext s j a s.size 0) 0 v
    rw [jf]
    refine ⟨by omega, fun i n i1 i2 i3 => ?_, ?_⟩
    · by_cases e : i = j
      · subst e
        have := m2 n (by omega) (by omega)
        omega
      · exact h2 i n (by omega) (by omega) i3
    · rcases h3 with h3 | ⟨i, n, i1, i2, i3, i4⟩
      · rcases m3 with m3 | ⟨n, n1, n2, n3⟩
        · exact .inl (by omega)
        · exact .inr ⟨j, n, by omega, by omega, by omega, by omega⟩
      · exact .inr ⟨i, n, by omega, by omega, i3, i4⟩
/-- position a's cost by the reference is the one told -/
theorem jf_C (s : ByteArray) (p q : Int) (a : Nat) (ha : a < s.size) : jf s a q (fun n => C s p q (a + n + 1)) a 0 (p + C s p q (a + 1)) = C s p q a := by
  obtain ⟨h1, h2, h3⟩ := jf_spec s a q (fun n => C s p q (a + n + 1)) a 0 (p + C s p q (a + 1))
  obtain ⟨r1, r2, r3⟩ := C_rec s p q a ha
  generalize jf s a q (fun n => C s p q (a + n + 1)) a 0 (p + C s p q (a + 1)) = J at *
  apply Int.le_antisymm
  · rcases r1 with ⟨e, _⟩ | ⟨n, n1, n2, _⟩
    · omega
    · rcases lenC_is s a with h | ⟨j, j1, j2, _⟩
      · omega
      · have h9 : J ≤ q + C s p q (a + n + 1) := h2 j n (by omega) (by omega) (by omega)
        omega
  · rcases h3 with h | ⟨i, n, i1, i2, i3, i4⟩
    · omega
    · have := lenC_max s a i (by omega)
      have := r3 n (by omega)
      have h9 : J = q + C s p q (a + n + 1) := i4
      omega
theorem rc_l2 (s : ByteArray) (p q : Int) (hq : 1 ≤ q ∧ q ≤ 100) (hs : s.size ≤ 160) (a j : Nat) (ha : a < s.size) (hj : j < a) (T : List (Int × S63)) (hT : T.length = s.size - a) (hb : ∀ n, 0 ≤ (T.getD n (0, z63)).1 ∧ (T.getD n (0, z63)).1 ≤ 16000) (R : Int) : ∀ (f n : Nat) (v : Int), a + n ≤ s.size → s.size ≤ a + n + f →
    Evt (fun k => numnahref09_Cheapest.l1 k s p q (s.size : Int) (List.replicate a 0 ++ (mf q (fun i => (T.getD i (0, z63)).1) (ext s j a f n - n) n v) :: T.map Prod.fst) (a : Int) ((j + 1 : Nat) : Int)) R →
    Evt (fun k => numnahref09_Cheapest.l2 k s p q (s.size : Int) (List.replicate a 0 ++ v :: T.map Prod.fst) (a : Int) (j : Int) (n : Int)) R := by
  intro f
  induction f with
  | zero =>
    intro n v h1 h2 h
    have w1 : Aside0 (wrap64 ((a : Int) + (n : Int)) = ((a + n : Nat) : Int)) := ⟨(wr (by omega) (by omega)).trans (by omega)⟩
    have w2 : Aside0 (wrap64 ((j : Int) + 1) = ((j + 1 : Nat) : Int)) := ⟨(wr (by omega) (by omega)).trans (by omega)⟩
    rw [ext, Nat.sub_self, mf] at h
    refine Evt.step (fun k => ?_) h
    rw [numnahref09_Cheapest.l2, w1.out, if_neg (by omega), w2.out]
  | succ f ih =>
    intro n v h1 h2 h
    have w1 : Aside0 (wrap64 ((a : Int) + (n : Int)) = ((a + n : Nat) : Int)) := ⟨(wr (by omega) (by omega)).trans (by omega)⟩
    have w2 : Aside0 (wrap64 ((j : Int) + 1) = ((j + 1 : Nat) : Int)) := ⟨(wr (by omega) (by omega)).trans (by omega)⟩
    have w3 : Aside0 (wrap64 ((j : Int) + (n : Int)) = ((j + n : Nat) : Int)) := ⟨(wr (by omega) (by omega)).trans (by omega)⟩
    have w4 : Aside0 (wrap64 (((a + n : Nat) : Int) + 1) = ((a + (n + 1) : Nat) : Int)) := ⟨(wr (by omega) (by omega)).trans (by omega)⟩
    have w5 : Aside0 (wrap64 ((n : Int) + 1) = ((n + 1 : Nat) : Int)) := ⟨(wr (by omega) (by omega)).trans (by omega)⟩
    rw [ext] at h
    by_cases c : a + n < s.size
    · rw [if_pos c] at h
      by_cases e : bt s ((j + n : Nat) : Int) = bt s ((a + n : Nat) : Int)
      · rw [if_pos e] at h
        obtain ⟨g1, _, _, _⟩ := ext_spec s j a f (n + 1) (by omega) (by omega)
        rw [show ext s j a f (n + 1) - n = (ext s j a f (n + 1) - (n + 1)) + 1 by omega, mf] at h
        have hbn := hb n
        have w6 : Aside0 (wrap64 (q + (T.getD n (0, z63)).1) = q + (T.getD n (0, z63)).1) := ⟨wr (by omega) (by omega)⟩
        have l1 : (List.replicate a (0 : Int) ++ v :: T.map Prod.fst).length = s.size + 1 := by simp [hT]; omega
        have e1 : rd (List.replicate a (0 : Int) ++ v :: T.map Prod.fst) ((a + (n + 1) : Nat) : Int) = (T.getD n (0, z63)).1 := by
          rw [rd_rep, getD_consS, map_getD]
        have e2 : rd (List.replicate a (0 : Int) ++ v :: T.map Prod.fst) (a : Int) = v := by
          have := rd_rep a 0 0 (v :: T.map Prod.fst)
          rw [Nat.add_zero] at this
          rw [this]; rfl
        refine Evt.step (fun k => ?_) (ih (n + 1) _ (by omega) (by omega) h)
        rw [numnahref09_Cheapest.l2, w1.out, w3.out, if_pos (by omega), if_pos (by omega), if_pos (by omega), if_pos (by omega), if_pos (by omega), if_pos e, if_pos (by omega), if_pos (by rw [l1]; omega), w4.out, if_pos (by omega), if_pos (by rw [l1]; omega), e1, e2, w6.out, w5.out, Int.toNat_natCast, set_rep2]
      · rw [if_neg e, Nat.sub_self, mf] at h
        refine Evt.step (fun k => ?_) h
        rw [numnahref09_Cheapest.l2, w1.out, w3.out, if_pos (by omega), if_pos (by omega), if_pos (by omega), if_pos (by omega), if_pos (by omega), if_neg e, w2.out]
    · rw [if_neg c, Nat.sub_self, mf] at h
      refine Evt.step (fun k => ?_) h
      rw [numnahref09_Cheapest.l2, w1.out, if_neg (by omega), w2.out]
theorem rc_l1 (s : ByteArray) (p q : Int) (hq : 1 ≤ q ∧ q ≤ 100) (hs : s.size ≤ 160) (a : Nat) (ha : a < s.size) (T : List (Int × S63)) (hT : T.length = s.size - a) (hb : ∀ n, 0 ≤ (T.getD n (0, z63)).1 ∧ (T.getD n (0, z63)).1 ≤ 16000) (R : Int) : ∀ (r j : Nat) (v : Int), j + r = a →
    Evt (fun k => numnahref09_Cheapest.l0 k s p q (s.size : Int) (List.replicate a 0 ++ (jf s a q (fun i => (T.getD i (0, z63)).1) r j v) :: T.map Prod.fst) ((a : Int) - 1)) R →
    Evt (fun k => numnahref09_Cheapest.l1 k s p q (s.size : Int) (List.replicate a 0 ++ v :: T.map Prod.fst) (a : Int) (j : Int)) R
  | 0, j, v, hj, h => by
    have w1 : Aside0 (wrap64 ((a : Int) - 1) = (a : Int) - 1) := ⟨wr (by omega) (by omega)⟩
    rw [jf] at h
    refine Evt.step (fun k => ?_) h
    rw [numnahref09_Cheapest.l1, if_neg (by omega), w1.out]
  | r + 1, j, v, hj, h => by
    rw [jf] at h
    refine Evt.step (g' := fun k => numnahref09_Cheapest.l2 k s p q (s.size : Int) (List.replicate a 0 ++ v :: T.map Prod.fst) (a : Int) (j : Int) ((0 : Nat) : Int)) (fun k => by rw [numnahref09_Cheapest.l1, if_pos (by omega)]; rfl) ?_
    refine rc_l2 s p q hq hs a j ha (by omega) T hT hb R s.size 0 v (by omega) (by omega) ?_
    rw [Nat.sub_zero]
    exact rc_l1 s p q hq hs a ha T hT hb R r (j + 1) _ (by omega) h
theorem rc_l0 (s : ByteArray) (p q : Int) (hp : 1 ≤ p ∧ p ≤ 100) (hq : 1 ≤ q ∧ q ≤ 100) (hs : s.size ≤ 160) : ∀ (a m : Nat), a + m = s.size →
    Evt (fun k => numnahref09_Cheapest.l0 k s p q (s.size : Int) (List.replicate a 0 ++ (chp s p q m).map Prod.fst) ((a : Int) - 1)) (C s p q 0)
  | 0, m, hm => by
    obtain rfl : m = s.size := by omega
    have hl := chp_len s p q s.size
    have e : rd ((chp s p q s.size).map Prod.fst) 0 = C s p q 0 := map_getD _ 0
    refine Evt.now fun k => ?_
    show numnahref09_Cheapest.l0 (k + 1) s p q (s.size : Int) ((chp s p q s.size).map Prod.fst) (((0 : Nat) : Int) - 1) = _
    rw [numnahref09_Cheapest.l0, if_neg (by omega), if_pos (by rw [List.length_map]; omega), e]
  | a + 1, m, hm => by
    have ih := rc_l0 s p q hp hq hs a (m + 1) (by omega)
    have hl := chp_len s p q m
    have hb := chp_bd s p q ⟨by omega, hp.2⟩ (by omega) m
    have hb0 := hb 0
    have hh := jf_C s p q a (by omega)
    have hC : ∀ n, a + n + 1 ≤ s.size → C s p q (a + n + 1) = ((chp s p q m).getD n (0, z63)).1 := by
      intro n hn
      unfold C
      rw [chp_at s p q s.size (a + n + 1) hn, chp_at s p q m n (by omega), show s.size - (a + n + 1) = m - n by omega]
    have hCa : ((chp s p q (m + 1)).map Prod.fst) = C s p q a :: (chp s p q m).map Prod.fst := by
      have h1 : C s p q a = ((chp s p q (m + 1)).getD 0 (0, z63)).1 := by
        unfold C
        rw [chp_at s p q s.size a (by omega), show s.size - a = m + 1 by omega]
      rw [h1, chp, List.map_cons]
      rfl
    have hD : ∀ r j v, j + r ≤ a → jf s a q (fun n => C s p q (a + n + 1)) r j v = jf s a q (fun i => ((chp s p q m).getD i (0, z63)).1) r j v := by
      have hm2 : ∀ r n v, a + n + r ≤ s.size → mf q (fun n => C s p q (a + n + 1)) r n v = mf q (fun i => ((chp s p q m).getD i (0, z63)).1) r n v := by
        intro r
        induction r with
        | zero => intro n v _; rfl
        | succ r ihr =>
          intro n v hn
          rw [mf, mf, hC n (by omega), ihr (n + 1) _ (by omega)]
      intro r
      induction r with
      | zero => intro j v _; rfl
      | succ r ihr =>
        intro j v hj
        have := ext_le s j a s.size 0 (by omega)
        rw [jf, jf, hm2 _ 0 v (by omega), ihr (j + 1) _ (by omega)]
    rw [hD a 0 _ (by omega)] at hh
    have hC0 := hC 0 (by omega)
    rw [Nat.add_zero] at hC0
    rw [hC0] at hh
    rw [hCa, ← hh] at ih
    generalize chp s p q m = T at *
    have w0 : ((a + 1 : Nat) : Int) - 1 = (a : Int) := by omega
    have w1 : Aside0 (wrap64 ((a : Int) + 1) = ((a + 1 : Nat) : Int)) := ⟨(wr (by omega) (by omega)).trans (by omega)⟩
    have w2 : Aside0 (wrap64 (p + (T.getD 0 (0, z63)).1) = p + (T.getD 0 (0, z63)).1) := ⟨wr (by omega) (by omega)⟩
    have l1 : (List.replicate (a + 1) (0 : Int) ++ T.map Prod.fst).length = s.size + 1 := by simp [hl]; omega
    have e1 : rd (List.replicate (a + 1) (0 : Int) ++ T.map Prod.fst) ((a + 1 : Nat) : Int) = (T.getD 0 (0, z63)).1 := by
      have := rd_rep (a + 1) 0 0 (T.map Prod.fst)
      rw [Nat.add_zero] at this
      rw [this, map_getD]
    rw [w0]
    refine Evt.step (g' := fun k => numnahref09_Cheapest.l1 k s p q (s.size : Int) (List.replicate a 0 ++ (p + (T.getD 0 (0, z63)).1) :: T.map Prod.fst) (a : Int) ((0 : Nat) : Int)) (fun k => ?_) (rc_l1 s p q hq hs a (by omega) T (by omega) (fun n => by have := hb n; omega) _ a 0 _ (by omega) ih)
    rw [numnahref09_Cheapest.l0, if_pos (by omega), w1.out, if_pos (by omega), if_pos (by rw [l1]; omega), if_pos (by omega), if_pos (by rw [l1]; omega), e1, w2.out, Int.toNat_natCast, set_rep]
    rfl
theorem refCheapest_ev (s : ByteArray) (hs : s.size ≤ 160) (p q : Int) (hp : 1 ≤ p ∧ p ≤ 100) (hq : 1 ≤ q ∧ q ≤ 100) : Evt (fun k => numnahref09_Cheapest.f k s p q) (C s p q 0) := by
  have main := rc_l0 s p q hp hq hs s.size 0 (by omega)
  have w1 : Aside0 (wrap64 ((s.size : Int) + 1) = ((s.size + 1 : Nat) : Int)) := ⟨(wr (by omega) (by omega)).trans (by omega)⟩
  have w2 : Aside0 (wrap64 ((s.size : Int) - 1) = (s.size : Int) - 1) := ⟨wr (by omega) (by omega)⟩
  refine Evt.congr main (fun k => ?_)
  rw [numnahref09_Cheapest.f, w1.out, w2.out, if_pos (by omega), Int.toNat_natCast, if_pos (by omega), List.replicate_succ']
  rfl
end Go.Proofs.YtpeeflkodpnbpaaDoor.Pr

/- The reference's test of a word, plainly; two small facts. -/
namespace Go.Proofs.YtpeeflkodpnbpaaDoor.Pr
open Go.RowKit Go.Proofs.YtpeeflkodpnbpaaDoorW.PrintWords Go.Proofs.YtpeeflkodpnbpaaDoorW.PrintLast Go.Proofs.YtpeeflkodpnbpaaDoorW.PrintMore
set_option linter.unusedVariables false
set_option linter.unusedSimpArgs false

theorem bt_get (s : ByteArray) (i : Nat) (h : i < s.size) : bt s (i : Int) = ((s.get! i).toNat : Int) := by
  unfold bt
  rw [dif_pos (by simpa using h)]
  have : s.get! i = s[i] := by
    cases s with
    | mk a =>
      have h' : i < a.size := h
      simp [ByteArray.get!, h']
      rfl
  rw [this]
  simp
theorem word_good (s : ByteArray) (hs : s.size ≤ 1000) : ∀ (m i : Nat), i + m = s.size → (∀ j, i ≤ j → j < s.size → okAt s j) → Evt (fun k => numnahref09_Word.l0 k s (i : Int)) (decide ((s.size : Int) ≤ 160))
  | 0, i, hi, _ => by
    refine Evt.now fun k => ?_
    rw [numnahref09_Word.l0, if_neg (by omega)]
  | m + 1, i, hi, h => by
    have ih := word_good s hs m (i + 1) (by omega) (fun j h1 h2 => h j (by omega) h2)
    have ok := h i (Nat.le_refl _) (by omega)
    have hb := bt_get s i (by omega)
    refine Evt.step (g' := fun k => numnahref09_Word.l0 k s ((i + 1 : Nat) : Int)) (fun k => ?_) ih
    rw [numnahref09_Word.l0, if_pos (by omega), if_pos (by omega), if_neg (by rw [hb]; have := ok.1; omega), if_neg (by rw [hb]; have := ok.2; omega), wr (by omega) (by omega)]
    rfl
theorem word_bad (s : ByteArray) (hs : s.size ≤ 1000) : ∀ (m i : Nat), i + m = s.size → (∃ j, i ≤ j ∧ j < s.size ∧ ¬ okAt s j) → Evt (fun k => numnahref09_Word.l0 k s (i : Int)) false
  | 0, i, hi, ⟨j, h1, h2, _⟩ => by omega
  | m + 1, i, hi, h => by
    have hb := bt_get s i (by omega)
    by_cases c1 : bt s (i : Int) < 97
    · refine Evt.now fun k => ?_
      rw [numnahref09_Word.l0, if_pos (by omega), if_pos (by omega), if_pos c1]
    · by_cases c2 : bt s (i : Int) > 100
      · refine Evt.now fun k => ?_
        rw [numnahref09_Word.l0, if_pos (by omega), if_pos (by omega), if_neg c1, if_pos c2]
      · obtain ⟨j, h1, h2, h3⟩ := h
        have hne : j ≠ i := fun e => h3 (by rw [e]; unfold okAt; rw [hb] at c1 c2; omega)
        refine Evt.step (g' := fun k => numnahref09_Word.l0 k s ((i + 1 : Nat) : Int)) (fun k => ?_) (word_bad s hs m (i + 1) (by omega) ⟨j, by omega, h2, h3⟩)
        rw [numnahref09_Word.l0, if_pos (by omega), if_pos (by omega), if_neg c1, if_neg c2, wr (by omega) (by omega)]
        rfl
theorem word_ev (s : ByteArray) (hs : s.size ≤ 1000) : Evt (fun k => numnahref09_Word.f k s) (isWordC s) := by
  by_cases h : ∀ j, j < s.size → okAt s j
  · have := word_good s hs s.size 0 (by omega) (fun j _ hj => h j hj)
    refine Evt.val this ?_
    cases hc : isWordC s with
    | true => exact decide_eq_true (by have := ((isWordC_iff s).1 hc).1; omega)
    | false => exact decide_eq_false (fun hh => by
        have : isWordC s = true := (isWordC_iff s).2 ⟨by omega, h⟩
        rw [hc] at this; cases this)
  · have ⟨j, hj, hn⟩ : ∃ j, j < s.size ∧ ¬ okAt s j := by
      apply Classical.byContradiction
      intro hc
      exact h fun j hj => Classical.byContradiction fun hk => hc ⟨j, hj, hk⟩
    refine Evt.val (word_bad s hs s.size 0 (by omega) ⟨j, by omega, hj, hn⟩) ?_
    cases hc : isWordC s with
    | false => rfl
    | true => exact absurd (((isWordC_iff s).1 hc).2 j hj) hn
end Go.Proofs.YtpeeflkodpnbpaaDoor.Pr

/- awake() answers true. -/
namespace Go.Proofs.YtpeeflkodpnbpaaDoor.Pr
open Go.RowKit Go.Proofs.YtpeeflkodpnbpaaDoorW.PrintWords Go.Proofs.YtpeeflkodpnbpaaDoorW.PrintLast Go.Proofs.YtpeeflkodpnbpaaDoorW.PrintMore
set_option linter.unusedVariables false
set_option maxRecDepth 1000000 in
theorem awake_run : numnahlaw09_awake.f 200 = some true := by kernel_rfl
theorem awake_ev : Evt (fun k => numnahlaw09_awake.f k) true := ⟨200, fun k hk => at_rounds (fun k => numnahlaw09_awake.mono k) hk awake_run⟩
theorem awake_bind : Evt (fun k => (numnahlaw09_awake.f k).bind fun t => some t) true := Evt.congr awake_ev (fun k => by cases numnahlaw09_awake.f k <;> rfl)
/-- short(s): at most 161 bytes -/
def shortS (s : ByteArray) : ByteArray := s.extract 0 (min s.size 161)
theorem shortS_size (s : ByteArray) : (shortS s).size ≤ 161 := by unfold shortS; rw [ByteArray.size_extract]; omega
theorem short_some (s : ByteArray) : numnahlaw09_short.f s = some (shortS s) := by
  unfold numnahlaw09_short.f mn
  by_cases h : (161 : Int) < (s.size : Int)
  · rw [if_pos h, if_pos (by omega), if_pos (by omega)]
    congr 1
    unfold shortS
    congr 1
    omega
  · rw [if_neg h, if_pos (by omega), if_pos (by omega)]
    congr 1
    unfold shortS
    congr 1
    omega
end Go.Proofs.YtpeeflkodpnbpaaDoor.Pr

namespace Go.Proofs.YtpeeflkodpnbpaaDoor.Pure
open Go.RowKit Go.Proofs.YtpeeflkodpnbpaaDoor.Pr Go.Proofs.YtpeeflkodpnbpaaDoorW.PrintWords Go.Proofs.YtpeeflkodpnbpaaDoorW.PrintLast
set_option linter.unusedVariables false
set_option linter.unusedSimpArgs false

theorem plan_some (l : List S63) : numnahlaw09_plan.f l = some (l.take 161) := by
  have e : (mn (l.length : Int) 161).toNat = min l.length 161 := by unfold mn; split <;> omega
  have e0 : 0 ≤ mn (l.length : Int) 161 := by unfold mn; split <;> omega
  have e1 : mn (l.length : Int) 161 ≤ (l.length : Int) := by unfold mn; split <;> omega
  rw [numnahlaw09_plan.f, if_pos e0, if_pos e1, e, Option.bind_some, if_pos (by rw [List.length_take]; simp; omega), List.nil_append]
  congr 1
  exact List.take_eq_take_iff.2 (by omega)
theorem ch_no (s : ByteArray) (l : List S63) (p q : Int) : Evt (fun k => numnahlaw09_ParseCheapests.j0 k s l p q [] 0 2 0 2 true) true := by
  refine Evt.step (fun k => ?_) awake_bind
  rw [numnahlaw09_ParseCheapests.j0, if_pos rfl, if_pos (show (([] : List S63).length : Int) = 0 from rfl), if_pos rfl, if_pos rfl, if_pos rfl, if_pos rfl]
theorem ParseCheapests : numnahlaw09_ParseCheapests.Pure := by
  intro a0 l1 a2
  intros
  apply Evt.ex
  have hsz := shortS_size a0
  have hw := word_ev (shortS a0) (by omega)
  show Evt (fun k => numnahlaw09_ParseCheapests.f k a0 l1 a2.f0 a2.f1) true
  unfold numnahlaw09_ParseCheapests.f
  refine Evt.bind (Evt.all (fun _ => short_some a0)) (Evt.bind (Evt.all (fun _ => plan_some l1)) ?_)
  generalize shortS a0 = s at *
  have hl : (l1.take 161).length ≤ 161 := by rw [List.length_take]; omega
  generalize l1.take 161 = l at *
  generalize a2.f0 = p
  generalize a2.f1 = q
  have hc := cost_ev s l (by omega) p q
  have e1 : parse_Cheapest.f s p q = some (cheapR s p q) := rfl
  refine Evt.bind (Evt.all (fun _ => e1)) (Evt.bind hc (Evt.bind hw ?_))
  have no : ¬ (isWordC s = true ∧ priceB p q = true) → cheapR s p q = ([], 0, 2) ∧ costR s l p q = (0, 2) := fun h => ⟨by unfold cheapR; rw [if_neg h], by unfold costR; rw [if_neg h]⟩
  have hpb : priceB p q = true ↔ (1 ≤ p ∧ p ≤ 100) ∧ (1 ≤ q ∧ q ≤ 100) := by simp only [priceB, Bool.and_eq_true, decide_eq_true_eq]
  cases hwc : isWordC s with
  | false =>
    obtain ⟨n1, n2⟩ := no (by rw [hwc]; simp)
    rw [n1, n2]
    exact Evt.neg (by decide) (ch_no s l p q)
  | true =>
    refine Evt.pos rfl ?_
    by_cases c1 : p < 1
    · obtain ⟨n1, n2⟩ := no (by rw [hpb]; omega)
      rw [n1, n2]
      exact Evt.pos c1 (ch_no s l p q)
    · by_cases c2 : p > 100
      · obtain ⟨n1, n2⟩ := no (by rw [hpb]; omega)
        rw [n1, n2]
        exact Evt.neg c1 (Evt.pos c2 (ch_no s l p q))
      · by_cases c3 : q < 1
        · obtain ⟨n1, n2⟩ := no (by rw [hpb]; omega)
          rw [n1, n2]
          exact Evt.neg c1 (Evt.neg c2 (Evt.pos c3 (ch_no s l p q)))
        · by_cases c4 : q > 100
          · obtain ⟨n1, n2⟩ := no (by rw [hpb]; omega)
            rw [n1, n2, decide_eq_true c4]
            exact Evt.neg c1 (Evt.neg c2 (Evt.neg c3 (ch_no s l p q)))
          · have hs := ((isWordC_iff s).1 hwc).1
            have hpr : priceB p q = true := hpb.2 (by omega)
            have x1 : cheapR s p q = (plnF (chp s p q s.size) s.size s.size 0, C s p q 0, 0) := by unfold cheapR; rw [if_pos ⟨hwc, hpr⟩]; rfl
            have x2 : costR s l p q = (if plnOk s l 0 then (costL p q l, 0) else (0, 10)) := by unfold costR; rw [if_pos ⟨hwc, hpr⟩]
            have p2 := pln_ok s p q s.size 0 (by omega) (by omega)
            have l2 := pln_len s p q s.size 0
            have hcost := pln_cost s p q s.size 0 (by omega) (by omega)
            have rch := refCheapest_ev s hs p q (by omega) (by omega)
            obtain ⟨K, hK⟩ : ∃ K, costR s l p q = K := ⟨_, rfl⟩
            rw [x1, hK, decide_eq_false c4]
            rw [hK] at x2
            refine Evt.neg c1 (Evt.neg c2 (Evt.neg c3 ?_))
            generalize plnF (chp s p q s.size) s.size s.size 0 = x at *
            have rpl := refPlan_ev s hs x (by omega)
            rw [decide_eq_true p2] at rpl
            have rco := refCost_ev s hs x (by omega) p q (by omega) (by omega) p2
            rw [hcost] at rco
            have rpl2 := refPlan_ev s hs l (by omega)
            have fin : Evt (fun k => numnahlaw09_ParseCheapests.j1 k s l p q K.1 K.2 false) true := by
              by_cases c : plnOk s l 0
              · rw [if_pos c] at x2
                subst x2
                rw [decide_eq_true c] at rpl2
                have rco2 := refCost_ev s hs l (by omega) p q (by omega) (by omega) c
                refine Evt.step (g' := fun k => (numnahref09_Plan.f k s l).bind fun t828 => (if t828 = true then ((numnahref09_Cost.f k l p q).bind fun t829 => (if costL p q l = t829 then (if (0 : Int) = 0 then ((numnahlaw09_awake.f k).bind fun t830 => (some t830)) else (some false)) else (some false))) else (if costL p q l = 0 then (if (0 : Int) = 10 then ((numnahlaw09_awake.f k).bind fun t831 => (some t831)) else (some false)) else (some false)))) (fun k => by rw [numnahlaw09_ParseCheapests.j1, if_neg (by decide)]) ?_
                exact Evt.bind rpl2 (Evt.pos rfl (Evt.bind rco2 (Evt.pos rfl (Evt.pos rfl awake_bind))))
              · rw [if_neg c] at x2
                subst x2
                rw [decide_eq_false c] at rpl2
                refine Evt.step (g' := fun k => (numnahref09_Plan.f k s l).bind fun t828 => (if t828 = true then ((numnahref09_Cost.f k l p q).bind fun t829 => (if (0 : Int) = t829 then (if (10 : Int) = 0 then ((numnahlaw09_awake.f k).bind fun t830 => (some t830)) else (some false)) else (some false))) else (if (0 : Int) = 0 then (if (10 : Int) = 10 then ((numnahlaw09_awake.f k).bind fun t831 => (some t831)) else (some false)) else (some false)))) (fun k => by rw [numnahlaw09_ParseCheapests.j1, if_neg (by decide)]) ?_
                exact Evt.bind rpl2 (Evt.neg (by decide) (Evt.pos rfl (Evt.pos rfl awake_bind)))
            refine Evt.step (g' := fun k => (numnahref09_Plan.f k s x).bind fun t825 => (if t825 = true then ((numnahref09_Cheapest.f k s p q).bind fun t826 => (if C s p q 0 = t826 then ((numnahref09_Cost.f k x p q).bind fun t827 => (if t827 = C s p q 0 then (numnahlaw09_ParseCheapests.j1 k s l p q K.1 K.2 ((0 : Int) != 0)) else (numnahlaw09_ParseCheapests.j1 k s l p q K.1 K.2 true))) else (numnahlaw09_ParseCheapests.j1 k s l p q K.1 K.2 true))) else (numnahlaw09_ParseCheapests.j1 k s l p q K.1 K.2 true))) (fun k => by rw [numnahlaw09_ParseCheapests.j0, if_neg (by decide)]) ?_
            exact Evt.bind rpl (Evt.pos rfl (Evt.bind rch (Evt.pos rfl (Evt.bind rco (Evt.pos rfl fin)))))
end Go.Proofs.YtpeeflkodpnbpaaDoor.Pure
