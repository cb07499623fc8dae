/- ParseGreedy, plainly: with p = q = 1 the copying parse is a cheapest plan, its cost is its number of factors, and no plan is cheaper than a cheapest one. -/
import Derived.Test.YtpeeflkodpnbpaaDoorHSing
import Derived.Test.YtpeeflkodpnbpaaDoorHEv
import Derived.Test.YtpeeflkodpnbpaaDoorPrA16
import Derived.Test.YtpeeflkodpnbpaaDoorHKeys
import Derived.Test.YtpeeflkodpnbpaaDoorHSubs
import Derived.Test.YtpeeflkodpnbpaaDoorHUnt
import Derived.Test.YtpeeflkodpnbpaaDoorHCopy
import Derived.Test.YtpeeflkodpnbpaaDoorHLearn
import Derived.Test.YtpeeflkodpnbpaaDoorPrA26
import Derived.Test.YtpeeflkodpnbpaaDoorHCheP
import Derived.Test.YtpeeflkodpnbpaaDoorPrB16
import Derived.Test.YtpeeflkodpnbpaaDoorPrB19
import Derived.Test.YtpeeflkodpnbpaaDoorPrB25
import Derived.Test.YtpeeflkodpnbpaaDoorHTame
/- Plans for some word: areFactors, and the number of single letters. -/
namespace Go.Proofs.YtpeeflkodpnbpaaDoor.Pr
open Go.RowKit Go.Proofs.YtpeeflkodpnbpaaDoorW.PrintWords Go.Proofs.YtpeeflkodpnbpaaDoorW.PrintLast Go.Proofs.YtpeeflkodpnbpaaDoorW.PrintMore
set_option linter.unusedVariables false
set_option linter.unusedSimpArgs false

/-- a plan for some word -/
def okP : List S63 → Nat → Prop
  | [], _ => True
  | x :: l, at_ => 1 ≤ x.f1 ∧ x.f1 ≤ 160 - (at_ : Int) ∧ -1 ≤ x.f0 ∧ x.f0 < at_ ∧ (x.f0 < 0 → x.f1 = 1) ∧ okP l (at_ + x.f1.toNat)
def sgl : List S63 → Nat
  | [] => 0
  | x :: l => (if x.f0 < 0 then 1 else 0) + sgl l
/-! ### Read -/
instance okP_dec : (l : List S63) → (at_ : Nat) → Decidable (okP l at_)
  | [], _ => .isTrue trivial
  | x :: l, at_ => by
    unfold okP
    have := okP_dec l (at_ + x.f1.toNat)
    infer_instance
theorem areF_l0 (all : List S63) (hl : all.length ≤ 1000) : ∀ (l : List S63) (i at_ : Nat), all.drop i = l → at_ ≤ 160 → Evt (fun k => parse_areFactors.l0 k (at_ : Int) all (all.length : Int) (i : Int)) (decide (okP l at_))
  | [], i, at_, hi, ha => by
    have : all.length ≤ i := List.drop_eq_nil_iff.1 hi
    refine Evt.now fun k => ?_
    rw [parse_areFactors.l0, if_neg (by omega)]; rfl
  | x :: l, i, at_, hi, ha => by
    have hlt : i < all.length := by
      apply Decidable.byContradiction
      intro hn
      rw [List.drop_eq_nil_of_le (by omega)] at hi
      cases hi
    have hd := List.drop_eq_getElem_cons hlt
    rw [hi] at hd
    injection hd with h1 h2
    have e : rd_T63 all (i : Int) = x := by rw [h1]; simp [rd_T63, hlt]
    have w1 : Aside0 (wrap64 (160 - (at_ : Int)) = 160 - (at_ : Int)) := ⟨wr (by omega) (by omega)⟩
    have w2 : Aside0 (wrap64 ((at_ : Int) - 1) = (at_ : Int) - 1) := ⟨wr (by omega) (by omega)⟩
    have w3 : Aside0 (wrap64 ((i : Int) + 1) = ((i + 1 : Nat) : Int)) := ⟨(wr (by omega) (by omega)).trans (by omega)⟩
    have one : ∀ k, parse_areFactors.l0 (k + 1) (at_ : Int) all (all.length : Int) (i : Int) = ((parse_within.f x.f1 1 (160 - (at_ : Int))).bind fun t760 => (if t760 = true then ((parse_within.f x.f0 (-1) ((at_ : Int) - 1)).bind fun t761 => (if t761 = true then (if x.f0 < 0 then (if x.f1 = 1 then (parse_areFactors.l0 k (wrap64 ((at_ : Int) + x.f1)) all (all.length : Int) ((i + 1 : Nat) : Int)) else (some false)) else (parse_areFactors.l0 k (wrap64 ((at_ : Int) + x.f1)) all (all.length : Int) ((i + 1 : Nat) : Int))) else (some false))) else (some false))) := by
      intro k
      rw [parse_areFactors.l0, if_pos (by omega), if_pos (by omega), if_pos (by omega), e, w1.out, w2.out, w3.out]
    by_cases c1 : 1 ≤ x.f1 ∧ x.f1 ≤ 160 - (at_ : Int)
    · have b1 : parse_within.f x.f1 1 (160 - (at_ : Int)) = some true := by rw [parse_within.f, if_pos c1.1, decide_eq_true c1.2]
      by_cases c2 : -1 ≤ x.f0 ∧ x.f0 ≤ (at_ : Int) - 1
      · have b2 : parse_within.f x.f0 (-1) ((at_ : Int) - 1) = some true := by rw [parse_within.f, if_pos c2.1, decide_eq_true c2.2]
        have w4 : Aside0 (wrap64 ((at_ : Int) + x.f1) = ((at_ + x.f1.toNat : Nat) : Int)) := ⟨(wr (by omega) (by omega)).trans (by omega)⟩
        have ih := areF_l0 all hl l (i + 1) (at_ + x.f1.toNat) h2.symm (by omega)
        by_cases c3 : x.f0 < 0
        · by_cases c4 : x.f1 = 1
          · refine Evt.val (Evt.step (fun k => ?_) ih) ?_
            · rw [one, b1, Option.bind_some, if_pos rfl, b2, Option.bind_some, if_pos rfl, if_pos c3, if_pos c4, w4.out]
            · apply decide_eq_decide.2
              rw [okP]
              exact ⟨fun h => ⟨c1.1, c1.2, c2.1, by omega, fun _ => c4, h⟩, fun h => h.2.2.2.2.2⟩
          · refine Evt.val (Evt.now (r := false) fun k => ?_) ?_
            · rw [one, b1, Option.bind_some, if_pos rfl, b2, Option.bind_some, if_pos rfl, if_pos c3, if_neg c4]
            · symm
              apply decide_eq_false
              rw [okP]
              exact fun h => c4 (h.2.2.2.2.1 c3)
        · refine Evt.val (Evt.step (fun k => ?_) ih) ?_
          · rw [one, b1, Option.bind_some, if_pos rfl, b2, Option.bind_some, if_pos rfl, if_neg c3, w4.out]
          · apply decide_eq_decide.2
            rw [okP]
            exact ⟨fun h => ⟨c1.1, c1.2, c2.1, by omega, fun hh => absurd hh c3, h⟩, fun h => h.2.2.2.2.2⟩
      · have b2 : parse_within.f x.f0 (-1) ((at_ : Int) - 1) = some false := by
          rw [parse_within.f]
          by_cases c : x.f0 ≥ -1
          · rw [if_pos c, decide_eq_false (fun h => c2 ⟨c, h⟩)]
          · rw [if_neg c]
        refine Evt.val (Evt.now (r := false) fun k => ?_) ?_
        · rw [one, b1, Option.bind_some, if_pos rfl, b2, Option.bind_some, if_neg (by decide)]
        · symm
          apply decide_eq_false
          rw [okP]
          exact fun h => c2 ⟨h.2.2.1, by have := h.2.2.2.1; omega⟩
    · have b1 : parse_within.f x.f1 1 (160 - (at_ : Int)) = some false := by
        rw [parse_within.f]
        by_cases c : x.f1 ≥ 1
        · rw [if_pos c, decide_eq_false (fun h => c1 ⟨c, h⟩)]
        · rw [if_neg c]
      refine Evt.val (Evt.now (r := false) fun k => ?_) ?_
      · rw [one, b1, Option.bind_some, if_neg (by decide)]
      · symm
        apply decide_eq_false
        rw [okP]
        exact fun h => c1 ⟨h.1, h.2.1⟩
theorem areF_ev (l : List S63) (hl : l.length ≤ 1000) : Evt (fun k => parse_areFactors.f k l) (decide (okP l 0)) := areF_l0 l hl l 0 0 rfl (by omega)
theorem okP_mem : ∀ {l : List S63} {at_ : Nat}, okP l at_ → ∀ x, x ∈ l → (x.f0 < 0 ↔ x.f0 = -1 ∧ x.f1 = 1)
  | y :: l, at_, h, x, hx => by
    rw [okP] at h
    rcases List.mem_cons.1 hx with rfl | hx
    · exact ⟨fun c => ⟨by have := h.2.2.1; omega, h.2.2.2.2.1 c⟩, fun c => by omega⟩
    · exact okP_mem h.2.2.2.2.2 x hx
theorem sgl_snoc (x : S63) : ∀ l : List S63, sgl (l ++ [x]) = sgl l + (if x.f0 < 0 then 1 else 0)
  | [] => by simp [sgl]
  | y :: l => by rw [List.cons_append, sgl, sgl, sgl_snoc x l]; omega
theorem singN_sgl (l : List S63) (h : ∀ x, x ∈ l → (x.f0 < 0 ↔ x.f0 = -1 ∧ x.f1 = 1)) : ∀ k, k ≤ l.length → singN l k = (sgl (l.take k) : Int)
  | 0, _ => rfl
  | k + 1, hk => by
    have hlt : k < l.length := by omega
    have e : rd_T63 l (k : Int) = l[k] := by simp [rd_T63, hlt]
    rw [singN, singN_sgl l h k (by omega), e, List.take_succ_eq_append_getElem hlt, sgl_snoc]
    have := h _ (List.getElem_mem hlt)
    by_cases c : l[k].f0 < 0
    · rw [if_pos (this.1 c), if_pos c]; omega
    · rw [if_neg (fun hh => c (this.2 hh)), if_neg c]; omega
end Go.Proofs.YtpeeflkodpnbpaaDoor.Pr

/- The numbers of substrings, plainly. -/
namespace Go.Proofs.YtpeeflkodpnbpaaDoor.Pr
open Go.RowKit Go.WideMaps Go.Maps Go.Proofs.YtpeeflkodpnbpaaDoorW Go.Proofs.YtpeeflkodpnbpaaDoorW.PrintWords Go.Proofs.YtpeeflkodpnbpaaDoorW.PrintLast Go.Proofs.YtpeeflkodpnbpaaDoorW.PrintMore
set_option linter.unusedVariables false
set_option linter.unusedSimpArgs false

theorem insD_old {x : ByteArray} : ∀ {l : List ByteArray}, l.Pairwise ltS → x ∈ l → (insD x l).length = l.length
  | y :: l, h, hm => by
    have hy := List.pairwise_cons.1 h
    rw [insD]
    split
    · rename_i hlt
      have : x ∈ l := by
        rcases List.mem_cons.1 hm with rfl | hm
        · exact absurd rfl ((ltS_iff _ _).1 hlt).2
        · exact hm
      rw [List.length_cons, insD_old hy.2 this, List.length_cons]
    · split
      · rfl
      · rename_i hlt hne
        exfalso
        rcases List.mem_cons.1 hm with rfl | hm
        · exact hne rfl
        · exact hlt (hy.1 x hm)
theorem insD_new {x : ByteArray} : ∀ {l : List ByteArray}, x ∉ l → (insD x l).length = l.length + 1
  | [], _ => rfl
  | y :: l, hm => by
    rw [insD]
    split
    · rw [List.length_cons, insD_new (fun h => hm (List.mem_cons_of_mem _ h)), List.length_cons]
    · split
      · rename_i _ e
        exact absurd (e ▸ List.mem_cons_self) hm
      · rfl
theorem subG_tidy {H : Type} (s : ByteArray) (n : Nat) : ∀ k, Tidy (subG (H := H) s n k)
  | 0 => tidy_empty
  | k + 1 => (subG_tidy s n k).put (keyLit _) _
theorem size_up {H : Type} (s : ByteArray) (n : Nat) : ∀ k, Maps.size (subG (H := H) s n k) = (partsUp s n k).length
  | 0 => rfl
  | k + 1 => by
    rw [subG, size_put (subG_tidy s n k), partsUp, size_up s n k]
    by_cases h : Maps.has (subG (H := H) s n k) (keyS (subAt s n k)) = true
    · rw [if_pos h, insD_old (partsUp_sorted s n k) (mem_partsUp.2 ((subG_has s n _ k).1 h))]
    · rw [if_neg h, insD_new (fun hm => h ((subG_has s n _ k).2 (mem_partsUp.1 hm)))]
theorem subsF_eq (s : ByteArray) : ∀ m n l, subsF s m n l = l ++ (List.range m).map (fun i => (cntS s (n + i) : Int))
  | 0, n, l => by simp [subsF]
  | m + 1, n, l => by
    rw [subsF, subsF_eq s m (n + 1), List.range_succ_eq_map, List.map_cons, List.map_map, List.append_assoc]
    congr 1
    rw [List.singleton_append]
    congr 1
    apply List.map_congr_left
    intro a _
    show (cntS s (n + 1 + a) : Int) = cntS s (n + (a + 1))
    rw [show n + 1 + a = n + (a + 1) by omega]
/-! ### counting -/
theorem nodup_le {α : Type} : ∀ {l m : List α}, l.Nodup → (∀ x, x ∈ l → x ∈ m) → l.length ≤ m.length
  | [], _, _, _ => by simp
  | x :: l, m, hn, h => by
    obtain ⟨a, b, rfl⟩ := List.append_of_mem (h x List.mem_cons_self)
    have hn2 := List.nodup_cons.1 hn
    have := nodup_le (l := l) (m := a ++ b) hn2.2 (fun y hy => by
      have h1 := h y (List.mem_cons_of_mem _ hy)
      rcases List.mem_append.1 h1 with h1 | h1
      · exact List.mem_append_left _ h1
      · rcases List.mem_cons.1 h1 with e | h1
        · exact absurd (e ▸ hy) hn2.1
        · exact List.mem_append_right _ h1)
    simp only [List.length_append, List.length_cons] at this ⊢
    omega
/-! ### strings as lists of bytes -/
def bl (s : ByteArray) : List UInt8 := s.data.toList
theorem bl_len (s : ByteArray) : (bl s).length = s.size := Array.length_toList
theorem bl_extract (s : ByteArray) (i j : Nat) : bl (s.extract i j) = ((bl s).drop i).take (j - i) := by
  unfold bl; rw [ByteArray.data_extract, Array.toList_extract, List.extract_eq_take_drop]
theorem bl_sub (s : ByteArray) (n j : Nat) : bl (subAt s n j) = ((bl s).drop j).take n := by
  unfold subAt
  rw [bl_extract, show j + n - j = n by omega]
/-! ### one more letter; one more place -/
def ext4 : List ByteArray → List ByteArray
  | [] => []
  | t :: l => t.push 97 :: t.push 98 :: t.push 99 :: t.push 100 :: ext4 l
theorem ext4_len : ∀ l, (ext4 l).length = 4 * l.length
  | [] => rfl
  | t :: l => by simp only [ext4, List.length_cons, ext4_len l]; omega
theorem mem_ext4 {t : ByteArray} {c : UInt8} (hc : c = 97 ∨ c = 98 ∨ c = 99 ∨ c = 100) : ∀ {l : List ByteArray}, t ∈ l → t.push c ∈ ext4 l
  | x :: l, h => by
    rw [ext4]
    rcases List.mem_cons.1 h with rfl | h
    · rcases hc with rfl | rfl | rfl | rfl <;> simp
    · have := mem_ext4 hc h
      simp [this]
end Go.Proofs.YtpeeflkodpnbpaaDoor.Pr

/- Sets that touch a word: what untF says, and how many substrings there are at most. -/
namespace Go.Proofs.YtpeeflkodpnbpaaDoor.Pr
open Go.RowKit Go.Proofs.YtpeeflkodpnbpaaDoorW.PrintWords Go.Proofs.YtpeeflkodpnbpaaDoorW.PrintLast Go.Proofs.YtpeeflkodpnbpaaDoorW.PrintMore
set_option linter.unusedVariables false
set_option linter.unusedSimpArgs false

theorem cntB_mono (set : List Int) (i : Nat) : ∀ n, cntB set i ≤ cntB set (i + n)
  | 0 => Int.le_refl _
  | n + 1 => by
    have := cntB_mono set i n
    rw [← Nat.add_assoc, cntB]
    split <;> omega
theorem cntB_lt (set : List Int) (i : Nat) : ∀ n, cntB set i < cntB set (i + n) ↔ ∃ p : Nat, (p : Int) ∈ set ∧ i ≤ p ∧ p < i + n
  | 0 => by
    constructor
    · intro h; exact absurd h (by rw [Nat.add_zero]; exact Int.lt_irrefl _)
    · rintro ⟨p, _, h1, h2⟩; omega
  | n + 1 => by
    have ih := cntB_lt set i n
    have mo := cntB_mono set i n
    rw [← Nat.add_assoc, cntB]
    by_cases c : memI ((i + n : Nat) : Int) set = true
    · rw [if_pos c]
      constructor
      · intro _; exact ⟨i + n, memI_iff.1 c, by omega, by omega⟩
      · intro _; omega
    · rw [if_neg c]
      constructor
      · intro h
        obtain ⟨p, h1, h2, h3⟩ := ih.1 (by omega)
        exact ⟨p, h1, h2, by omega⟩
      · rintro ⟨p, h1, h2, h3⟩
        have hne : p ≠ i + n := fun e => c (memI_iff.2 (e ▸ h1))
        have := ih.2 ⟨p, h1, h2, by omega⟩
        omega
theorem findU_none (s : ByteArray) (set : List Int) (n : Nat) : ∀ l, findU s set n l = none ↔ ∀ t, t ∈ l → (posS s n t).any (tchP set n) = true
  | [] => by simp [findU]
  | t :: l => by
    rw [findU]
    by_cases c : (posS s n t).any (tchP set n) = true
    · rw [if_pos c, findU_none s set n l]
      constructor
      · intro h x hx
        rcases List.mem_cons.1 hx with rfl | hx
        · exact c
        · exact h x hx
      · intro h x hx; exact h x (List.mem_cons_of_mem _ hx)
    · rw [if_neg c]
      constructor
      · intro h; cases h
      · intro h; exact absurd (h t List.mem_cons_self) c
theorem untF_iff (s : ByteArray) (set : List Int) : ∀ q n, (untF s set q n).2 = false ↔ ∀ k, n ≤ k → k < n + q → ∀ t, t ∈ partsS s k → (posS s k t).any (tchP set k) = true
  | 0, n => by
    rw [untF]
    exact ⟨fun _ k h1 h2 => by omega, fun _ => rfl⟩
  | q + 1, n => by
    rw [untF]
    cases h : findU s set n (partsS s n) with
    | some t =>
      constructor
      · intro h2; cases h2
      · intro h2
        have := (findU_none s set n (partsS s n)).2 (h2 n (Nat.le_refl _) (by omega))
        rw [h] at this; cases this
    | none =>
      show (untF s set q (n + 1)).2 = false ↔ _
      rw [untF_iff s set q (n + 1)]
      have h3 := (findU_none s set n (partsS s n)).1 h
      constructor
      · intro h2 k h4 h5
        by_cases e : k = n
        · subst e; exact h3
        · exact h2 k (by omega) (by omega)
      · intro h2 k h4 h5; exact h2 k (by omega) (by omega)
theorem untF_no (s : ByteArray) (set : List Int) : ∀ q n, (untF s set q n).2 = false → (untF s set q n).1 = emptyB
  | 0, n, _ => rfl
  | q + 1, n, h => by
    rw [untF] at h ⊢
    cases hf : findU s set n (partsS s n) with
    | some t => rw [hf] at h; cases h
    | none =>
      rw [hf] at h
      exact untF_no s set q (n + 1) h

/-! ### how many substrings -/
def cand (s : ByteArray) (k : Nat) : List Int → List ByteArray
  | [] => []
  | p :: l => (List.range k).map (fun o => subAt s k (p.toNat - o)) ++ cand s k l
theorem cand_len (s : ByteArray) (k : Nat) : ∀ l, (cand s k l).length = l.length * k
  | [] => by simp [cand]
  | p :: l => by rw [cand, List.length_append, cand_len s k l, List.length_map, List.length_range, List.length_cons, Nat.succ_mul, Nat.add_comm]
theorem mem_cand (s : ByteArray) (k : Nat) {p o : Nat} (ho : o < k) : ∀ {l : List Int}, (p : Int) ∈ l → subAt s k (p - o) ∈ cand s k l
  | q :: l, h => by
    rw [cand, List.mem_append]
    rcases List.mem_cons.1 h with h | h
    · refine .inl (List.mem_map.2 ⟨o, List.mem_range.2 ho, ?_⟩)
      rw [← h, Int.toNat_natCast]
    · exact .inr (mem_cand s k ho h)
end Go.Proofs.YtpeeflkodpnbpaaDoor.Pr

/- How far two strings go together, and the longest earlier string. -/
namespace Go.Proofs.YtpeeflkodpnbpaaDoor.Pr
open Go.RowKit Go.Proofs.YtpeeflkodpnbpaaDoorW.PrintWords Go.Proofs.YtpeeflkodpnbpaaDoorW.PrintLast Go.Proofs.YtpeeflkodpnbpaaDoorW.PrintMore
set_option linter.unusedVariables false
set_option linter.unusedSimpArgs false

def btL (l : List UInt8) (i : Nat) : Int := match l[i]? with
  | some c => (c.toNat : Int)
  | none => 0
theorem bt_btL (s : ByteArray) (i : Nat) : bt s (i : Int) = btL (bl s) i := by
  unfold bt btL bl
  rw [Array.getElem?_toList]
  by_cases h : i < s.data.size
  · rw [dif_pos (by rw [Int.toNat_natCast]; exact h), Array.getElem?_eq_getElem h]
    simp only [Int.toNat_natCast]
    rfl
  · rw [dif_neg (by rw [Int.toNat_natCast]; exact h), Array.getElem?_eq_none (by omega)]
theorem ext_spec (s : ByteArray) (j i : Nat) : ∀ q n, i + n ≤ s.size → s.size ≤ i + n + q →
    n ≤ ext s j i q n ∧ i + ext s j i q n ≤ s.size ∧ (∀ m, n ≤ m → m < ext s j i q n → bt s ((j + m : Nat) : Int) = bt s ((i + m : Nat) : Int)) ∧ (i + ext s j i q n = s.size ∨ bt s ((j + ext s j i q n : Nat) : Int) ≠ bt s ((i + ext s j i q n : Nat) : Int))
  | 0, n, h1, h2 => by
    rw [ext]
    exact ⟨Nat.le_refl _, h1, fun m a b => absurd b (by omega), .inl (by omega)⟩
  | q + 1, n, h1, h2 => by
    rw [ext]
    by_cases c : i + n < s.size
    · rw [if_pos c]
      by_cases e : bt s ((j + n : Nat) : Int) = bt s ((i + n : Nat) : Int)
      · rw [if_pos e]
        obtain ⟨a1, a2, a3, a4⟩ := ext_spec s j i q (n + 1) (by omega) (by omega)
        refine ⟨by omega, a2, fun m hm1 hm2 => ?_, a4⟩
        by_cases hmn : m = n
        · subst hmn; exact e
        · exact a3 m (by omega) hm2
      · rw [if_neg e]
        exact ⟨Nat.le_refl _, h1, fun m a b => absurd b (by omega), .inr e⟩
    · rw [if_neg c]
      exact ⟨Nat.le_refl _, h1, fun m a b => absurd b (by omega), .inl (by omega)⟩
theorem earlF_max (s : ByteArray) (i : Nat) : ∀ (m f : Nat) (b : Int × Int), 1 ≤ b.2 → b.2 ≤ (earlF s i m f b).2 ∧ ∀ j, f ≤ j → j < f + m → (ext s j i s.size 0 : Int) ≤ (earlF s i m f b).2
  | 0, f, b, h => ⟨by rw [earlF]; exact Int.le_refl _, fun j h1 h2 => by omega⟩
  | m + 1, f, b, h => by
    rw [earlF]
    have hp : 1 ≤ (pick9 f (ext s f i s.size 0) b).2 ∧ b.2 ≤ (pick9 f (ext s f i s.size 0) b).2 ∧ (ext s f i s.size 0 : Int) ≤ (pick9 f (ext s f i s.size 0) b).2 := by
      generalize ext s f i s.size 0 = e
      unfold pick9
      by_cases p : 0 < e ∧ (b = ((-1 : Int), (1 : Int)) ∨ b.2 < (e : Int))
      · rw [if_pos p]
        refine ⟨by show (1 : Int) ≤ (e : Int); omega, ?_, by show (e : Int) ≤ (e : Int); omega⟩
        show b.2 ≤ (e : Int)
        rcases p.2 with p2 | p2
        · have := congrArg Prod.snd p2
          have : b.2 = 1 := this
          omega
        · omega
      · rw [if_neg p]
        refine ⟨h, Int.le_refl _, ?_⟩
        apply Decidable.byContradiction
        intro hc
        exact p ⟨by omega, .inr (by omega)⟩
    obtain ⟨a1, a2⟩ := earlF_max s i m (f + 1) _ hp.1
    refine ⟨Int.le_trans hp.2.1 a1, fun j h1 h2 => ?_⟩
    by_cases e : j = f
    · subst e; exact Int.le_trans hp.2.2 a1
    · exact a2 j (by omega) (by omega)
end Go.Proofs.YtpeeflkodpnbpaaDoor.Pr

/- The ends of the factors of the copying parse touch the word; there are at most twice as many as factors of the learning parse. -/
namespace Go.Proofs.YtpeeflkodpnbpaaDoor.Pr
open Go.RowKit Go.Proofs.YtpeeflkodpnbpaaDoorW.PrintWords Go.Proofs.YtpeeflkodpnbpaaDoorW.PrintLast Go.Proofs.YtpeeflkodpnbpaaDoorW.PrintMore
set_option linter.unusedVariables false
set_option linter.unusedSimpArgs false

theorem bt_of_sub (s : ByteArray) (k i j : Nat) (hi : i + k ≤ s.size) (hj : j + k ≤ s.size) (h : subAt s k i = subAt s k j) (m : Nat) (hm : m < k) : bt s ((i + m : Nat) : Int) = bt s ((j + m : Nat) : Int) := by
  have h1 : i + m < (bl s).length := by rw [bl_len]; omega
  have h2 : j + m < (bl s).length := by rw [bl_len]; omega
  have e : (bl (subAt s k i))[m]? = (bl (subAt s k j))[m]? := by rw [h]
  rw [bl_sub, bl_sub, List.getElem?_take, List.getElem?_take, if_pos hm, if_pos hm, List.getElem?_drop, List.getElem?_drop] at e
  rw [bt_btL, bt_btL]
  unfold btL
  rw [e]
/-- a factor is one letter, or a copy -/
def factIs (s : ByteArray) (i : Nat) (b : Int × Int) : Prop := b = (-1, 1) ∨ ∃ j, j < i ∧ 0 < ext s j i s.size 0 ∧ b = ((j : Int), (ext s j i s.size 0 : Int))
theorem earlF_is (s : ByteArray) (i : Nat) : ∀ m f b, f + m = i → factIs s i b → factIs s i (earlF s i m f b)
  | 0, _, _, _, h => h
  | m + 1, f, b, hf, h => by
    rw [earlF]
    refine earlF_is s i m (f + 1) _ (by omega) ?_
    unfold pick9
    split
    · rename_i hc
      exact .inr ⟨f, by omega, hc.1, rfl⟩
    · exact h
theorem fact_is (s : ByteArray) (i : Nat) : ((factS s i).f0, (factS s i).f1) = ((-1 : Int), (1 : Int)) ∨ ∃ j, j < i ∧ 0 < ext s j i s.size 0 ∧ (factS s i).f0 = j ∧ (factS s i).f1 = ext s j i s.size 0 := by
  rcases earlF_is s i i 0 (-1, 1) (by omega) (.inl rfl) with h | ⟨j, h1, h2, h3⟩
  · exact .inl h
  · exact .inr ⟨j, h1, h2, congrArg Prod.fst h3, congrArg Prod.snd h3⟩
theorem fact_ok (s : ByteArray) (i : Nat) (hi : i < s.size) : 1 ≤ (factS s i).f1 ∧ (i : Int) + (factS s i).f1 ≤ s.size ∧ -1 ≤ (factS s i).f0 ∧ (factS s i).f0 < i := earl_ok s i hi
theorem fact_max (s : ByteArray) (i j : Nat) (h : j < i) : (ext s j i s.size 0 : Int) ≤ (factS s i).f1 := by
  obtain ⟨_, hm⟩ := earlF_max s i i 0 (-1, 1) (by decide)
  exact hm j (by omega) (by omega)
theorem ext_ge (s : ByteArray) (j i k : Nat) (hi : i + k ≤ s.size) (h : ∀ m, m < k → bt s ((j + m : Nat) : Int) = bt s ((i + m : Nat) : Int)) : k ≤ ext s j i s.size 0 := by
  obtain ⟨_, h2, _, h4⟩ := ext_spec s j i s.size 0 (by omega) (by omega)
  apply Decidable.byContradiction
  intro hn
  rcases h4 with h4 | h4
  · omega
  · exact h4 (h _ (by omega))
/-- where the factors end -/
def endsF (s : ByteArray) : Nat → Nat → List Int
  | 0, _ => []
  | q + 1, i => if i < s.size then ((i : Int) + (factS s i).f1 - 1) :: endsF s q (i + (factS s i).f1.toNat) else []
theorem endsF_len (s : ByteArray) : ∀ q i, (endsF s q i).length = (copF s q i).length
  | 0, _ => rfl
  | q + 1, i => by
    rw [endsF, copF]
    split
    · rw [List.length_cons, List.length_cons, endsF_len s q]
    · rfl
theorem endsF_range (s : ByteArray) : ∀ q i x, x ∈ endsF s q i → (i : Int) ≤ x ∧ x < s.size
  | 0, _, x, h => by simp [endsF] at h
  | q + 1, i, x, h => by
    rw [endsF] at h
    by_cases c : i < s.size
    · rw [if_pos c] at h
      have ok := fact_ok s i c
      rcases List.mem_cons.1 h with rfl | h
      · omega
      · have := endsF_range s q _ x h
        omega
    · rw [if_neg c] at h; simp at h
theorem endsF_sorted (s : ByteArray) : ∀ q i, (endsF s q i).Pairwise (fun x y => x < y)
  | 0, _ => .nil
  | q + 1, i => by
    rw [endsF]
    by_cases c : i < s.size
    · rw [if_pos c]
      have ok := fact_ok s i c
      refine List.pairwise_cons.2 ⟨fun x hx => ?_, endsF_sorted s q _⟩
      have := endsF_range s q _ x hx
      omega
    · rw [if_neg c]; exact .nil
theorem fact_in (s : ByteArray) : ∀ q i j, s.size ≤ i + q → i ≤ j → j < s.size → ∃ a : Nat, a < s.size ∧ a ≤ j ∧ (j : Int) < a + (factS s a).f1 ∧ ((a : Int) + (factS s a).f1 - 1) ∈ endsF s q i
  | 0, i, j, hq, h1, h2 => by omega
  | q + 1, i, j, hq, h1, h2 => by
    have ci : i < s.size := by omega
    have ok := fact_ok s i ci
    rw [endsF, if_pos ci]
    by_cases c : (j : Int) < i + (factS s i).f1
    · exact ⟨i, ci, h1, c, List.mem_cons_self⟩
    · obtain ⟨a, a1, a2, a3, a4⟩ := fact_in s q (i + (factS s i).f1.toNat) j (by omega) (by omega) h2
      exact ⟨a, a1, a2, a3, List.mem_cons_of_mem _ a4⟩
/-! ### at most twice as many -/
theorem extL_known (s : ByteArray) (known : List ByteArray) (i : Nat) : ∀ q n, (n = 1 ∨ subAt s (n - 1) i ∈ known) → (extL s known i q n = 1 ∨ subAt s (extL s known i q n - 1) i ∈ known)
  | 0, n, h => h
  | q + 1, n, h => by
    rw [extL]
    split
    · rename_i hc
      exact extL_known s known i q (n + 1) (.inr (by rw [Nat.add_sub_cancel]; exact memB_iff.1 hc.2))
    · exact h
theorem cop_step (s : ByteArray) (Q p : Nat) : ∃ Q', (copF s Q p).length ≤ 1 + (copF s Q' (p + (factS s p).f1.toNat)).length := by
  cases Q with
  | zero => exact ⟨0, by simp [copF]⟩
  | succ q =>
    refine ⟨q, ?_⟩
    rw [copF]
    split
    · rw [List.length_cons]; omega
    · simp
theorem cop_two (s : ByteArray) (i n : Nat) (h1 : 1 ≤ n) (h2 : i + n ≤ s.size) (hk : n = 1 ∨ ∃ j, j < i ∧ j + (n - 1) ≤ s.size ∧ subAt s (n - 1) j = subAt s (n - 1) i) (p Q : Nat) (hp : i ≤ p) :
    ∃ p' Q', i + n ≤ p' ∧ (copF s Q p).length ≤ 2 + (copF s Q' p').length := by
  by_cases c : i + n ≤ p
  · exact ⟨p, Q, c, by omega⟩
  · have hone : ∀ Q, ∃ p' Q', i + n ≤ p' ∧ (copF s Q (i + n - 1)).length ≤ 1 + (copF s Q' p').length := by
      intro Q
      obtain ⟨Q', h⟩ := cop_step s Q (i + n - 1)
      have ok := fact_ok s (i + n - 1) (by omega)
      exact ⟨_, Q', by omega, h⟩
    by_cases c2 : p = i + n - 1
    · obtain ⟨p', Q', a, b⟩ := hone Q
      rw [← c2] at b
      exact ⟨p', Q', a, by omega⟩
    · obtain ⟨j, j1, j2, j3⟩ := hk.resolve_left (by omega)
      obtain ⟨Q', h⟩ := cop_step s Q p
      have ok := fact_ok s p (by omega)
      have hl : i + n - 1 - p ≤ ext s (j + (p - i)) p s.size 0 := by
        refine ext_ge s _ p _ (by omega) (fun m hm => ?_)
        have := bt_of_sub s (n - 1) j i j2 (by omega) j3 (p - i + m) (by omega)
        rw [show j + (p - i) + m = j + (p - i + m) by omega, this]
        congr 2
        omega
      have hm := fact_max s p (j + (p - i)) (by omega)
      by_cases c3 : i + n ≤ p + (factS s p).f1.toNat
      · exact ⟨_, Q', c3, by omega⟩
      · have e : p + (factS s p).f1.toNat = i + n - 1 := by omega
        rw [e] at h
        obtain ⟨p', Q2, a, b⟩ := hone Q'
        exact ⟨p', Q2, a, by omega⟩
theorem cop_learn (s : ByteArray) : ∀ q i known out p Q, i ≤ p → s.size ≤ i + q → (∀ x, x ∈ known → ∃ j, j < i ∧ j + x.size ≤ s.size ∧ subAt s x.size j = x) → (copF s Q p).length + 2 * out.length ≤ 2 * (learnF s q i known out).length
  | 0, i, known, out, p, Q, hp, hq, hk => by
    rw [copF_stop (by omega), learnF]; simp
  | q + 1, i, known, out, p, Q, hp, hq, hk => by
    rw [learnF]
    by_cases c : i < s.size
    · rw [if_pos c]
      have g1 := extL_ge s known i s.size 1
      have g2 := extL_le s known i s.size 1 (by omega)
      have g3 := extL_known s known i s.size 1 (.inl rfl)
      generalize extL s known i s.size 1 = n at *
      obtain ⟨p', Q', a, b⟩ := cop_two s i n g1 g2 (by
        rcases g3 with g3 | g3
        · exact .inl g3
        · obtain ⟨j, j1, j2, j3⟩ := hk _ g3
          rw [subAt_size s (n - 1) i (by omega)] at j2 j3
          exact .inr ⟨j, j1, j2, j3⟩) p Q hp
      have := cop_learn s q (i + n) (known ++ [subAt s n i]) (out ++ [⟨numK (subAt s (n - 1) i) known 0, (n : Int)⟩]) p' Q' a (by omega) (fun x hx => by
        rcases List.mem_append.1 hx with hx | hx
        · obtain ⟨j, j1, j2, j3⟩ := hk x hx
          exact ⟨j, by omega, j2, j3⟩
        · rw [List.mem_singleton] at hx
          subst hx
          have hz := subAt_size s n i g2
          exact ⟨i, by omega, by omega, by rw [hz]⟩)
      rw [List.length_append, List.length_singleton] at this
      omega
    · rw [if_neg c, copF_stop (by omega)]; simp
end Go.Proofs.YtpeeflkodpnbpaaDoor.Pr

/- Plans of a word. -/
namespace Go.Proofs.YtpeeflkodpnbpaaDoor.Pr
open Go.RowKit Go.Proofs.YtpeeflkodpnbpaaDoorW.PrintWords Go.Proofs.YtpeeflkodpnbpaaDoorW.PrintLast Go.Proofs.YtpeeflkodpnbpaaDoorW.PrintMore
set_option linter.unusedVariables false
set_option linter.unusedSimpArgs false

/-- a copy agrees with the word -/
def agr (s : ByteArray) (f a n : Nat) : Prop := ∀ k, k < n → bt s ((f + k : Nat) : Int) = bt s ((a + k : Nat) : Int)
instance (s : ByteArray) (f a n : Nat) : Decidable (agr s f a n) := by unfold agr; infer_instance
/-- from position a on, these are factors of a plan -/
def plnOk (s : ByteArray) : List S63 → Nat → Prop
  | [], a => a = s.size
  | x :: l, a => (1 ≤ x.f1 ∧ (a : Int) + x.f1 ≤ s.size ∧ -1 ≤ x.f0 ∧ x.f0 < a ∧ (x.f0 < 0 → x.f1 = 1) ∧ (0 ≤ x.f0 → agr s x.f0.toNat a x.f1.toNat)) ∧ plnOk s l (a + x.f1.toNat)
instance plnOk_dec (s : ByteArray) : (l : List S63) → (a : Nat) → Decidable (plnOk s l a)
  | [], a => by unfold plnOk; infer_instance
  | x :: l, a => by
    unfold plnOk
    have := plnOk_dec s l (a + x.f1.toNat)
    infer_instance
theorem plnOk_okP (s : ByteArray) (hs : s.size ≤ 160) : ∀ l a, plnOk s l a → okP l a
  | [], _, _ => trivial
  | x :: l, a, h => by
    rw [plnOk] at h
    rw [okP]
    obtain ⟨⟨h1, h2, h3, h4, h5, _⟩, h6⟩ := h
    exact ⟨h1, by omega, h3, h4, h5, plnOk_okP s hs l _ h6⟩
theorem agr_snoc (s : ByteArray) (f a n : Nat) : agr s f a (n + 1) ↔ agr s f a n ∧ bt s ((f + n : Nat) : Int) = bt s ((a + n : Nat) : Int) := by
  constructor
  · intro h; exact ⟨fun k hk => h k (by omega), h n (by omega)⟩
  · rintro ⟨h1, h2⟩ k hk
    by_cases e : k = n
    · subst e; exact h2
    · exact h1 k (by omega)
/-- the copying parse is a plan -/
theorem cop_plan (s : ByteArray) : ∀ q i, i ≤ s.size → s.size ≤ i + q → plnOk s (copF s q i) i
  | 0, i, h1, h2 => by rw [copF, plnOk]; omega
  | q + 1, i, h1, h2 => by
    rw [copF]
    by_cases c : i < s.size
    · rw [if_pos c, plnOk]
      have ok := fact_ok s i c
      refine ⟨⟨ok.1, ok.2.1, ok.2.2.1, ok.2.2.2, ?_, ?_⟩, cop_plan s q _ (by omega) (by omega)⟩
      · intro hn
        rcases fact_is s i with h | ⟨f, f1, f2, f3, f4⟩
        · exact congrArg Prod.snd h
        · omega
      · intro hp
        rcases fact_is s i with h | ⟨f, f1, f2, f3, f4⟩
        · have : (factS s i).f0 = -1 := congrArg Prod.fst h
          omega
        · obtain ⟨_, e2, e3, _⟩ := ext_spec s f i s.size 0 (by omega) (by omega)
          intro k hk
          have := e3 k (by omega) (by omega)
          rw [f3, Int.toNat_natCast]
          exact this
    · rw [if_neg c, plnOk]; omega
theorem copF_leq (s : ByteArray) : ∀ q i, (copF s q i).length ≤ q
  | 0, _ => by simp [copF]
  | q + 1, i => by
    rw [copF]
    split
    · rw [List.length_cons]; have := copF_leq s q (i + (factS s i).f1.toNat); omega
    · simp
end Go.Proofs.YtpeeflkodpnbpaaDoor.Pr

/- isPlan, plainly. -/
namespace Go.Proofs.YtpeeflkodpnbpaaDoor.Pr
open Go.RowKit Go.Proofs.YtpeeflkodpnbpaaDoorW.PrintWords Go.Proofs.YtpeeflkodpnbpaaDoorW.PrintLast Go.Proofs.YtpeeflkodpnbpaaDoorW.PrintMore
set_option linter.unusedVariables false
set_option linter.unusedSimpArgs false

/-- the walk over a copy -/
theorem isPl_l1 (s : ByteArray) (hs : s.size ≤ 160) (all : List S63) (i a n f : Nat) (ha : a + n ≤ s.size) (hf : f < a) (r : Bool) (h : Evt (fun k => parse_isPlan.l0 k s ((a + n : Nat) : Int) all (all.length : Int) (wrap64 ((i : Int) + 1))) r) (hno : ¬ agr s f a n → r = false) : ∀ (m k0 : Nat), k0 + m = n → agr s f a k0 →
    Evt (fun k => parse_isPlan.l1 k s (a : Int) all (all.length : Int) (i : Int) (n : Int) (k0 : Int) (f : Int) (n : Int)) r
  | 0, k0, hk, hag => by
    have w1 : Aside0 (wrap64 ((a : Int) + (n : Int)) = ((a + n : Nat) : Int)) := ⟨(wr (by omega) (by omega)).trans (by omega)⟩
    refine Evt.step (fun k => ?_) h
    rw [parse_isPlan.l1, if_neg (by omega), w1.out]
  | m + 1, k0, hk, hag => by
    have w1 : Aside0 (wrap64 ((f : Int) + (k0 : Int)) = ((f + k0 : Nat) : Int)) := ⟨(wr (by omega) (by omega)).trans (by omega)⟩
    have w2 : Aside0 (wrap64 ((a : Int) + (k0 : Int)) = ((a + k0 : Nat) : Int)) := ⟨(wr (by omega) (by omega)).trans (by omega)⟩
    have w3 : Aside0 (wrap64 ((k0 : Int) + 1) = ((k0 + 1 : Nat) : Int)) := ⟨(wr (by omega) (by omega)).trans (by omega)⟩
    by_cases c : bt s ((f + k0 : Nat) : Int) = bt s ((a + k0 : Nat) : Int)
    · refine Evt.step (fun k => ?_) (isPl_l1 s hs all i a n f ha hf r h hno m (k0 + 1) (by omega) ((agr_snoc s f a k0).2 ⟨hag, c⟩))
      rw [parse_isPlan.l1, if_pos (by omega), if_pos (by omega), w1.out, w2.out, if_pos (by omega), if_pos (by omega), if_pos (by omega), if_pos (by omega), if_pos c, w3.out]
    · have hr : r = false := hno (fun hh => c (hh k0 (by omega)))
      subst hr
      refine Evt.now fun k => ?_
      rw [parse_isPlan.l1, if_pos (by omega), if_pos (by omega), w1.out, w2.out, if_pos (by omega), if_pos (by omega), if_pos (by omega), if_pos (by omega), if_neg c]
theorem isPl_l0 (s : ByteArray) (hs : s.size ≤ 160) (all : List S63) (hall : all.length ≤ 1000) : ∀ (l : List S63) (i a : Nat), all.drop i = l → a ≤ s.size → okP l a → Evt (fun k => parse_isPlan.l0 k s (a : Int) all (all.length : Int) (i : Int)) (decide (plnOk s l a))
  | [], i, a, hi, ha, hok => by
    have : all.length ≤ i := List.drop_eq_nil_iff.1 hi
    refine Evt.now fun k => ?_
    rw [parse_isPlan.l0, if_neg (by omega)]
    congr 1
    by_cases c : a = s.size
    · rw [decide_eq_true (show plnOk s [] a from c)]; exact beq_iff_eq.2 (by omega)
    · rw [decide_eq_false (show ¬ plnOk s [] a from c)]; exact beq_eq_false_iff_ne.2 (by omega)
  | x :: l, i, a, hi, ha, hok => by
    have hlt : i < all.length := by
      apply Decidable.byContradiction
      intro hn
      rw [List.drop_eq_nil_of_le (by omega)] at hi
      cases hi
    have hd := List.drop_eq_getElem_cons hlt
    rw [hi] at hd
    injection hd with h1 h2
    have e : rd_T63 all (i : Int) = x := by rw [h1]; simp [rd_T63, hlt]
    rw [okP] at hok
    obtain ⟨o1, o2, o3, o4, o5, o6⟩ := hok
    have w1 : Aside0 (wrap64 ((a : Int) + x.f1) = (a : Int) + x.f1) := ⟨wr (by omega) (by omega)⟩
    have w2 : Aside0 (wrap64 ((i : Int) + 1) = ((i + 1 : Nat) : Int)) := ⟨(wr (by omega) (by omega)).trans (by omega)⟩
    by_cases c : (a : Int) + x.f1 > (s.size : Int)
    · refine Evt.val (Evt.now (r := false) fun k => ?_) ?_
      · rw [parse_isPlan.l0, if_pos (by omega), if_pos (by omega), if_pos (by omega), e, w1.out, if_pos c]
      · symm
        apply decide_eq_false
        rw [plnOk]
        exact fun h => by omega
    · obtain ⟨n, hn⟩ : ∃ n : Nat, x.f1 = (n : Int) := ⟨x.f1.toNat, by omega⟩
      have ih := isPl_l0 s hs all hall l (i + 1) (a + x.f1.toNat) h2.symm (by omega) o6
      have e2 : ((a + x.f1.toNat : Nat) : Int) = ((a + n : Nat) : Int) := by omega
      rw [e2] at ih
      refine Evt.step (g' := fun k => parse_isPlan.l1 k s (a : Int) all (all.length : Int) (i : Int) (n : Int) ((0 : Nat) : Int) x.f0 (n : Int)) (fun k => by rw [parse_isPlan.l0, if_pos (by omega), if_pos (by omega), if_pos (by omega), e, w1.out, if_neg c, hn]; rfl) ?_
      by_cases cf : 0 ≤ x.f0
      · obtain ⟨f, hf⟩ : ∃ f : Nat, x.f0 = (f : Int) := ⟨x.f0.toNat, by omega⟩
        rw [hf]
        by_cases hag : agr s f a n
        · refine isPl_l1 s hs all i a n f (by omega) (by omega) _ ?_ (fun hh => absurd hag hh) n 0 (by omega) (fun k hk => by omega)
          rw [w2.out]
          refine Evt.val ih ?_
          apply decide_eq_decide.2
          rw [plnOk]
          refine ⟨fun h => ⟨⟨o1, by omega, o3, o4, o5, fun _ => ?_⟩, h⟩, fun h => h.2⟩
          rw [hf, hn]; exact hag
        · have hr : decide (plnOk s (x :: l) a) = false := by
            apply decide_eq_false
            rw [plnOk]
            intro h
            have := h.1.2.2.2.2.2 cf
            rw [hf, hn] at this
            exact hag this
          rw [hr]
          have hne : ∃ k, k < n ∧ ¬ bt s ((f + k : Nat) : Int) = bt s ((a + k : Nat) : Int) := by
            apply Classical.byContradiction
            intro hc
            exact hag (fun k hk => Classical.byContradiction fun hx => hc ⟨k, hk, hx⟩)
          have key : ∀ (m k0 : Nat), k0 + m = n → (∃ k, k0 ≤ k ∧ k < n ∧ ¬ bt s ((f + k : Nat) : Int) = bt s ((a + k : Nat) : Int)) → Evt (fun k => parse_isPlan.l1 k s (a : Int) all (all.length : Int) (i : Int) (n : Int) (k0 : Int) (f : Int) (n : Int)) false := by
            intro m
            induction m with
            | zero => rintro k0 hk ⟨k, k1, k2, _⟩; omega
            | succ m ihm =>
              rintro k0 hk ⟨k, k1, k2, k3⟩
              have u1 : Aside0 (wrap64 ((f : Int) + (k0 : Int)) = ((f + k0 : Nat) : Int)) := ⟨(wr (by omega) (by omega)).trans (by omega)⟩
              have u2 : Aside0 (wrap64 ((a : Int) + (k0 : Int)) = ((a + k0 : Nat) : Int)) := ⟨(wr (by omega) (by omega)).trans (by omega)⟩
              have u3 : Aside0 (wrap64 ((k0 : Int) + 1) = ((k0 + 1 : Nat) : Int)) := ⟨(wr (by omega) (by omega)).trans (by omega)⟩
              by_cases c3 : bt s ((f + k0 : Nat) : Int) = bt s ((a + k0 : Nat) : Int)
              · have : k ≠ k0 := fun hh => k3 (by rw [hh]; exact c3)
                refine Evt.step (fun k => ?_) (ihm (k0 + 1) (by omega) ⟨k, by omega, k2, k3⟩)
                rw [parse_isPlan.l1, if_pos (by omega), if_pos (by omega), u1.out, u2.out, if_pos (by omega), if_pos (by omega), if_pos (by omega), if_pos (by omega), if_pos c3, u3.out]
              · refine Evt.now fun k => ?_
                rw [parse_isPlan.l1, if_pos (by omega), if_pos (by omega), u1.out, u2.out, if_pos (by omega), if_pos (by omega), if_pos (by omega), if_pos (by omega), if_neg c3]
          obtain ⟨k, k1, k2⟩ := hne
          exact key n 0 (by omega) ⟨k, by omega, k1, k2⟩
      · have hone : n = 1 := by have := o5 (by omega); omega
        have w5 : Aside0 (wrap64 ((a : Int) + (n : Int)) = ((a + n : Nat) : Int)) := ⟨(wr (by omega) (by omega)).trans (by omega)⟩
        have w6 : Aside0 (wrap64 (((0 : Nat) : Int) + 1) = (1 : Int)) := ⟨wr (by omega) (by omega)⟩
        refine Evt.val (Evt.step (g' := fun k => parse_isPlan.l1 k s (a : Int) all (all.length : Int) (i : Int) (n : Int) 1 x.f0 (n : Int)) (fun k => by rw [parse_isPlan.l1, if_pos (by omega), if_neg (by omega), w6.out]) (Evt.step (fun k => by rw [parse_isPlan.l1, if_neg (by omega), w5.out, w2.out]) ih)) ?_
        apply decide_eq_decide.2
        rw [plnOk]
        exact ⟨fun h => ⟨⟨o1, by omega, o3, o4, o5, fun hh => absurd hh cf⟩, h⟩, fun h => h.2⟩
theorem isPlan_ev (s : ByteArray) (hs : s.size ≤ 160) (l : List S63) (hl : l.length ≤ 1000) : Evt (fun k => parse_isPlan.f k s l) (decide (plnOk s l 0)) := by
  unfold parse_isPlan.f
  refine Evt.bind (areF_ev l hl) ?_
  by_cases c : okP l 0
  · exact Evt.pos (decide_eq_true c) (isPl_l0 s hs l hl l 0 0 rfl (by omega) c)
  · refine Evt.neg (by rw [decide_eq_false c]; decide) (Evt.all (fun _ => ?_))
    rw [decide_eq_false (fun h => c (plnOk_okP s hs l 0 h))]

end Go.Proofs.YtpeeflkodpnbpaaDoor.Pr

/- Cheapest's plan is a plan, its cost is the one told, and no plan is cheaper. -/
namespace Go.Proofs.YtpeeflkodpnbpaaDoor.Pr
open Go.RowKit Go.Proofs.YtpeeflkodpnbpaaDoorW.PrintWords Go.Proofs.YtpeeflkodpnbpaaDoorW.PrintLast Go.Proofs.YtpeeflkodpnbpaaDoorW.PrintMore
set_option linter.unusedVariables false
set_option linter.unusedSimpArgs false

/-- how long a copy at a may be -/
def lenC (s : ByteArray) (a : Nat) : Nat := if (factS s a).f0 < 0 then 0 else (factS s a).f1.toNat
theorem earlF_none (s : ByteArray) (i : Nat) : ∀ m f b, 1 ≤ b.2 → (earlF s i m f b).1 < 0 → b.1 < 0 ∧ (b = (-1, 1) → ∀ j, f ≤ j → j < f + m → ext s j i s.size 0 = 0)
  | 0, f, b, h1, h => ⟨h, fun _ j h1 h2 => by omega⟩
  | m + 1, f, b, hb, h => by
    rw [earlF] at h
    have hb2 : 1 ≤ (pick9 f (ext s f i s.size 0) b).2 := by
      unfold pick9
      split
      · rename_i hc
        show (1 : Int) ≤ (ext s f i s.size 0 : Int)
        omega
      · exact hb
    obtain ⟨g1, g2⟩ := earlF_none s i m (f + 1) _ hb2 h
    unfold pick9 at g1 g2
    by_cases p : 0 < ext s f i s.size 0 ∧ (b = ((-1 : Int), (1 : Int)) ∨ b.2 < (ext s f i s.size 0 : Int))
    · rw [if_pos p] at g1
      have : (f : Int) < 0 := g1
      omega
    · rw [if_neg p] at g1 g2
      refine ⟨g1, fun e j h1 h2 => ?_⟩
      by_cases c : j = f
      · subst c
        apply Decidable.byContradiction
        intro hn
        exact p ⟨by omega, .inl e⟩
      · exact g2 e j (by omega) (by omega)
theorem lenC_max (s : ByteArray) (a j : Nat) (h : j < a) : ext s j a s.size 0 ≤ lenC s a := by
  unfold lenC
  by_cases c : (factS s a).f0 < 0
  · rw [if_pos c]
    have := (earlF_none s a a 0 (-1, 1) (by decide) c).2 rfl j (by omega) (by omega)
    omega
  · rw [if_neg c]
    have := fact_max s a j h
    omega
theorem lenC_is (s : ByteArray) (a : Nat) : lenC s a = 0 ∨ ∃ j, j < a ∧ ext s j a s.size 0 = lenC s a ∧ (factS s a).f0 = j := by
  unfold lenC
  by_cases c : (factS s a).f0 < 0
  · exact .inl (if_pos c)
  · rw [if_neg c]
    rcases fact_is s a with h | ⟨f, f1, f2, f3, f4⟩
    · have : (factS s a).f0 = -1 := congrArg Prod.fst h
      omega
    · exact .inr ⟨f, f1, by omega, f3⟩
theorem inn_is (q F : Int) (T : List (Int × S63)) (L : Nat) (c0 : Int × S63) : ∀ r n cur, n + r ≤ L → (cur = c0 ∨ ∃ i : Nat, i < L ∧ cur = (q + (T.getD i (0, z63)).1, ⟨F, (i : Int) + 1⟩)) →
    (inn q F T r n cur = c0 ∨ ∃ i : Nat, i < L ∧ inn q F T r n cur = (q + (T.getD i (0, z63)).1, ⟨F, (i : Int) + 1⟩))
  | 0, _, cur, _, h => h
  | r + 1, n, cur, hn, h => by
    rw [inn]
    refine inn_is q F T L c0 r (n + 1) _ (by omega) ?_
    split
    · exact .inr ⟨n, by omega, rfl⟩
    · exact h
theorem inn_min (q F : Int) (T : List (Int × S63)) : ∀ r n cur i, n ≤ i → i < n + r → (inn q F T r n cur).1 ≤ q + (T.getD i (0, z63)).1
  | 0, n, cur, i, h1, h2 => by omega
  | r + 1, n, cur, i, h1, h2 => by
    rw [inn]
    by_cases e : i = n
    · subst e
      refine Int.le_trans (inn_le q F T r (i + 1) _) ?_
      split
      · exact Int.le_refl _
      · omega
    · exact inn_min q F T r (n + 1) _ i (by omega) (by omega)
/-- cost from position a on -/
def C (s : ByteArray) (p q : Int) (a : Nat) : Int := ((chp s p q s.size).getD a (0, z63)).1
def X (s : ByteArray) (p q : Int) (a : Nat) : S63 := ((chp s p q s.size).getD a (0, z63)).2
theorem C_end (s : ByteArray) (p q : Int) : C s p q s.size = 0 := by
  unfold C
  rw [chp_at s p q s.size s.size (Nat.le_refl _), Nat.sub_self]; rfl
/-- the recursion -/
theorem C_rec (s : ByteArray) (p q : Int) (a : Nat) (ha : a < s.size) : ((C s p q a = p + C s p q (a + 1) ∧ X s p q a = ⟨-1, 1⟩) ∨ ∃ n : Nat, n < lenC s a ∧ C s p q a = q + C s p q (a + n + 1) ∧ X s p q a = ⟨(factS s a).f0, (n : Int) + 1⟩) ∧
    C s p q a ≤ p + C s p q (a + 1) ∧ ∀ n, n < lenC s a → C s p q a ≤ q + C s p q (a + n + 1) := by
  obtain ⟨m, hm⟩ : ∃ m, s.size - a = m + 1 := ⟨s.size - a - 1, by omega⟩
  have ea : s.size - (m + 1) = a := by omega
  have hrest : ∀ n, a + n + 1 ≤ s.size → C s p q (a + n + 1) = ((chp s p q m).getD n (0, z63)).1 := by
    intro n hn
    unfold C
    rw [chp_at s p q s.size (a + n + 1) hn, chp_at s p q m n (by omega), show s.size - (a + n + 1) = m - n by omega]
  have hr0 := hrest 0 (by omega)
  have ok := fact_ok s a ha
  have hL : a + lenC s a ≤ s.size := by
    unfold lenC
    split <;> omega
  have hC : (chp s p q s.size).getD a (0, z63) = (if (factS s a).f0 < 0 then (p + ((chp s p q m).getD 0 (0, z63)).1, (⟨-1, 1⟩ : S63)) else inn q (factS s a).f0 (chp s p q m) (factS s a).f1.toNat 0 (p + ((chp s p q m).getD 0 (0, z63)).1, ⟨-1, 1⟩)) := by
    rw [chp_at s p q s.size a (by omega), hm, chp, getD_cons0, ea]
  have hc1 : C s p q a = ((chp s p q s.size).getD a (0, z63)).1 := rfl
  have hx1 : X s p q a = ((chp s p q s.size).getD a (0, z63)).2 := rfl
  rw [Nat.add_zero] at hr0
  by_cases c : (factS s a).f0 < 0
  · have hl0 : lenC s a = 0 := if_pos c
    rw [if_pos c] at hC
    rw [hc1, hx1, hC, hr0]
    refine ⟨.inl ⟨rfl, rfl⟩, Int.le_refl _, fun n hn => by omega⟩
  · have hl1 : lenC s a = (factS s a).f1.toNat := if_neg c
    rw [if_neg c] at hC
    rw [hc1, hx1, hC, hr0]
    rw [hl1] at hL ⊢
    refine ⟨?_, inn_le q _ _ _ _ (p + ((chp s p q m).getD 0 (0, z63)).1, ⟨-1, 1⟩), fun n hn => ?_⟩
    · rcases inn_is q (factS s a).f0 (chp s p q m) (factS s a).f1.toNat (p + ((chp s p q m).getD 0 (0, z63)).1, ⟨-1, 1⟩) (factS s a).f1.toNat 0 _ (by omega) (.inl rfl) with h | ⟨i, h1, h2⟩
      · rw [h]; exact .inl ⟨rfl, rfl⟩
      · rw [h2]
        exact .inr ⟨i, h1, by rw [hrest i (by omega)], rfl⟩
    · rw [hrest n (by omega)]
      exact inn_min q _ _ _ 0 _ n (by omega) (by omega)
/-! ### the plan -/
theorem pln_ok (s : ByteArray) (p q : Int) : ∀ k a, a ≤ s.size → s.size ≤ a + k → plnOk s (plnF (chp s p q s.size) s.size k a) a
  | 0, a, h1, h2 => by rw [plnF, plnOk]; omega
  | k + 1, a, h1, h2 => by
    rw [plnF]
    by_cases c : a < s.size
    · rw [if_pos c, plnOk]
      have fit := chp_fit s p q a c
      refine ⟨⟨fit.1, fit.2.1, fit.2.2.1, fit.2.2.2, ?_, ?_⟩, pln_ok s p q k _ (by omega) (by omega)⟩
      · intro hn
        have hn : (X s p q a).f0 < 0 := hn
        rcases (C_rec s p q a c).1 with ⟨_, h⟩ | ⟨n, h1, _, h⟩
        · show (X s p q a).f1 = 1
          rw [h]
        · rw [h] at hn
          rcases lenC_is s a with h3 | ⟨j, j1, j2, j3⟩
          · omega
          · have : (factS s a).f0 < 0 := hn
            omega
      · intro hp
        have hp : 0 ≤ (X s p q a).f0 := hp
        show agr s (X s p q a).f0.toNat a (X s p q a).f1.toNat
        rcases (C_rec s p q a c).1 with ⟨_, h⟩ | ⟨n, h1, _, h⟩
        · rw [h] at hp
          exact absurd hp (by decide)
        · rcases lenC_is s a with h3 | ⟨j, j1, j2, j3⟩
          · omega
          · obtain ⟨_, e2, e3, _⟩ := ext_spec s j a s.size 0 (by omega) (by omega)
            rw [h]
            intro i hi
            have hi : i < ((n : Int) + 1).toNat := hi
            have := e3 i (by omega) (by omega)
            show bt s (((factS s a).f0.toNat + i : Nat) : Int) = _
            rw [j3, Int.toNat_natCast]
            exact this
    · rw [if_neg c, plnOk]; omega
def costL (p q : Int) : List S63 → Int
  | [] => 0
  | x :: l => (if x.f0 < 0 then p else q) + costL p q l
theorem pln_cost (s : ByteArray) (p q : Int) : ∀ k a, a ≤ s.size → s.size ≤ a + k → costL p q (plnF (chp s p q s.size) s.size k a) = C s p q a
  | 0, a, h1, h2 => by
    rw [plnF, costL, show a = s.size by omega, C_end]
  | k + 1, a, h1, h2 => by
    rw [plnF]
    by_cases c : a < s.size
    · rw [if_pos c, costL]
      have fit := chp_fit s p q a c
      rw [pln_cost s p q k _ (by omega) (by omega)]
      have hx : ((chp s p q s.size).getD a (0, z63)).2 = X s p q a := rfl
      rw [hx]
      rcases (C_rec s p q a c).1 with ⟨h3, h⟩ | ⟨n, h3, h4, h⟩
      · rw [h, h3]
        rfl
      · rcases lenC_is s a with h5 | ⟨j, j1, j2, j3⟩
        · omega
        · rw [h, h4]
          show (if (factS s a).f0 < 0 then p else q) + C s p q (a + ((n : Int) + 1).toNat) = _
          rw [if_neg (by omega), show a + ((n : Int) + 1).toNat = a + n + 1 by omega]
    · rw [if_neg c, costL, show a = s.size by omega, C_end]
/-- no plan is cheaper -/
theorem C_least (s : ByteArray) (p q : Int) : ∀ (l : List S63) (a : Nat), plnOk s l a → C s p q a ≤ costL p q l
  | [], a, h => by
    rw [plnOk] at h
    rw [h, C_end]; exact Int.le_refl _
  | x :: l, a, h => by
    rw [plnOk] at h
    obtain ⟨⟨o1, o2, o3, o4, o5, o7⟩, o6⟩ := h
    have ih := C_least s p q l _ o6
    have hr := C_rec s p q a (by omega)
    rw [costL]
    by_cases c : x.f0 < 0
    · have h1 := o5 c
      rw [if_pos c]
      rw [h1] at ih
      have := hr.2.1
      have e : a + (1 : Int).toNat = a + 1 := rfl
      rw [e] at ih
      omega
    · rw [if_neg c]
      have hag := o7 (by omega)
      have he := ext_ge s x.f0.toNat a x.f1.toNat (by omega) hag
      have hm := lenC_max s a x.f0.toNat (by omega)
      have := hr.2.2 (x.f1.toNat - 1) (by omega)
      rw [show a + (x.f1.toNat - 1) + 1 = a + x.f1.toNat by omega] at this
      omega
theorem pln_len (s : ByteArray) (p q : Int) : ∀ k a, (plnF (chp s p q s.size) s.size k a).length ≤ k
  | 0, _ => by simp [plnF]
  | k + 1, a => by
    rw [plnF]
    split
    · rw [List.length_cons]; have := pln_len s p q k (a + ((chp s p q s.size).getD a (0, z63)).2.f1.toNat); omega
    · simp
end Go.Proofs.YtpeeflkodpnbpaaDoor.Pr

/- parse.Cost, and the references of Plan and Cost, plainly. -/
namespace Go.Proofs.YtpeeflkodpnbpaaDoor.Pr
open Go.RowKit Go.Proofs.YtpeeflkodpnbpaaDoorW.PrintWords Go.Proofs.YtpeeflkodpnbpaaDoorW.PrintLast Go.Proofs.YtpeeflkodpnbpaaDoorW.PrintMore
set_option linter.unusedVariables false
set_option linter.unusedSimpArgs false

theorem costL_eq (p q : Int) : ∀ l : List S63, costL p q l = p * (sgl l : Int) + q * ((l.length : Int) - (sgl l : Int)) ∧ sgl l ≤ l.length
  | [] => by simp [costL, sgl]
  | x :: l => by
    obtain ⟨ih, il⟩ := costL_eq p q l
    rw [costL, sgl, ih, List.length_cons]
    by_cases c : x.f0 < 0
    · rw [if_pos c, if_pos c]
      refine ⟨?_, by omega⟩
      have e1 : p * (((1 + sgl l : Nat) : Int)) = p + p * (sgl l : Int) := by
        rw [show ((1 + sgl l : Nat) : Int) = 1 + (sgl l : Int) by omega, Int.mul_add, Int.mul_one]
      have e2 : (((l.length + 1 : Nat) : Int)) - ((1 + sgl l : Nat) : Int) = (l.length : Int) - (sgl l : Int) := by omega
      rw [e1, e2]; omega
    · rw [if_neg c, if_neg c]
      refine ⟨?_, by omega⟩
      have e2 : (((l.length + 1 : Nat) : Int)) - ((0 + sgl l : Nat) : Int) = 1 + ((l.length : Int) - (sgl l : Int)) := by omega
      rw [e2, Int.mul_add, Int.mul_one, Nat.zero_add]; omega
def costR (s : ByteArray) (l : List S63) (p q : Int) : Int × Int := if isWordC s = true ∧ priceB p q = true then (if plnOk s l 0 then (costL p q l, 0) else (0, 10)) else (0, 2)
theorem cost_ev (s : ByteArray) (l : List S63) (hl : l.length ≤ 1000) (p q : Int) : Evt (fun k => parse_Cost.f k s l p q) (costR s l p q) := by
  unfold parse_Cost.f costR
  have no : Evt (fun k => parse_Cost.j0 k s l p q true) ((0 : Int), (2 : Int)) := by
    refine Evt.now fun k => ?_
    rw [parse_Cost.j0, if_pos rfl]
  refine Evt.bind (Evt.all (fun _ => show parse_isWord.f s = some (isWordC s) from rfl)) ?_
  cases hw : isWordC s with
  | false =>
    rw [if_neg (by simp)]
    exact Evt.neg (by decide) no
  | true =>
    refine Evt.pos rfl (Evt.bind (Evt.all (fun _ => isPrice_eq p q)) ?_)
    cases hpr : priceB p q with
    | false =>
      rw [if_neg (by simp)]
      exact no
    | true =>
      rw [if_pos (by simp)]
      have hs := ((isWordC_iff s).1 hw).1
      refine Evt.step (g' := fun k => (parse_isPlan.f k s l).bind fun t796 => (if t796 = true then ((parse_singles.f l).bind fun t797 => ((parse_singles.f l).bind fun t798 => (some (wrap64 ((wrap64 (p * t797)) + (wrap64 (q * (wrap64 ((l.length : Int) - t798))))), 0)))) else (some (0, 10)))) (fun k => by rw [parse_Cost.j0]; rfl) (Evt.bind (isPlan_ev s hs l hl) ?_)
      by_cases c : plnOk s l 0
      · rw [if_pos c]
        refine Evt.pos (decide_eq_true c) (Evt.all (fun _ => ?_))
        have e : parse_singles.f l = some (sgl l : Int) := by
          rw [parse_singles.f, if_pos (by omega), singN_sgl l (okP_mem (plnOk_okP s hs l 0 c)) l.length (Nat.le_refl _), List.take_length]
        obtain ⟨h1, h2⟩ := costL_eq p q l
        simp only [priceB, Bool.and_eq_true, decide_eq_true_eq] at hpr
        have m1 : 0 ≤ p * (sgl l : Int) ∧ p * (sgl l : Int) ≤ 100 * 1000 := ⟨Int.mul_nonneg (by omega) (by omega), Int.mul_le_mul (by omega) (by omega) (by omega) (by omega)⟩
        have m2 : 0 ≤ q * ((l.length : Int) - (sgl l : Int)) ∧ q * ((l.length : Int) - (sgl l : Int)) ≤ 100 * 1000 := ⟨Int.mul_nonneg (by omega) (by omega), Int.mul_le_mul (by omega) (by omega) (by omega) (by omega)⟩
        have w1 : Aside0 (wrap64 ((l.length : Int) - (sgl l : Int)) = (l.length : Int) - (sgl l : Int)) := ⟨wr (by omega) (by omega)⟩
        have w2 : Aside0 (wrap64 (p * (sgl l : Int)) = p * (sgl l : Int)) := ⟨by generalize p * (sgl l : Int) = Q at *; exact wr (by omega) (by omega)⟩
        have w3 : Aside0 (wrap64 (q * ((l.length : Int) - (sgl l : Int))) = q * ((l.length : Int) - (sgl l : Int))) := ⟨by generalize q * ((l.length : Int) - (sgl l : Int)) = Q at *; exact wr (by omega) (by omega)⟩
        rw [e, Option.bind_some, Option.bind_some, w1.out, w2.out, w3.out, h1]
        congr 2
        generalize p * (sgl l : Int) = Q1 at *
        generalize q * ((l.length : Int) - (sgl l : Int)) = Q2 at *
        exact wr (by omega) (by omega)
      · rw [if_neg c]
        exact Evt.neg (by rw [decide_eq_false c]; decide) (Evt.all (fun _ => rfl))
end Go.Proofs.YtpeeflkodpnbpaaDoor.Pr

/- awake() answers true. -/
namespace Go.Proofs.YtpeeflkodpnbpaaDoor.Pr
open Go.RowKit Go.Proofs.YtpeeflkodpnbpaaDoorW.PrintWords Go.Proofs.YtpeeflkodpnbpaaDoorW.PrintLast Go.Proofs.YtpeeflkodpnbpaaDoorW.PrintMore
set_option linter.unusedVariables false
set_option maxRecDepth 1000000 in
theorem awake_run : numnahlaw09_awake.f 200 = some true := by kernel_rfl
theorem awake_ev : Evt (fun k => numnahlaw09_awake.f k) true := ⟨200, fun k hk => at_rounds (fun k => numnahlaw09_awake.mono k) hk awake_run⟩
theorem awake_bind : Evt (fun k => (numnahlaw09_awake.f k).bind fun t => some t) true := Evt.congr awake_ev (fun k => by cases numnahlaw09_awake.f k <;> rfl)
end Go.Proofs.YtpeeflkodpnbpaaDoor.Pr

namespace Go.Proofs.YtpeeflkodpnbpaaDoor.Pure
open Go.RowKit Go.Proofs.YtpeeflkodpnbpaaDoor.Pr Go.Proofs.YtpeeflkodpnbpaaDoorW.PrintWords Go.Proofs.YtpeeflkodpnbpaaDoorW.PrintLast
set_option linter.unusedVariables false
set_option linter.unusedSimpArgs false

/-- the copying parse of an end has at most as many factors as a plan of a longer end -/
theorem cop_few (s : ByteArray) : ∀ (l : List S63) (a : Nat), plnOk s l a → ∀ (q i : Nat), a ≤ i → i ≤ s.size → (copF s q i).length ≤ l.length
  | [], a, h, q, i, h1, h2 => by
    rw [plnOk] at h
    rw [copF_stop (by omega)]
    exact Nat.le_refl _
  | x :: l, a, h, q, i, h1, h2 => by
    rw [plnOk] at h
    obtain ⟨⟨o1, o2, o3, o4, o5, o7⟩, o6⟩ := h
    by_cases c : a + x.f1.toNat ≤ i
    · have := cop_few s l _ o6 q i c h2
      rw [List.length_cons]; omega
    · cases q with
      | zero => simp [copF]
      | succ q =>
        rw [copF]
        by_cases d : i < s.size
        · rw [if_pos d, List.length_cons, List.length_cons]
          have ok := fact_ok s i d
          have hk : a + x.f1.toNat ≤ i + (factS s i).f1.toNat := by
            by_cases e : x.f0 < 0
            · have := o5 e
              omega
            · have hag := o7 (by omega)
              have hx := ext_ge s (x.f0.toNat + (i - a)) i (x.f1.toNat - (i - a)) (by omega) (fun m hm => by
                have := hag ((i - a) + m) (by omega)
                rw [show x.f0.toNat + (i - a) + m = x.f0.toNat + ((i - a) + m) by omega, this, show a + ((i - a) + m) = i + m by omega])
              have hm := fact_max s i (x.f0.toNat + (i - a)) (by omega)
              omega
          have := cop_few s l _ o6 q (i + (factS s i).f1.toNat) hk (by omega)
          omega
        · rw [if_neg d]
          simp
theorem cost_one : ∀ l : List S63, costL 1 1 l = (l.length : Int)
  | [] => rfl
  | x :: l => by
    rw [costL, cost_one l, List.length_cons]
    split <;> omega
/-- the plan of all letters -/
def ltrs (m : Nat) : List S63 := List.replicate m ⟨-1, 1⟩
theorem ltrs_ok (s : ByteArray) : ∀ m a, a + m = s.size → plnOk s (ltrs m) a
  | 0, a, h => by rw [ltrs, List.replicate_zero, plnOk]; omega
  | m + 1, a, h => by
    rw [ltrs, List.replicate_succ, plnOk]
    exact ⟨⟨by decide, by dsimp only; omega, by decide, by dsimp only; omega, fun _ => rfl, fun h => absurd h (by decide)⟩, ltrs_ok s m (a + 1) (by omega)⟩
theorem ltrs_cost (p q : Int) : ∀ m, costL p q (ltrs m) = p * (m : Int)
  | 0 => by rw [ltrs, List.replicate_zero, costL]; simp
  | m + 1 => by
    have := ltrs_cost p q m
    unfold ltrs at this
    rw [ltrs, List.replicate_succ, costL, this, if_pos (by decide), show ((m + 1 : Nat) : Int) = (m : Int) + 1 from rfl, Int.mul_add]
    omega
theorem gr_l0 (s : ByteArray) (hs : s.size ≤ 160) (hw : isWordC s = true) (p q : Int) (hpr : priceB p q = true) (F : List S63) (m a : Int) (h1 : m ≤ a) (h2 : m ≤ p * (s.size : Int)) (hp : 1 ≤ p ∧ p ≤ 100) : ∀ (n i : Nat), i + n = s.size →
    Evt (fun k => numnahlaw09_ParseGreedy.l0 k p q s F 0 (F.length : Int) 0 (F.length : Int) 0 m 0 a 0 (ltrs i) (i : Int)) true
  | 0, i, hi => by
    obtain rfl : i = s.size := by omega
    have hc := cost_ev s (ltrs s.size) (by simp [ltrs]; omega) p q
    unfold costR at hc
    rw [if_pos ⟨hw, hpr⟩, if_pos (ltrs_ok s s.size 0 (by omega)), ltrs_cost] at hc
    have m1 : 0 ≤ p * (s.size : Int) ∧ p * (s.size : Int) ≤ 100 * 160 := ⟨Int.mul_nonneg (by omega) (by omega), Int.mul_le_mul (by omega) (by omega) (by omega) (by omega)⟩
    have w1 : wrap64 (p * (s.size : Int)) = p * (s.size : Int) := by generalize p * (s.size : Int) = Q at *; exact wr (by omega) (by omega)
    refine Evt.step (g' := fun k => (parse_Cost.f k s (ltrs s.size) p q).bind fun bt856 => (if (0 : Int) = 0 then (if (0 : Int) = 0 then (if (0 : Int) = 0 then (if (0 : Int) = 0 then (if (0 : Int) = 0 then (if bt856.2 = 0 then (if (F.length : Int) = (F.length : Int) then (if (F.length : Int) = (F.length : Int) then (if m ≤ a then (if m ≤ bt856.1 then (if bt856.1 = (wrap64 (p * (s.size : Int))) then ((numnahlaw09_awake.f k).bind fun t858 => (some t858)) else (some false)) else (some false)) else (some false)) else (some false)) else (some false)) else (some false)) else (some false)) else (some false)) else (some false)) else (some false)) else (some false))) (fun k => by rw [numnahlaw09_ParseGreedy.l0, if_neg (by omega)]) (Evt.bind hc ?_)
    exact Evt.pos rfl (Evt.pos rfl (Evt.pos rfl (Evt.pos rfl (Evt.pos rfl (Evt.pos rfl (Evt.pos rfl (Evt.pos rfl (Evt.pos h1 (Evt.pos h2 (Evt.pos w1.symm awake_bind))))))))))
  | n + 1, i, hi => by
    have w2 : Aside0 (wrap64 ((i : Int) + 1) = ((i + 1 : Nat) : Int)) := ⟨(wr (by omega) (by omega)).trans (by omega)⟩
    have e : ltrs i ++ [(⟨(-1), 1⟩ : S63)] = ltrs (i + 1) := by
      rw [ltrs, ltrs, List.replicate_succ']
    have hl : (ltrs i).length = i := by simp [ltrs]
    refine Evt.step (fun k => ?_) (gr_l0 s hs hw p q hpr F m a h1 h2 hp n (i + 1) (by omega))
    rw [numnahlaw09_ParseGreedy.l0, if_pos (by omega), if_pos (by omega), e, w2.out]
theorem gr_mod (x : Int) : ∃ r : Int, 0 ≤ r ∧ r < 100 ∧ numnahlaw09_mod.f x 100 = some r := by
  obtain ⟨r, h1, h2⟩ := mod_some x 100 (by omega) (by omega)
  exact ⟨(r : Int), by omega, by omega, h2⟩
theorem ParseGreedy : numnahlaw09_ParseGreedy.Pure := by
  intro a0 a1 a2 ha
  intros
  apply Evt.ex
  obtain ⟨s, hs, hw, ht⟩ := tame_ev a0 ha 160 (by omega)
  show Evt (fun k => numnahlaw09_ParseGreedy.f k a0 a1 a2) true
  unfold numnahlaw09_ParseGreedy.f
  refine Evt.bind ht ?_
  obtain ⟨x1, x2, x3, hx⟩ := gr_mod a1
  obtain ⟨y1, y2, y3, hy⟩ := gr_mod a2
  have wx : wrap64 (1 + x1) = 1 + x1 := wr (by omega) (by omega)
  have wy : wrap64 (1 + y1) = 1 + y1 := wr (by omega) (by omega)
  have eF : parse_Copying.f s = some (copF s s.size 0, 0) := by rw [parse_Copying.f, hw]; rfl
  have hFl : (copF s s.size 0).length ≤ 160 := by have := copF_leq s s.size 0; omega
  have hpl := cop_plan s s.size 0 (by omega) (by omega)
  have hfew := cop_few s _ 0 (pln_ok s 1 1 s.size 0 (by omega) (by omega)) s.size 0 (by omega) (by omega)
  have hc1 := pln_cost s 1 1 s.size 0 (by omega) (by omega)
  have hl1 := C_least s 1 1 _ 0 hpl
  rw [cost_one] at hc1 hl1
  have hk : C s 1 1 0 = ((copF s s.size 0).length : Int) := by omega
  have hl2 := C_least s (1 + x1) (1 + y1) _ 0 hpl
  have hl3 := C_least s (1 + x1) (1 + y1) _ 0 (ltrs_ok s s.size 0 (by omega))
  rw [ltrs_cost] at hl3
  have p1 : priceB 1 1 = true := rfl
  have p2 : priceB (1 + x1) (1 + y1) = true := by
    unfold priceB
    rw [decide_eq_true (show 1 ≤ 1 + x1 by omega), decide_eq_true (show 1 + x1 ≤ 100 by omega), decide_eq_true (show 1 ≤ 1 + y1 by omega), decide_eq_true (show 1 + y1 ≤ 100 by omega)]
    rfl
  have e1 : parse_Cheapest.f s 1 1 = some ((cheapF s 1 1).1, ((copF s s.size 0).length : Int), 0) := by
    rw [parse_Cheapest.f, cheapR, if_pos ⟨hw, p1⟩, ← hk]; rfl
  have e2 : parse_Cheapest.f s (1 + x1) (1 + y1) = some ((cheapF s (1 + x1) (1 + y1)).1, C s (1 + x1) (1 + y1) 0, 0) := by
    rw [parse_Cheapest.f, cheapR, if_pos ⟨hw, p2⟩]; rfl
  have c1 := cost_ev s (copF s s.size 0) (by omega) 1 1
  unfold costR at c1
  rw [if_pos ⟨hw, p1⟩, if_pos hpl, cost_one] at c1
  have c2 := cost_ev s (copF s s.size 0) (by omega) (1 + x1) (1 + y1)
  unfold costR at c2
  rw [if_pos ⟨hw, p2⟩, if_pos hpl] at c2
  refine Evt.bind (Evt.all (fun _ => hx)) (Evt.bind (Evt.all (fun _ => hy)) ?_)
  rw [wx, wy]
  refine Evt.bind (Evt.all (fun _ => eF)) (Evt.bind (Evt.all (fun _ => e1)) (Evt.bind c1 (Evt.bind (Evt.all (fun _ => e2)) (Evt.bind c2 ?_))))
  exact gr_l0 s hs hw (1 + x1) (1 + y1) p2 (copF s s.size 0) _ _ hl2 hl3 ⟨by omega, by omega⟩ s.size 0 (by omega)
end Go.Proofs.YtpeeflkodpnbpaaDoor.Pure
